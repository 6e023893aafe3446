/- Texts of this proof, joined (Ty, Ref, Ref2, Ref3, Ref4, Ref5, Ref6, Ref7, Ref8, Ref9, Ref10): a small program logic over the model, and what functions of the program give. No statement of the seat is proved here. -/
import Derived.Test.YtbodonldkndgjaaRows
import Derived.Test.YtbodonldkndgjaaJ3
set_option linter.unusedVariables false
set_option linter.unusedSimpArgs false

/-! Ty -/
namespace Go.Px.Try
open Go Go.Proofs Go.Px

theorem TsOk.nil (P : Program) : TsOk P (fun _ => none) := fun _ _ h => by cases h
theorem TsOk.cons {P : Program} {t : Nat} {ti : TI} {f : Nat → Option TI} (h : TOk P ti t) (hl : TsOk P f) : TsOk P (fun j => bif Nat.beq t j then some ti else f j) := by
  intro t' ti' ht
  simp only at ht
  cases hb : Nat.beq t t' with
  | true => rw [hb] at ht; obtain rfl := Nat.eq_of_beq_eq_true hb; cases ht; exact h
  | false => rw [hb] at ht; exact hl t' ti' ht
theorem info_of {P : Program} {t : Nat} {i : TypeInfo} (h : P.types[t]? = some i) : P.info? t = some i := by
  unfold Tables.info?
  rw [if_pos (Array.getElem?_eq_some_iff.1 h).1]; exact h
theorem oneAll {cs : Array Value} (h : (cs.toList.all Value.oneCell') = true) : ∀ u ∈ cs, u.oneCell' = true := fun u hu => List.all_eq_true.1 h u (Array.mem_toList_iff.2 hu)

def ti24 : TI := ⟨TypeDesc.struct #[{ name := "Start", type := 2, offset := 0, embedded := false, tag := "", pkgPath := "", byteOffset := 0 }, { name := "Limit", type := 2, offset := 1, embedded := false, tag := "", pkgPath := "", byteOffset := 8 }, { name := "Gain", type := 2, offset := 2, embedded := false, tag := "", pkgPath := "", byteOffset := 16 }, { name := "Fall", type := 2, offset := 3, embedded := false, tag := "", pkgPath := "", byteOffset := 24 }, { name := "Hours", type := 22, offset := 4, embedded := false, tag := "", pkgPath := "", byteOffset := 32 }], Value.agg #[Value.int IntKind.i64 0, Value.int IntKind.i64 0, Value.int IntKind.i64 0, Value.int IntKind.i64 0, Value.slice none 0 0], 5, 56, none, none⟩
def ti2 : TI := ⟨TypeDesc.int IntKind.i64, Value.int IntKind.i64 0, 1, 8, none, none⟩
def ti25 : TI := ⟨TypeDesc.slice 3, Value.slice none 0 0, 1, 24, none, none⟩
def ti29 : TI := ⟨TypeDesc.slice 2, Value.slice none 0 0, 1, 24, none, none⟩
def ti22 : TI := ⟨TypeDesc.slice 73, Value.slice none 0 0, 1, 24, none, none⟩
def ti3 : TI := ⟨TypeDesc.int IntKind.i64, Value.int IntKind.i64 0, 1, 8, none, none⟩
def ti4 : TI := ⟨TypeDesc.bool, Value.bool false, 1, 1, none, none⟩
def ti73 : TI := ⟨TypeDesc.struct #[{ name := "Room", type := 71, offset := 0, embedded := false, tag := "", pkgPath := "", byteOffset := 0 }, { name := "Pounds", type := 2, offset := 2, embedded := false, tag := "", pkgPath := "", byteOffset := 16 }], Value.agg #[Value.int IntKind.i64 0, Value.int IntKind.i64 0, Value.int IntKind.i64 0], 3, 24, none, none⟩
def ti97 : TI := ⟨TypeDesc.struct #[{ name := "grinds", type := 3, offset := 0, embedded := false, tag := "", pkgPath := "senvy/stone", byteOffset := 0 }, { name := "pounds", type := 2, offset := 1, embedded := false, tag := "", pkgPath := "senvy/stone", byteOffset := 8 }, { name := "heat", type := 2, offset := 2, embedded := false, tag := "", pkgPath := "senvy/stone", byteOffset := 16 }], Value.agg #[Value.int IntKind.i64 0, Value.int IntKind.i64 0, Value.int IntKind.i64 0], 3, 24, none, none⟩
def ti59 : TI := ⟨TypeDesc.slice 29, Value.slice none 0 0, 1, 24, none, none⟩
def ti30 : TI := ⟨TypeDesc.int IntKind.i64, Value.int IntKind.i64 0, 1, 8, none, none⟩
def ti71 : TI := ⟨TypeDesc.struct #[{ name := "Lo", type := 2, offset := 0, embedded := false, tag := "", pkgPath := "", byteOffset := 0 }, { name := "Hi", type := 2, offset := 1, embedded := false, tag := "", pkgPath := "", byteOffset := 8 }], Value.agg #[Value.int IntKind.i64 0, Value.int IntKind.i64 0], 2, 16, none, none⟩
def ti107 : TI := ⟨TypeDesc.struct #[{ name := "StoneMill", type := 24, offset := 0, embedded := true, tag := "", pkgPath := "", byteOffset := 0 }, { name := "more", type := 2, offset := 5, embedded := false, tag := "", pkgPath := "senvy/stone", byteOffset := 56 }], Value.agg #[Value.int IntKind.i64 0, Value.int IntKind.i64 0, Value.int IntKind.i64 0, Value.int IntKind.i64 0, Value.slice none 0 0, Value.int IntKind.i64 0], 6, 64, none, none⟩
def ti105 : TI := ⟨TypeDesc.struct #[{ name := "hour", type := 3, offset := 0, embedded := false, tag := "", pkgPath := "senvy/stone", byteOffset := 0 }, { name := "heat", type := 2, offset := 1, embedded := false, tag := "", pkgPath := "senvy/stone", byteOffset := 8 }], Value.agg #[Value.int IntKind.i64 0, Value.int IntKind.i64 0], 2, 16, none, none⟩
def ti78 : TI := ⟨TypeDesc.pointer 107, Value.pointer none, 1, 8, none, none⟩
def ti91 : TI := ⟨TypeDesc.slice 95, Value.slice none 0 0, 1, 24, none, none⟩
def ti95 : TI := ⟨TypeDesc.array 42 2, Value.agg #[Value.int IntKind.i64 0, Value.int IntKind.i64 0, Value.int IntKind.i64 0, Value.int IntKind.i64 0, Value.int IntKind.i64 0, Value.int IntKind.i64 0, Value.int IntKind.i64 0, Value.int IntKind.i64 0, Value.int IntKind.i64 0, Value.int IntKind.i64 0, Value.int IntKind.i64 0, Value.int IntKind.i64 0, Value.int IntKind.i64 0, Value.int IntKind.i64 0, Value.int IntKind.i64 0, Value.int IntKind.i64 0, Value.int IntKind.i64 0, Value.int IntKind.i64 0, Value.int IntKind.i64 0, Value.int IntKind.i64 0, Value.int IntKind.i64 0, Value.int IntKind.i64 0, Value.int IntKind.i64 0, Value.int IntKind.i64 0, Value.int IntKind.i64 0, Value.int IntKind.i64 0, Value.int IntKind.i64 0, Value.int IntKind.i64 0, Value.int IntKind.i64 0, Value.int IntKind.i64 0, Value.int IntKind.i64 0, Value.int IntKind.i64 0, Value.int IntKind.i64 0, Value.int IntKind.i64 0, Value.int IntKind.i64 0, Value.int IntKind.i64 0, Value.int IntKind.i64 0, Value.int IntKind.i64 0, Value.int IntKind.i64 0, Value.int IntKind.i64 0, Value.int IntKind.i64 0, Value.int IntKind.i64 0], 42, 336, some 42, none⟩
def ti127 : TI := ⟨TypeDesc.map 105 2, Value.map none, 1, 8, none, some ⟨true, 2⟩⟩
def ti5 : TI := ⟨TypeDesc.int IntKind.u8, Value.int IntKind.u8 0, 1, 1, none, none⟩
def ti99 : TI := ⟨TypeDesc.slice 97, Value.slice none 0 0, 1, 24, none, none⟩
def ti48 : TI := ⟨TypeDesc.int IntKind.u16, Value.int IntKind.u16 0, 1, 2, none, none⟩
def ti117 : TI := ⟨TypeDesc.slice 25, Value.slice none 0 0, 1, 24, none, none⟩
def ti102 : TI := ⟨TypeDesc.func #[125] #[] false, Value.nilFunc, 1, 8, none, none⟩
def ti115 : TI := ⟨TypeDesc.func #[29] #[4] false, Value.nilFunc, 1, 8, none, none⟩
def ti69 : TI := ⟨TypeDesc.slice 5, Value.slice none 0 0, 1, 24, none, none⟩
def ti122 : TI := ⟨TypeDesc.func #[2] #[4] false, Value.nilFunc, 1, 8, none, none⟩
def ti88 : TI := ⟨TypeDesc.func #[73] #[4] false, Value.nilFunc, 1, 8, none, none⟩
def ti119 : TI := ⟨TypeDesc.func #[3] #[4] false, Value.nilFunc, 1, 8, none, none⟩
def ti108 : TI := ⟨TypeDesc.func #[97, 97] #[4] false, Value.nilFunc, 1, 8, none, none⟩
def ti125 : TI := ⟨TypeDesc.func #[97] #[4] false, Value.nilFunc, 1, 8, none, none⟩
def ti20 : TI := ⟨TypeDesc.interface #[], Value.nilIface, 1, 16, none, none⟩

theorem tok24 : TOk Try.prog ti24 24 := ⟨Try.underlying24, by rw [info_of Try.type24]; rfl, rfl, oneAll rfl, nofun, nofun, nofun⟩
theorem tok2 : TOk Try.prog ti2 2 := ⟨Try.underlying2, by rw [info_of Try.type2]; rfl, rfl, oneAll rfl, fun _ => ⟨rfl, rfl⟩, nofun, nofun⟩
theorem tok25 : TOk Try.prog ti25 25 := ⟨Try.underlying25, by rw [info_of Try.type25]; rfl, rfl, oneAll rfl, fun _ => ⟨rfl, rfl⟩, nofun, nofun⟩
theorem tok29 : TOk Try.prog ti29 29 := ⟨Try.underlying29, by rw [info_of Try.type29]; rfl, rfl, oneAll rfl, fun _ => ⟨rfl, rfl⟩, nofun, nofun⟩
theorem tok22 : TOk Try.prog ti22 22 := ⟨Try.underlying22, by rw [info_of Try.type22]; rfl, rfl, oneAll rfl, fun _ => ⟨rfl, rfl⟩, nofun, nofun⟩
theorem tok3 : TOk Try.prog ti3 3 := ⟨Try.underlying3, by rw [info_of Try.type3]; rfl, rfl, oneAll rfl, fun _ => ⟨rfl, rfl⟩, nofun, nofun⟩
theorem tok4 : TOk Try.prog ti4 4 := ⟨Try.underlying4, by rw [info_of Try.type4]; rfl, rfl, oneAll rfl, fun _ => ⟨rfl, rfl⟩, nofun, nofun⟩
theorem tok73 : TOk Try.prog ti73 73 := ⟨Try.underlying73, by rw [info_of Try.type73]; rfl, rfl, oneAll rfl, nofun, nofun, nofun⟩
theorem tok97 : TOk Try.prog ti97 97 := ⟨Try.underlying97, by rw [info_of Try.type97]; rfl, rfl, oneAll rfl, nofun, nofun, nofun⟩
theorem tok59 : TOk Try.prog ti59 59 := ⟨Try.underlying59, by rw [info_of Try.type59]; rfl, rfl, oneAll rfl, fun _ => ⟨rfl, rfl⟩, nofun, nofun⟩
theorem tok30 : TOk Try.prog ti30 30 := ⟨Try.underlying30, by rw [info_of Try.type30]; rfl, rfl, oneAll rfl, fun _ => ⟨rfl, rfl⟩, nofun, nofun⟩
theorem tok71 : TOk Try.prog ti71 71 := ⟨Try.underlying71, by rw [info_of Try.type71]; rfl, rfl, oneAll rfl, nofun, nofun, nofun⟩
theorem tok107 : TOk Try.prog ti107 107 := ⟨Try.underlying107, by rw [info_of Try.type107]; rfl, rfl, oneAll rfl, nofun, nofun, nofun⟩
theorem tok105 : TOk Try.prog ti105 105 := ⟨Try.underlying105, by rw [info_of Try.type105]; rfl, rfl, oneAll rfl, nofun, nofun, nofun⟩
theorem tok78 : TOk Try.prog ti78 78 := ⟨Try.underlying78, by rw [info_of Try.type78]; rfl, rfl, oneAll rfl, fun _ => ⟨rfl, rfl⟩, nofun, nofun⟩
theorem tok91 : TOk Try.prog ti91 91 := ⟨Try.underlying91, by rw [info_of Try.type91]; rfl, rfl, oneAll rfl, fun _ => ⟨rfl, rfl⟩, nofun, nofun⟩
theorem tok95 : TOk Try.prog ti95 95 := ⟨Try.underlying95, by rw [info_of Try.type95]; rfl, rfl, oneAll rfl, nofun, fun _ h => by cases h; exact eqT_array Try.underlying95 Try.eqGuardType95 Try.underlying2 (info_of Try.type2) rfl, nofun⟩
theorem tok127 : TOk Try.prog ti127 127 := ⟨Try.underlying127, by rw [info_of Try.type127]; rfl, rfl, oneAll rfl, fun _ => ⟨rfl, rfl⟩, nofun, fun _ h => by cases h; exact mapT Try.underlying127 (keyOk_struct Try.underlying105 Try.stoodInHeld105 Try.eqGuardType105 ⟨by decide, rfl, Try.underlying3, by decide, rfl, Try.underlying2, trivial⟩) fun w => Try.zeroValue2 w⟩
theorem tok5 : TOk Try.prog ti5 5 := ⟨Try.underlying5, by rw [info_of Try.type5]; rfl, rfl, oneAll rfl, fun _ => ⟨rfl, rfl⟩, nofun, nofun⟩
theorem tok99 : TOk Try.prog ti99 99 := ⟨Try.underlying99, by rw [info_of Try.type99]; rfl, rfl, oneAll rfl, fun _ => ⟨rfl, rfl⟩, nofun, nofun⟩
theorem tok48 : TOk Try.prog ti48 48 := ⟨Try.underlying48, by rw [info_of Try.type48]; rfl, rfl, oneAll rfl, fun _ => ⟨rfl, rfl⟩, nofun, nofun⟩
theorem tok117 : TOk Try.prog ti117 117 := ⟨Try.underlying117, by rw [info_of Try.type117]; rfl, rfl, oneAll rfl, fun _ => ⟨rfl, rfl⟩, nofun, nofun⟩
theorem tok102 : TOk Try.prog ti102 102 := ⟨Try.underlying102, by rw [info_of Try.type102]; rfl, rfl, oneAll rfl, fun _ => ⟨rfl, rfl⟩, nofun, nofun⟩
theorem tok115 : TOk Try.prog ti115 115 := ⟨Try.underlying115, by rw [info_of Try.type115]; rfl, rfl, oneAll rfl, fun _ => ⟨rfl, rfl⟩, nofun, nofun⟩
theorem tok69 : TOk Try.prog ti69 69 := ⟨Try.underlying69, by rw [info_of Try.type69]; rfl, rfl, oneAll rfl, fun _ => ⟨rfl, rfl⟩, nofun, nofun⟩
theorem tok122 : TOk Try.prog ti122 122 := ⟨Try.underlying122, by rw [info_of Try.type122]; rfl, rfl, oneAll rfl, fun _ => ⟨rfl, rfl⟩, nofun, nofun⟩
theorem tok88 : TOk Try.prog ti88 88 := ⟨Try.underlying88, by rw [info_of Try.type88]; rfl, rfl, oneAll rfl, fun _ => ⟨rfl, rfl⟩, nofun, nofun⟩
theorem tok119 : TOk Try.prog ti119 119 := ⟨Try.underlying119, by rw [info_of Try.type119]; rfl, rfl, oneAll rfl, fun _ => ⟨rfl, rfl⟩, nofun, nofun⟩
theorem tok108 : TOk Try.prog ti108 108 := ⟨Try.underlying108, by rw [info_of Try.type108]; rfl, rfl, oneAll rfl, fun _ => ⟨rfl, rfl⟩, nofun, nofun⟩
theorem tok125 : TOk Try.prog ti125 125 := ⟨Try.underlying125, by rw [info_of Try.type125]; rfl, rfl, oneAll rfl, fun _ => ⟨rfl, rfl⟩, nofun, nofun⟩
theorem tok20 : TOk Try.prog ti20 20 := ⟨Try.underlying20, by rw [info_of Try.type20]; rfl, rfl, oneAll rfl, fun _ => ⟨rfl, rfl⟩, nofun, nofun⟩

def T (j : Nat) : Option TI :=
  bif Nat.beq 24 j then some ti24 else
  bif Nat.beq 2 j then some ti2 else
  bif Nat.beq 25 j then some ti25 else
  bif Nat.beq 29 j then some ti29 else
  bif Nat.beq 22 j then some ti22 else
  bif Nat.beq 3 j then some ti3 else
  bif Nat.beq 4 j then some ti4 else
  bif Nat.beq 73 j then some ti73 else
  bif Nat.beq 97 j then some ti97 else
  bif Nat.beq 59 j then some ti59 else
  bif Nat.beq 30 j then some ti30 else
  bif Nat.beq 71 j then some ti71 else
  bif Nat.beq 107 j then some ti107 else
  bif Nat.beq 105 j then some ti105 else
  bif Nat.beq 78 j then some ti78 else
  bif Nat.beq 91 j then some ti91 else
  bif Nat.beq 95 j then some ti95 else
  bif Nat.beq 127 j then some ti127 else
  bif Nat.beq 5 j then some ti5 else
  bif Nat.beq 99 j then some ti99 else
  bif Nat.beq 48 j then some ti48 else
  bif Nat.beq 117 j then some ti117 else
  bif Nat.beq 102 j then some ti102 else
  bif Nat.beq 115 j then some ti115 else
  bif Nat.beq 69 j then some ti69 else
  bif Nat.beq 122 j then some ti122 else
  bif Nat.beq 88 j then some ti88 else
  bif Nat.beq 119 j then some ti119 else
  bif Nat.beq 108 j then some ti108 else
  bif Nat.beq 125 j then some ti125 else
  bif Nat.beq 20 j then some ti20 else
  none
theorem tys : TsOk Try.prog T := TsOk.cons tok24 (TsOk.cons tok2 (TsOk.cons tok25 (TsOk.cons tok29 (TsOk.cons tok22 (TsOk.cons tok3 (TsOk.cons tok4 (TsOk.cons tok73 (TsOk.cons tok97 (TsOk.cons tok59 (TsOk.cons tok30 (TsOk.cons tok71 (TsOk.cons tok107 (TsOk.cons tok105 (TsOk.cons tok78 (TsOk.cons tok91 (TsOk.cons tok95 (TsOk.cons tok127 (TsOk.cons tok5 (TsOk.cons tok99 (TsOk.cons tok48 (TsOk.cons tok117 (TsOk.cons tok102 (TsOk.cons tok115 (TsOk.cons tok69 (TsOk.cons tok122 (TsOk.cons tok88 (TsOk.cons tok119 (TsOk.cons tok108 (TsOk.cons tok125 (TsOk.cons tok20 (TsOk.nil _)))))))))))))))))))))))))))))))
end Go.Px.Try

/-! Ref -/
namespace Go.Px.Try
open Go Go.Proofs Go.Px

theorem hM : Try.prog.follows .mixedOrders = true := Checked.mixed Try.checked

structure Hour where
  lo : Int
  hi : Int
  pounds : Int
structure Mill where
  start : Int
  limit : Int
  gain : Int
  fall : Int
  hours : List Hour
instance : Inhabited Hour := ⟨⟨0, 0, 0⟩⟩

def hourD (h : Hour) : DV := st [int h.lo, int h.hi, int h.pounds]
def millD (m : Mill) : DV := st [int m.start, int m.limit, int m.gain, int m.fall, slOf 3 hourD default m.hours]
def millL (m : Mill) : List DV := [int m.start, int m.limit, int m.gain, int m.fall, slOf 3 hourD default m.hours]

def after (m : Mill) (heat room grinds : Int) : Int := if grinds = 1 then max heat room + m.gain else max room (heat - m.fall)
def Sm (b x : Int) : Prop := -b ≤ x ∧ x ≤ b

theorem is_spec (n lo hi : Int) : Fn Try.prog 65 [int n, int lo, int hi] (bool (decide (lo ≤ n ∧ n ≤ hi))) := by
  refine Fn.of_ex (cuts := []) tys hM Try.func65 rfl Try.call65 rfl ?_
  show exC Try.prog T [] _ false none 0 (entry 15 [int n, int lo, int hi]) (finQ T [ResultVar.tmp 6] _)
  conv => whnf
  repeat' first
    | (refine Ob.tt True.intro ?_; conv => whnf)
    | (refine Ob.tt rfl ?_; conv => whnf)
    | (refine Ob.tt (And.intro True.intro (And.intro True.intro True.intro)) ?_; conv => whnf)
    | (refine Ob.tt (And.intro True.intro (And.intro True.intro (And.intro True.intro True.intro))) ?_; conv => whnf)
    | (refine Ob.tt (And.intro True.intro True.intro) ?_; conv => whnf)
    | (refine Ob.tt (Nat.le_of_ble_eq_true rfl) ?_; conv => whnf)
    | (refine Ob.inR (fun _ => ?_) ?_; rotate_left; skip; rotate_right); (conv => whnf)
    | (refine Ob.and (fun _ => ?_) ?_; rotate_left; skip; rotate_right); (conv => whnf)
    | (refine Ob.ltN (fun _ => ?_) ?_; rotate_left; skip; rotate_right); (conv => whnf)
    | (refine Ob.leN (fun _ => ?_) ?_; rotate_left; skip; rotate_right); (conv => whnf)
    | (refine Sp.tt ?_; conv => whnf)
    | (refine Sp.ff ?_; conv => whnf)
    | (refine Sp.dec (fun hc => ?_) (fun hc => ?_) <;> (conv => whnf))
    | (refine Sp.ndec (fun hc => ?_) (fun hc => ?_) <;> (conv => whnf))
    | (refine Sp.mk (fun hc => ?_) (fun hc => ?_) <;> (conv => whnf))
    | (refine Fi.mk (by repeat' first | (refine Edge.fast ?_) | ((conv => whnf); first | exact True.intro | (refine And.intro ?_ ?_) | exact rfl | exact Nat.le_of_eq (Nat.zero_add _) | exact ImpS.refl _) | exact rfl | (refine And.intro ?_ ?_) | exact ImpS.refl _) ?_; (conv => whnf))
  all_goals first | (simp_all; done) | (simp_all; omega)

theorem After_spec (m : Mill) (heat room grinds : Int) (h1 : Sm 1000000000 heat ∧ Sm 1000000000 room ∧ Sm 1000 m.gain ∧ Sm 1000 m.fall) : Fn Try.prog 75 [millD m, int heat, int room, int grinds] (int (after m heat room grinds)) := by
  obtain ⟨⟨_, _⟩, ⟨_, _⟩, ⟨_, _⟩, ⟨_, _⟩⟩ := h1
  refine Fn.of_ex (cuts := []) tys hM Try.func75 rfl Try.call75 rfl ?_
  show exC Try.prog T [] _ false none 0 (entry 23 [millD m, int heat, int room, int grinds]) (finQ T [ResultVar.tmp 8] _)
  conv => whnf
  repeat' first
    | (refine Ob.tt True.intro ?_; conv => whnf)
    | (refine Ob.tt rfl ?_; conv => whnf)
    | (refine Ob.tt (And.intro True.intro (And.intro True.intro True.intro)) ?_; conv => whnf)
    | (refine Ob.tt (And.intro True.intro (And.intro True.intro (And.intro True.intro True.intro))) ?_; conv => whnf)
    | (refine Ob.tt (And.intro True.intro True.intro) ?_; conv => whnf)
    | (refine Ob.tt (Nat.le_of_ble_eq_true rfl) ?_; conv => whnf)
    | (refine Ob.inR (fun _ => ?_) ?_; rotate_left; skip; rotate_right); (conv => whnf)
    | (refine Ob.and (fun _ => ?_) ?_; rotate_left; skip; rotate_right); (conv => whnf)
    | (refine Ob.ltN (fun _ => ?_) ?_; rotate_left; skip; rotate_right); (conv => whnf)
    | (refine Ob.leN (fun _ => ?_) ?_; rotate_left; skip; rotate_right); (conv => whnf)
    | (refine Sp.tt ?_; conv => whnf)
    | (refine Sp.ff ?_; conv => whnf)
    | (refine Sp.dec (fun hc => ?_) (fun hc => ?_) <;> (conv => whnf))
    | (refine Sp.ndec (fun hc => ?_) (fun hc => ?_) <;> (conv => whnf))
    | (refine Sp.mk (fun hc => ?_) (fun hc => ?_) <;> (conv => whnf))
    | (refine Fi.mk (by repeat' first | (refine Edge.fast ?_) | ((conv => whnf); first | exact True.intro | (refine And.intro ?_ ?_) | exact rfl | exact Nat.le_of_eq (Nat.zero_add _) | exact ImpS.refl _) | exact rfl | (refine And.intro ?_ ?_) | exact ImpS.refl _) ?_; (conv => whnf))
  all_goals first | omega | (refine ⟨rfl, ?_⟩; simp only [after]; split <;> first | rfl | contradiction)

def heatsGo (m : Mill) (plan room : List Int) : Nat → Nat → Int → List Int
  | 0, _, _ => []
  | k + 1, i, heat => after m heat (room.getD i 0) (plan.getD i 0) :: heatsGo m plan room k (i + 1) (after m heat (room.getD i 0) (plan.getD i 0))

theorem after_sm {m : Mill} {heat room grinds : Int} {b : Int} (hb : 1000 ≤ b) (h1 : Sm b heat) (h2 : Sm 1000 room) (h3 : Sm 1000 m.gain) (h4 : Sm 1000 m.fall) : Sm (b + 1000) (after m heat room grinds) := by
  obtain ⟨_, _⟩ := h1
  obtain ⟨_, _⟩ := h2
  obtain ⟨_, _⟩ := h3
  obtain ⟨_, _⟩ := h4
  unfold after
  constructor <;> split <;> omega

theorem getD_sm {b : Int} {l : List Int} (hb : 0 ≤ b) (h : ∀ x ∈ l, Sm b x) (i : Nat) : Sm b (l.getD i 0) := by
  rw [List.getD_eq_getElem?_getD]
  cases hi : l[i]? with
  | none => constructor <;> simp <;> omega
  | some x => exact h x (List.mem_of_getElem? hi)

set_option maxHeartbeats 4000000 in
theorem HeatsOf_spec (m : Mill) (plan room : List Int) (heat : Int) (fr : Nat) (hm : Sm 1000 m.gain ∧ Sm 1000 m.fall) (hh : Sm 1000000 heat) (hr : ∀ x ∈ room, Sm 1000 x) (hl : plan.length ≤ room.length) (hl2 : plan.length ≤ 1000) :
    Fn Try.prog 58 [millD m, ints plan, ints room, int heat, int fr] (ints (heatsGo m plan room (plan.length - fr) fr heat)) := by
  refine Fn.of_ex (cuts := []) tys hM Try.func58 rfl Try.call58 rfl ?_
  show exC Try.prog T [] _ false none 0 (entry 36 [millD m, ints plan, ints room, int heat, int fr]) (finQ T [ResultVar.tmp 10] _)
  conv => whnf
  refine Lp.go 36 {p : List Int × Int × Nat // p.1 ++ heatsGo m plan room (plan.length - p.2.2) p.2.2 p.2.1 = heatsGo m plan room (plan.length - fr) fr heat ∧ Sm (1000000 + 1000 * p.2.2) p.2.1 ∧ p.1.length ≤ p.2.2}
    (fun ⟨⟨outs, h, i⟩, _⟩ => ⟨2, [(1, .d (ints plan)), (2, .d (ints room)), (3, .d (int h)), (5, .ref 0 0), (11, .ms 1 1 0 outs.length), (12, .d (int i))],
      [(0, .cs true 5 fun j => .d ((millL m).getD j .top)), (1, .row true 2 1 outs.length (rowOf int 0 outs))], some 0⟩)
    (fun p => plan.length - p.1.2.2) ⟨([], heat, fr), rfl, ?_, Nat.zero_le _⟩ ?_ ?_ rfl (fun _ => rfl)
  · obtain ⟨h1, h2⟩ := hh
    constructor <;> simp only <;> omega
  · rintro ⟨⟨outs, h, i⟩, hinv, hb, hlen⟩
    have hrm := getD_sm (by omega) hr i
    simp only at hinv hb hlen
    conv => whnf
    repeat' first
      | (refine Ob.tt True.intro ?_; conv => whnf)
      | (refine Ob.tt rfl ?_; conv => whnf)
      | (refine Ob.tt (And.intro True.intro (And.intro True.intro True.intro)) ?_; conv => whnf)
      | (refine Ob.tt (And.intro True.intro (And.intro True.intro (And.intro True.intro True.intro))) ?_; conv => whnf)
      | (refine Ob.tt (And.intro True.intro True.intro) ?_; conv => whnf)
      | (refine Ob.tt (Nat.le_of_ble_eq_true rfl) ?_; conv => whnf)
      | (refine Ob.inR (fun _ => ?_) ?_; rotate_left; skip; rotate_right); (conv => whnf)
      | (apply Cl.go; (conv => whnf); refine Ob.fn ?_ (by repeat' first | (refine Edge.fast ?_) | ((conv => whnf); first | exact True.intro | (refine And.intro ?_ ?_) | exact rfl | exact Nat.le_of_eq (Nat.zero_add _) | exact ImpS.refl _) | exact rfl | (refine And.intro ?_ ?_) | exact ImpS.refl _) (by repeat' first | (refine Edge.fast ?_) | ((conv => whnf); first | exact True.intro | (refine And.intro ?_ ?_) | exact rfl | exact Nat.le_of_eq (Nat.zero_add _) | exact ImpS.refl _) | exact rfl | (refine And.intro ?_ ?_) | exact ImpS.refl _) (After_spec m _ _ _ ?_); (conv => whnf))
      | (refine Ob.and (fun _ => ?_) ?_; rotate_left; skip; rotate_right); (conv => whnf)
      | (refine Ob.ltN (fun _ => ?_) ?_; rotate_left; skip; rotate_right); (conv => whnf)
      | (refine Ob.leN (fun _ => ?_) ?_; rotate_left; skip; rotate_right); (conv => whnf)
      | (refine Sp.tt ?_; conv => whnf)
      | (refine Sp.ff ?_; conv => whnf)
      | (refine Sp.dec (fun hc => ?_) (fun hc => ?_) <;> (conv => whnf))
      | (refine Sp.ndec (fun hc => ?_) (fun hc => ?_) <;> (conv => whnf))
      | (refine Sp.mk (fun hc => ?_) (fun hc => ?_) <;> (conv => whnf))
      | (refine Fi.mk (by repeat' first | (refine Edge.fast ?_) | ((conv => whnf); first | exact True.intro | (refine And.intro ?_ ?_) | exact rfl | exact Nat.le_of_eq (Nat.zero_add _) | exact ImpS.refl _) | exact rfl | (refine And.intro ?_ ?_) | exact ImpS.refl _) ?_; (conv => whnf))
    · have ha := after_sm (grinds := plan.getD i 0) (by omega) hb hrm hm.1 hm.2
      refine ⟨rfl, ⟨(outs ++ [after m h (room.getD i 0) (plan.getD i 0)], after m h (room.getD i 0) (plan.getD i 0), i + 1), ?_, ?_, ?_⟩, ?_, ?_⟩
      · simp only
        rw [← hinv, List.append_assoc]
        congr 1
        obtain ⟨k, hk⟩ : ∃ k, plan.length - i = k + 1 := ⟨plan.length - i - 1, by omega⟩
        rw [hk, show plan.length - (i + 1) = k by omega]
        rfl
      · obtain ⟨h1, h2⟩ := ha
        constructor <;> simp only <;> omega
      · simp; omega
      · (conv => whnf)
        repeat' first | (refine Edge.fast ?_) | ((conv => whnf); first | exact True.intro | (refine And.intro ?_ ?_) | exact rfl | exact Nat.le_of_eq (Nat.zero_add _) | exact ImpS.refl _) | exact rfl | (refine And.intro ?_ ?_) | exact ImpS.refl _
        · simp
        · simp
        · refine row_snoc ?_ cimp_int
          exact cimp_int _
      · simp only; omega
    · omega
    · refine ⟨by omega, rfl, by omega⟩
    · obtain ⟨_, _⟩ := hb
      obtain ⟨_, _⟩ := hrm
      refine ⟨⟨by omega, by omega⟩, ⟨?_, ?_⟩, hm.1, hm.2⟩ <;> (rw [Int.toNat_natCast]; omega)
    · omega
    · omega
    · refine ImpS.row ?_
      rw [← hinv, show plan.length - i = 0 by omega]
      simp [heatsGo]
  · conv => whnf
    repeat' first | (refine Edge.fast ?_) | ((conv => whnf); first | exact True.intro | (refine And.intro ?_ ?_) | exact rfl | exact Nat.le_of_eq (Nat.zero_add _) | exact ImpS.refl _) | exact rfl | (refine And.intro ?_ ?_) | exact ImpS.refl _
    exact fun j hj => absurd hj (Nat.not_lt_zero j)
end Go.Px.Try

/-! Ref2 -/
namespace Go.Px.Try
open Go Go.Proofs Go.Px

def greatest (l : List Int) : Int := l.foldl max 0

theorem take_succ_getD {α : Type} (l : List α) (i : Nat) (d : α) (h : i < l.length) : l.take (i + 1) = l.take i ++ [l.getD i d] := by
  rw [List.take_add_one, List.getD_eq_getElem?_getD, List.getElem?_eq_getElem h]
  rfl

set_option maxHeartbeats 4000000 in
theorem Greatest_spec (l : List Int) (hl : l.length < 1000000) : Fn Try.prog 74 [ints l] (int (greatest l)) := by
  refine Fn.of_ex (cuts := []) tys hM Try.func74 rfl Try.call74 rfl ?_
  show exC Try.prog T [] _ false none 0 (entry 18 [ints l]) (finQ T [ResultVar.tmp 2] _)
  conv => whnf
  refine Lp.go 18 {i : Nat // i ≤ l.length}
    (fun ⟨i, _⟩ => ⟨0, [(0, .d (ints l)), (3, .d (int (greatest (l.take i)))), (4, .d (int i))], [], some 0⟩)
    (fun p => l.length - p.1) ⟨0, Nat.zero_le _⟩ ?_ ?_ rfl (fun _ => rfl)
  · rintro ⟨i, hi⟩
    conv => whnf
    repeat' first
      | (refine Ob.tt True.intro ?_; conv => whnf)
      | (refine Ob.tt rfl ?_; conv => whnf)
      | (refine Ob.tt (And.intro True.intro (And.intro True.intro True.intro)) ?_; conv => whnf)
      | (refine Ob.tt (And.intro True.intro (And.intro True.intro (And.intro True.intro True.intro))) ?_; conv => whnf)
      | (refine Ob.tt (And.intro True.intro True.intro) ?_; conv => whnf)
      | (refine Ob.tt (Nat.le_of_ble_eq_true rfl) ?_; conv => whnf)
      | (refine Ob.inR (fun _ => ?_) ?_; rotate_left; skip; rotate_right); (conv => whnf)
      | (refine Ob.and (fun _ => ?_) ?_; rotate_left; skip; rotate_right); (conv => whnf)
      | (refine Ob.ltN (fun _ => ?_) ?_; rotate_left; skip; rotate_right); (conv => whnf)
      | (refine Ob.leN (fun _ => ?_) ?_; rotate_left; skip; rotate_right); (conv => whnf)
      | (refine Sp.tt ?_; conv => whnf)
      | (refine Sp.ff ?_; conv => whnf)
      | (refine Sp.dec (fun hc => ?_) (fun hc => ?_) <;> (conv => whnf))
      | (refine Sp.ndec (fun hc => ?_) (fun hc => ?_) <;> (conv => whnf))
      | (refine Sp.mk (fun hc => ?_) (fun hc => ?_) <;> (conv => whnf))
      | (refine Fi.mk (by repeat' first | (refine Edge.fast ?_) | ((conv => whnf); first | exact True.intro | (refine And.intro ?_ ?_) | exact rfl | exact Nat.le_of_eq (Nat.zero_add _) | exact ImpS.refl _) | exact rfl | (refine And.intro ?_ ?_) | exact ImpS.refl _) ?_; (conv => whnf))
    · refine ⟨rfl, ⟨i + 1, by omega⟩, ?_, ?_⟩
      · (conv => whnf)
        repeat' first | (refine Edge.fast ?_) | ((conv => whnf); first | exact True.intro | (refine And.intro ?_ ?_) | exact rfl | exact Nat.le_of_eq (Nat.zero_add _) | exact ImpS.refl _) | exact rfl | (refine And.intro ?_ ?_) | exact ImpS.refl _
        rw [take_succ_getD l i 0 (by omega)]
        simp [greatest]
      · simp only; omega
    · omega
    · omega
    · refine ⟨rfl, ?_⟩
      rw [List.take_of_length_le (by omega)]
  · conv => whnf
    repeat' first | (refine Edge.fast ?_) | ((conv => whnf); first | exact True.intro | (refine And.intro ?_ ?_) | exact rfl | exact Nat.le_of_eq (Nat.zero_add _) | exact ImpS.refl _) | exact rfl | (refine And.intro ?_ ?_) | exact ImpS.refl _

def roomOf (m : Mill) (warm : Bool) : List Int := m.hours.map fun h => if warm then h.hi else h.lo

theorem map_take_succ {α β : Type} (f : α → β) (l : List α) (i : Nat) (d : α) (h : i < l.length) : (l.take (i + 1)).map f = (l.take i).map f ++ [f (l.getD i d)] := by
  rw [take_succ_getD l i d h]; simp

set_option maxHeartbeats 4000000 in
theorem Room_spec (m : Mill) (warm : Bool) (hl : m.hours.length < 1000) : Fn Try.prog 42 [millD m, bool warm] (ints (roomOf m warm)) := by
  refine Fn.of_ex (cuts := []) tys hM Try.func42 rfl Try.call42 rfl ?_
  show exC Try.prog T [] _ false none 0 (entry 36 [millD m, bool warm]) (finQ T [ResultVar.tmp 4] _)
  conv => whnf
  refine Lp.go 36 {p : Nat × List Int // p.1 ≤ m.hours.length ∧ p.2 = (m.hours.take p.1).map fun h => if warm then h.hi else h.lo}
    (fun ⟨⟨i, outs⟩, _⟩ => ⟨2, [(1, .d (bool warm)), (2, .ref 0 0), (5, .ms 1 1 0 outs.length), (6, .d (int i))],
      [(0, .cs true 5 fun j => .d ((millL m).getD j .top)), (1, .row true 2 1 outs.length (rowOf int 0 outs))], some 0⟩)
    (fun p => m.hours.length - p.1.1) ⟨(0, []), Nat.zero_le _, rfl⟩ ?_ ?_ rfl (fun _ => rfl)
  · rintro ⟨⟨i, outs⟩, hi, ho⟩
    simp only at hi ho
    have hlen : outs.length ≤ i := by rw [ho]; simp; omega
    conv => whnf
    repeat' first
      | (refine Ob.tt True.intro ?_; conv => whnf)
      | (refine Ob.tt rfl ?_; conv => whnf)
      | (refine Ob.tt (And.intro True.intro (And.intro True.intro True.intro)) ?_; conv => whnf)
      | (refine Ob.tt (And.intro True.intro (And.intro True.intro (And.intro True.intro True.intro))) ?_; conv => whnf)
      | (refine Ob.tt (And.intro True.intro True.intro) ?_; conv => whnf)
      | (refine Ob.tt (Nat.le_of_ble_eq_true rfl) ?_; conv => whnf)
      | (refine Ob.inR (fun _ => ?_) ?_; rotate_left; skip; rotate_right); (conv => whnf)
      | (refine Ob.and (fun _ => ?_) ?_; rotate_left; skip; rotate_right); (conv => whnf)
      | (refine Ob.ltN (fun _ => ?_) ?_; rotate_left; skip; rotate_right); (conv => whnf)
      | (refine Ob.leN (fun _ => ?_) ?_; rotate_left; skip; rotate_right); (conv => whnf)
      | (refine Sp.tt ?_; conv => whnf)
      | (refine Sp.ff ?_; conv => whnf)
      | (refine Sp.dec (fun hc => ?_) (fun hc => ?_) <;> (conv => whnf))
      | (refine Sp.ndec (fun hc => ?_) (fun hc => ?_) <;> (conv => whnf))
      | (refine Sp.mk (fun hc => ?_) (fun hc => ?_) <;> (conv => whnf))
      | (refine Fi.mk (by repeat' first | (refine Edge.fast ?_) | ((conv => whnf); first | exact True.intro | (refine And.intro ?_ ?_) | exact rfl | exact Nat.le_of_eq (Nat.zero_add _) | exact ImpS.refl _) | exact rfl | (refine And.intro ?_ ?_) | exact ImpS.refl _) ?_; (conv => whnf))
    · refine ⟨rfl, ⟨(i + 1, outs ++ [(m.hours.getD i default).hi]), ?_, ?_⟩, ?_, ?_⟩
      · simp only; omega
      · simp only; rw [map_take_succ _ _ _ default (by omega), ho, hc]; rfl
      · (conv => whnf)
        repeat' first | (refine Edge.fast ?_) | ((conv => whnf); first | exact True.intro | (refine And.intro ?_ ?_) | exact rfl | exact Nat.le_of_eq (Nat.zero_add _) | exact ImpS.refl _) | exact rfl | (refine And.intro ?_ ?_) | exact ImpS.refl _
        · simp
        · simp
        · refine row_snoc ?_ cimp_int
          exact cimp_int _
      · simp only; omega
    · omega
    · exact ⟨by omega, rfl, by omega⟩
    · omega
    · refine ⟨rfl, ⟨(i + 1, outs ++ [(m.hours.getD i default).lo]), ?_, ?_⟩, ?_, ?_⟩
      · simp only; omega
      · simp only; rw [map_take_succ _ _ _ default (by omega), ho, hc]; rfl
      · (conv => whnf)
        repeat' first | (refine Edge.fast ?_) | ((conv => whnf); first | exact True.intro | (refine And.intro ?_ ?_) | exact rfl | exact Nat.le_of_eq (Nat.zero_add _) | exact ImpS.refl _) | exact rfl | (refine And.intro ?_ ?_) | exact ImpS.refl _
        · simp
        · simp
        · refine row_snoc ?_ cimp_int
          exact cimp_int _
      · simp only; omega
    · omega
    · exact ⟨by omega, rfl, by omega⟩
    · omega
    · refine ImpS.row ?_
      rw [ho, List.take_of_length_le (by omega)]; rfl
  · conv => whnf
    repeat' first | (refine Edge.fast ?_) | ((conv => whnf); first | exact True.intro | (refine And.intro ?_ ?_) | exact rfl | exact Nat.le_of_eq (Nat.zero_add _) | exact ImpS.refl _) | exact rfl | (refine And.intro ?_ ?_) | exact ImpS.refl _
    exact fun j hj => absurd hj (Nat.not_lt_zero j)

def HourOk (h : Hour) : Prop := (0 ≤ h.lo ∧ h.lo ≤ h.hi) ∧ (0 ≤ h.hi ∧ h.hi ≤ 40) ∧ 1 ≤ h.pounds ∧ h.pounds ≤ 100
instance (h : Hour) : Decidable (HourOk h) := by unfold HourOk; exact inferInstance
def HeadOk (m : Mill) : Prop := (0 ≤ m.limit ∧ m.limit ≤ 40) ∧ (0 ≤ m.start ∧ m.start ≤ m.limit) ∧ (1 ≤ m.gain ∧ m.gain ≤ 40) ∧ 1 ≤ m.fall ∧ m.fall ≤ 40
instance (m : Mill) : Decidable (HeadOk m) := by unfold HeadOk; exact inferInstance
def checkMill (m : Mill) : Int := if m.hours.length < 1 ∨ 12 < m.hours.length then 6 else if HeadOk m ∧ ∀ h ∈ m.hours, HourOk h then 0 else 3

theorem checkMill_many {m : Mill} (h : m.hours.length < 1 ∨ 12 < m.hours.length) : checkMill m = 6 := if_pos h
theorem checkMill_head {m : Mill} (h : ¬ (m.hours.length < 1 ∨ 12 < m.hours.length)) (h2 : ¬ HeadOk m) : checkMill m = 3 := by
  rw [checkMill, if_neg h, if_neg (fun k => h2 k.1)]
theorem checkMill_hour {m : Mill} (h : ¬ (m.hours.length < 1 ∨ 12 < m.hours.length)) {i : Nat} (hi : i < m.hours.length) (h2 : ¬ HourOk (m.hours.getD i default)) : checkMill m = 3 := by
  rw [checkMill, if_neg h, if_neg]
  rintro ⟨_, k⟩
  have e : m.hours.getD i default = m.hours[i] := by rw [List.getD_eq_getElem?_getD, List.getElem?_eq_getElem hi]; rfl
  exact h2 (k _ (e ▸ List.getElem_mem hi))
theorem checkMill_ok {m : Mill} (h : ¬ (m.hours.length < 1 ∨ 12 < m.hours.length)) (h2 : HeadOk m) (h3 : ∀ j, j < m.hours.length → HourOk (m.hours.getD j default)) : checkMill m = 0 := by
  have hall : ∀ x ∈ m.hours, HourOk x := by
    intro x hx
    obtain ⟨j, hj, rfl⟩ := List.getElem_of_mem hx
    have := h3 j hj
    have e : m.hours.getD j default = m.hours[j] := by rw [List.getD_eq_getElem?_getD, List.getElem?_eq_getElem hj]; rfl
    rw [e] at this
    exact this
  rw [checkMill, if_neg h, if_pos ⟨h2, hall⟩]

set_option maxHeartbeats 8000000 in
theorem CheckMill_spec (m : Mill) (hl : m.hours.length < 1000000) : Fn Try.prog 26 [millD m] (int (checkMill m)) := by
  refine Fn.of_ex (cuts := []) tys hM Try.func26 rfl Try.call26 rfl ?_
  show exC Try.prog T [] _ false none 0 (entry 72 [millD m]) (finQ T [ResultVar.tmp 2] _)
  conv => whnf
  repeat' first
    | (refine Ob.tt True.intro ?_; conv => whnf)
    | (refine Ob.tt rfl ?_; conv => whnf)
    | (refine Ob.tt (And.intro True.intro (And.intro True.intro True.intro)) ?_; conv => whnf)
    | (refine Ob.tt (And.intro True.intro (And.intro True.intro (And.intro True.intro True.intro))) ?_; conv => whnf)
    | (refine Ob.tt (And.intro True.intro True.intro) ?_; conv => whnf)
    | (refine Ob.tt (Nat.le_of_ble_eq_true rfl) ?_; conv => whnf)
    | (refine Ob.inR (fun _ => ?_) ?_; rotate_left; skip; rotate_right); (conv => whnf)
    | (apply Cl.go; (conv => whnf); refine Ob.fn ?_ (by repeat' first | (refine Edge.fast ?_) | ((conv => whnf); first | exact True.intro | (refine And.intro ?_ ?_) | exact rfl | exact Nat.le_of_eq (Nat.zero_add _) | exact ImpS.refl _) | exact rfl | (refine And.intro ?_ ?_) | exact ImpS.refl _) (by repeat' first | (refine Edge.fast ?_) | ((conv => whnf); first | exact True.intro | (refine And.intro ?_ ?_) | exact rfl | exact Nat.le_of_eq (Nat.zero_add _) | exact ImpS.refl _) | exact rfl | (refine And.intro ?_ ?_) | exact ImpS.refl _) (is_spec _ _ _); (conv => whnf))
    | (refine Ob.and (fun _ => ?_) ?_; rotate_left; skip; rotate_right); (conv => whnf)
    | (refine Ob.ltN (fun _ => ?_) ?_; rotate_left; skip; rotate_right); (conv => whnf)
    | (refine Ob.leN (fun _ => ?_) ?_; rotate_left; skip; rotate_right); (conv => whnf)
    | (refine Sp.tt ?_; conv => whnf)
    | (refine Sp.ff ?_; conv => whnf)
    | (refine Sp.dec (fun hc => ?_) (fun hc => ?_) <;> (conv => whnf))
    | (refine Sp.ndec (fun hc => ?_) (fun hc => ?_) <;> (conv => whnf))
    | (refine Sp.mk (fun hc => ?_) (fun hc => ?_) <;> (conv => whnf))
    | (refine Fi.mk (by repeat' first | (refine Edge.fast ?_) | ((conv => whnf); first | exact True.intro | (refine And.intro ?_ ?_) | exact rfl | exact Nat.le_of_eq (Nat.zero_add _) | exact ImpS.refl _) | exact rfl | (refine And.intro ?_ ?_) | exact ImpS.refl _) ?_; (conv => whnf))
  · exact ⟨rfl, (checkMill_many (by omega)).symm⟩
  · exact ⟨rfl, (checkMill_many (by omega)).symm⟩
  · exact ⟨rfl, (checkMill_head (by omega) (fun h => hc h.1)).symm⟩
  · exact ⟨rfl, (checkMill_head (by omega) (fun h => hc h.2.1)).symm⟩
  · exact ⟨rfl, (checkMill_head (by omega) (fun h => hc h.2.2.1)).symm⟩
  · exact ⟨rfl, (checkMill_head (by omega) (fun h => hc h.2.2.2)).symm⟩
  · have hhead : HeadOk m := by refine ⟨?_, ?_, ?_, ?_⟩ <;> assumption
    have hlen : ¬ (m.hours.length < 1 ∨ 12 < m.hours.length) := by omega
    refine Lp.go 72 {i : Nat // i ≤ m.hours.length ∧ ∀ j, j < i → HourOk (m.hours.getD j default)}
      (fun ⟨i, _⟩ => ⟨1, [(1, .ref 0 0), (3, .d (int i))], [(0, .cs true 5 fun j => .d ((millL m).getD j .top))], some 0⟩)
      (fun p => m.hours.length - p.1) ⟨0, Nat.zero_le _, fun j hj => absurd hj (Nat.not_lt_zero j)⟩ ?_ ?_ rfl (fun _ => rfl)
    · rintro ⟨i, hi, hok⟩
      conv => whnf
      repeat' first
        | (refine Ob.tt True.intro ?_; conv => whnf)
        | (refine Ob.tt rfl ?_; conv => whnf)
        | (refine Ob.tt (And.intro True.intro (And.intro True.intro True.intro)) ?_; conv => whnf)
        | (refine Ob.tt (And.intro True.intro (And.intro True.intro (And.intro True.intro True.intro))) ?_; conv => whnf)
        | (refine Ob.tt (And.intro True.intro True.intro) ?_; conv => whnf)
        | (refine Ob.tt (Nat.le_of_ble_eq_true rfl) ?_; conv => whnf)
        | (refine Ob.inR (fun _ => ?_) ?_; rotate_left; skip; rotate_right); (conv => whnf)
        | (apply Cl.go; (conv => whnf); refine Ob.fn ?_ (by repeat' first | (refine Edge.fast ?_) | ((conv => whnf); first | exact True.intro | (refine And.intro ?_ ?_) | exact rfl | exact Nat.le_of_eq (Nat.zero_add _) | exact ImpS.refl _) | exact rfl | (refine And.intro ?_ ?_) | exact ImpS.refl _) (by repeat' first | (refine Edge.fast ?_) | ((conv => whnf); first | exact True.intro | (refine And.intro ?_ ?_) | exact rfl | exact Nat.le_of_eq (Nat.zero_add _) | exact ImpS.refl _) | exact rfl | (refine And.intro ?_ ?_) | exact ImpS.refl _) (is_spec _ _ _); (conv => whnf))
        | (refine Ob.and (fun _ => ?_) ?_; rotate_left; skip; rotate_right); (conv => whnf)
        | (refine Ob.ltN (fun _ => ?_) ?_; rotate_left; skip; rotate_right); (conv => whnf)
        | (refine Ob.leN (fun _ => ?_) ?_; rotate_left; skip; rotate_right); (conv => whnf)
        | (refine Sp.tt ?_; conv => whnf)
        | (refine Sp.ff ?_; conv => whnf)
        | (refine Sp.dec (fun hc => ?_) (fun hc => ?_) <;> (conv => whnf))
        | (refine Sp.ndec (fun hc => ?_) (fun hc => ?_) <;> (conv => whnf))
        | (refine Sp.mk (fun hc => ?_) (fun hc => ?_) <;> (conv => whnf))
        | (refine Fi.mk (by repeat' first | (refine Edge.fast ?_) | ((conv => whnf); first | exact True.intro | (refine And.intro ?_ ?_) | exact rfl | exact Nat.le_of_eq (Nat.zero_add _) | exact ImpS.refl _) | exact rfl | (refine And.intro ?_ ?_) | exact ImpS.refl _) ?_; (conv => whnf))
      · exact ⟨rfl, (checkMill_hour hlen (i := i) (by omega) (fun h => hc h.1)).symm⟩
      · exact ⟨rfl, (checkMill_hour hlen (i := i) (by omega) (fun h => hc h.2.1)).symm⟩
      · exact ⟨rfl, (checkMill_hour hlen (i := i) (by omega) (fun h => hc h.2.2)).symm⟩
      · refine ⟨rfl, ⟨i + 1, by omega, fun j hj => ?_⟩, ?_, ?_⟩
        · rcases Nat.lt_succ_iff_lt_or_eq.1 hj with h1 | rfl
          · exact hok j h1
          · refine ⟨?_, ?_, ?_⟩ <;> assumption
        · (conv => whnf)
          repeat' first | (refine Edge.fast ?_) | ((conv => whnf); first | exact True.intro | (refine And.intro ?_ ?_) | exact rfl | exact Nat.le_of_eq (Nat.zero_add _) | exact ImpS.refl _) | exact rfl | (refine And.intro ?_ ?_) | exact ImpS.refl _
        · simp only; omega
      · omega
      · omega
      · refine ⟨rfl, (checkMill_ok hlen hhead fun j hj => hok j (by omega)).symm⟩
    · conv => whnf
      repeat' first | (refine Edge.fast ?_) | ((conv => whnf); first | exact True.intro | (refine And.intro ?_ ?_) | exact rfl | exact Nat.le_of_eq (Nat.zero_add _) | exact ImpS.refl _) | exact rfl | (refine And.intro ?_ ?_) | exact ImpS.refl _
end Go.Px.Try

/-! Ref3 -/
namespace Go.Px.Try
open Go Go.Proofs Go.Px

def Bit (x : Int) : Prop := x = 0 ∨ x = 1
instance (x : Int) : Decidable (Bit x) := by unfold Bit; exact inferInstance
def planError (m : Mill) (plan : List Int) : Int := if checkMill m ≠ 0 then checkMill m else if plan.length ≠ m.hours.length then 15 else if ∀ x ∈ plan, Bit x then 0 else 3

theorem planError_bit {m : Mill} {plan : List Int} (h1 : checkMill m = 0) (h2 : plan.length = m.hours.length) {i : Nat} (hi : i < plan.length) (h : ¬ Bit (plan.getD i 0)) : planError m plan = 3 := by
  have e : plan.getD i 0 = plan[i] := by rw [List.getD_eq_getElem?_getD, List.getElem?_eq_getElem hi]; rfl
  rw [planError, if_neg (by simp [h1]), if_neg (by simp [h2]), if_neg (fun k => h (e ▸ k _ (List.getElem_mem hi)))]
theorem planError_ok {m : Mill} {plan : List Int} (h1 : checkMill m = 0) (h2 : plan.length = m.hours.length) (h : ∀ j, j < plan.length → Bit (plan.getD j 0)) : planError m plan = 0 := by
  have hall : ∀ x ∈ plan, Bit x := by
    intro x hx
    obtain ⟨j, hj, rfl⟩ := List.getElem_of_mem hx
    have := h j hj
    have e : plan.getD j 0 = plan[j] := by rw [List.getD_eq_getElem?_getD, List.getElem?_eq_getElem hj]; rfl
    rw [e] at this
    exact this
  rw [planError, if_neg (by simp [h1]), if_neg (by simp [h2]), if_pos hall]

set_option maxHeartbeats 8000000 in
theorem PlanError_spec (m : Mill) (plan : List Int) (hl : m.hours.length < 1000000) (hp : plan.length < 1000000) : Fn Try.prog 57 [millD m, ints plan] (int (planError m plan)) := by
  refine Fn.of_ex (cuts := []) tys hM Try.func57 rfl Try.call57 rfl ?_
  show exC Try.prog T [] _ false none 0 (entry 35 [millD m, ints plan]) (finQ T [ResultVar.tmp 4] _)
  conv => whnf
  repeat' first
    | (refine Ob.tt True.intro ?_; conv => whnf)
    | (refine Ob.tt rfl ?_; conv => whnf)
    | (refine Ob.tt (And.intro True.intro (And.intro True.intro True.intro)) ?_; conv => whnf)
    | (refine Ob.tt (And.intro True.intro (And.intro True.intro (And.intro True.intro True.intro))) ?_; conv => whnf)
    | (refine Ob.tt (And.intro True.intro True.intro) ?_; conv => whnf)
    | (refine Ob.tt (Nat.le_of_ble_eq_true rfl) ?_; conv => whnf)
    | (refine Ob.inR (fun _ => ?_) ?_; rotate_left; skip; rotate_right); (conv => whnf)
    | (apply Cl.go; (conv => whnf); refine Ob.fn ?_ (by repeat' first | (refine Edge.fast ?_) | ((conv => whnf); first | exact True.intro | (refine And.intro ?_ ?_) | exact rfl | exact Nat.le_of_eq (Nat.zero_add _) | exact ImpS.refl _) | exact rfl | (refine And.intro ?_ ?_) | exact ImpS.refl _) (by repeat' first | (refine Edge.fast ?_) | ((conv => whnf); first | exact True.intro | (refine And.intro ?_ ?_) | exact rfl | exact Nat.le_of_eq (Nat.zero_add _) | exact ImpS.refl _) | exact rfl | (refine And.intro ?_ ?_) | exact ImpS.refl _) (CheckMill_spec m ?_); (conv => whnf))
    | (refine Ob.and (fun _ => ?_) ?_; rotate_left; skip; rotate_right); (conv => whnf)
    | (refine Ob.ltN (fun _ => ?_) ?_; rotate_left; skip; rotate_right); (conv => whnf)
    | (refine Ob.leN (fun _ => ?_) ?_; rotate_left; skip; rotate_right); (conv => whnf)
    | (refine Sp.tt ?_; conv => whnf)
    | (refine Sp.ff ?_; conv => whnf)
    | (refine Sp.dec (fun hc => ?_) (fun hc => ?_) <;> (conv => whnf))
    | (refine Sp.ndec (fun hc => ?_) (fun hc => ?_) <;> (conv => whnf))
    | (refine Sp.mk (fun hc => ?_) (fun hc => ?_) <;> (conv => whnf))
    | (refine Fi.mk (by repeat' first | (refine Edge.fast ?_) | ((conv => whnf); first | exact True.intro | (refine And.intro ?_ ?_) | exact rfl | exact Nat.le_of_eq (Nat.zero_add _) | exact ImpS.refl _) | exact rfl | (refine And.intro ?_ ?_) | exact ImpS.refl _) ?_; (conv => whnf))
  · refine ⟨rfl, ?_⟩
    rw [planError, if_pos hc]
  · exact hl
  · refine ⟨rfl, ?_⟩
    rename_i h1
    have hc : plan.length ≠ m.hours.length := fun e => hc (by rw [e])
    rw [planError, if_neg h1, if_pos hc]
  · rename_i h1
    have h1 : checkMill m = 0 := Decidable.of_not_not h1
    have h2 : plan.length = m.hours.length := by
      have := Decidable.of_not_not hc
      omega
    refine Lp.go 35 {i : Nat // i ≤ plan.length ∧ ∀ j, j < i → Bit (plan.getD j 0)}
      (fun ⟨i, _⟩ => ⟨0, [(1, .d (ints plan)), (5, .d (int i))], [], some 0⟩)
      (fun p => plan.length - p.1) ⟨0, Nat.zero_le _, fun j hj => absurd hj (Nat.not_lt_zero j)⟩ ?_ ?_ rfl (fun _ => rfl)
    · rintro ⟨i, hi, hok⟩
      conv => whnf
      repeat' first
        | (refine Ob.tt True.intro ?_; conv => whnf)
        | (refine Ob.tt rfl ?_; conv => whnf)
        | (refine Ob.tt (And.intro True.intro (And.intro True.intro True.intro)) ?_; conv => whnf)
        | (refine Ob.tt (And.intro True.intro (And.intro True.intro (And.intro True.intro True.intro))) ?_; conv => whnf)
        | (refine Ob.tt (And.intro True.intro True.intro) ?_; conv => whnf)
        | (refine Ob.tt (Nat.le_of_ble_eq_true rfl) ?_; conv => whnf)
        | (refine Ob.inR (fun _ => ?_) ?_; rotate_left; skip; rotate_right); (conv => whnf)
        | (refine Ob.and (fun _ => ?_) ?_; rotate_left; skip; rotate_right); (conv => whnf)
        | (refine Ob.ltN (fun _ => ?_) ?_; rotate_left; skip; rotate_right); (conv => whnf)
        | (refine Ob.leN (fun _ => ?_) ?_; rotate_left; skip; rotate_right); (conv => whnf)
        | (refine Sp.tt ?_; conv => whnf)
        | (refine Sp.ff ?_; conv => whnf)
        | (refine Sp.dec (fun hc => ?_) (fun hc => ?_) <;> (conv => whnf))
        | (refine Sp.ndec (fun hc => ?_) (fun hc => ?_) <;> (conv => whnf))
        | (refine Sp.mk (fun hc => ?_) (fun hc => ?_) <;> (conv => whnf))
        | (refine Fi.mk (by repeat' first | (refine Edge.fast ?_) | ((conv => whnf); first | exact True.intro | (refine And.intro ?_ ?_) | exact rfl | exact Nat.le_of_eq (Nat.zero_add _) | exact ImpS.refl _) | exact rfl | (refine And.intro ?_ ?_) | exact ImpS.refl _) ?_; (conv => whnf))
      · exact ⟨rfl, (planError_bit h1 h2 (i := i) (by omega) (fun h => h.elim (by assumption) hc)).symm⟩
      · refine ⟨rfl, ⟨i + 1, by omega, fun j hj => ?_⟩, ?_, ?_⟩
        · rcases Nat.lt_succ_iff_lt_or_eq.1 hj with h1 | rfl
          · exact hok j h1
          · exact .inr (Decidable.of_not_not hc)
        · (conv => whnf)
          repeat' first | (refine Edge.fast ?_) | ((conv => whnf); first | exact True.intro | (refine And.intro ?_ ?_) | exact rfl | exact Nat.le_of_eq (Nat.zero_add _) | exact ImpS.refl _) | exact rfl | (refine And.intro ?_ ?_) | exact ImpS.refl _
        · simp only; omega
      · omega
      · omega
      · refine ⟨rfl, ⟨i + 1, by omega, fun j hj => ?_⟩, ?_, ?_⟩
        · rcases Nat.lt_succ_iff_lt_or_eq.1 hj with h1 | rfl
          · exact hok j h1
          · exact .inl (Decidable.of_not_not hc)
        · (conv => whnf)
          repeat' first | (refine Edge.fast ?_) | ((conv => whnf); first | exact True.intro | (refine And.intro ?_ ?_) | exact rfl | exact Nat.le_of_eq (Nat.zero_add _) | exact ImpS.refl _) | exact rfl | (refine And.intro ?_ ?_) | exact ImpS.refl _
        · simp only; omega
      · omega
      · omega
      · exact ⟨rfl, (planError_ok h1 h2 fun j hj => hok j (by omega)).symm⟩
    · conv => whnf
      repeat' first | (refine Edge.fast ?_) | ((conv => whnf); first | exact True.intro | (refine And.intro ?_ ?_) | exact rfl | exact Nat.le_of_eq (Nat.zero_add _) | exact ImpS.refl _) | exact rfl | (refine And.intro ?_ ?_) | exact ImpS.refl _
  all_goals exact hl

def is (m : Mill) (plan room : List Int) : Prop := greatest (heatsGo m plan room plan.length 0 m.start) ≤ m.limit
instance (m : Mill) (plan room : List Int) : Decidable (is m plan room) := by unfold is; exact inferInstance

theorem heatsGo_length (m : Mill) (plan room : List Int) : ∀ (k i : Nat) (h : Int), (heatsGo m plan room k i h).length = k
  | 0, _, _ => rfl
  | k + 1, i, h => by simp [heatsGo, heatsGo_length m plan room k]

set_option maxHeartbeats 8000000 in
theorem Is_spec (m : Mill) (plan room : List Int) (hm : Sm 1000 m.gain ∧ Sm 1000 m.fall) (hh : Sm 1000000 m.start) (hr : ∀ x ∈ room, Sm 1000 x) (hl : plan.length ≤ room.length) (hl2 : plan.length ≤ 1000) : Fn Try.prog 41 [millD m, ints plan, ints room] (bool (decide (is m plan room))) := by
  refine Fn.of_ex (cuts := []) tys hM Try.func41 rfl Try.call41 rfl ?_
  show exC Try.prog T [] _ false none 0 (entry 17 [millD m, ints plan, ints room]) (finQ T [ResultVar.tmp 6] _)
  conv => whnf
  repeat' first
    | (refine Ob.tt True.intro ?_; conv => whnf)
    | (refine Ob.tt rfl ?_; conv => whnf)
    | (refine Ob.tt (And.intro True.intro (And.intro True.intro True.intro)) ?_; conv => whnf)
    | (refine Ob.tt (And.intro True.intro (And.intro True.intro (And.intro True.intro True.intro))) ?_; conv => whnf)
    | (refine Ob.tt (And.intro True.intro True.intro) ?_; conv => whnf)
    | (refine Ob.tt (Nat.le_of_ble_eq_true rfl) ?_; conv => whnf)
    | (refine Ob.inR (fun _ => ?_) ?_; rotate_left; skip; rotate_right); (conv => whnf)
    | (apply Cl.go; (conv => whnf); refine Ob.fn ?_ (by repeat' first | (refine Edge.fast ?_) | ((conv => whnf); first | exact True.intro | (refine And.intro ?_ ?_) | exact rfl | exact Nat.le_of_eq (Nat.zero_add _) | exact ImpS.refl _) | exact rfl | (refine And.intro ?_ ?_) | exact ImpS.refl _) (by repeat' first | (refine Edge.fast ?_) | ((conv => whnf); first | exact True.intro | (refine And.intro ?_ ?_) | exact rfl | exact Nat.le_of_eq (Nat.zero_add _) | exact ImpS.refl _) | exact rfl | (refine And.intro ?_ ?_) | exact ImpS.refl _) (HeatsOf_spec m plan room m.start 0 hm hh hr hl hl2); (conv => whnf))
    | (apply Cl.go; (conv => whnf); refine Ob.fn ?_ (by repeat' first | (refine Edge.fast ?_) | ((conv => whnf); first | exact True.intro | (refine And.intro ?_ ?_) | exact rfl | exact Nat.le_of_eq (Nat.zero_add _) | exact ImpS.refl _) | exact rfl | (refine And.intro ?_ ?_) | exact ImpS.refl _) (by repeat' first | (refine Edge.fast ?_) | ((conv => whnf); first | exact True.intro | (refine And.intro ?_ ?_) | exact rfl | exact Nat.le_of_eq (Nat.zero_add _) | exact ImpS.refl _) | exact rfl | (refine And.intro ?_ ?_) | exact ImpS.refl _) (Greatest_spec _ ?_); (conv => whnf))
    | (refine Ob.and (fun _ => ?_) ?_; rotate_left; skip; rotate_right); (conv => whnf)
    | (refine Ob.ltN (fun _ => ?_) ?_; rotate_left; skip; rotate_right); (conv => whnf)
    | (refine Ob.leN (fun _ => ?_) ?_; rotate_left; skip; rotate_right); (conv => whnf)
    | (refine Sp.tt ?_; conv => whnf)
    | (refine Sp.ff ?_; conv => whnf)
    | (refine Sp.dec (fun hc => ?_) (fun hc => ?_) <;> (conv => whnf))
    | (refine Sp.ndec (fun hc => ?_) (fun hc => ?_) <;> (conv => whnf))
    | (refine Sp.mk (fun hc => ?_) (fun hc => ?_) <;> (conv => whnf))
    | (refine Fi.mk (by repeat' first | (refine Edge.fast ?_) | ((conv => whnf); first | exact True.intro | (refine And.intro ?_ ?_) | exact rfl | exact Nat.le_of_eq (Nat.zero_add _) | exact ImpS.refl _) | exact rfl | (refine And.intro ?_ ?_) | exact ImpS.refl _) ?_; (conv => whnf))
  · exact ⟨trivial, rfl⟩
  · rw [heatsGo_length]; omega
end Go.Px.Try

/-! Ref4 -/
namespace Go.Px.Try
open Go Go.Proofs Go.Px

def grindsTo (m : Mill) (plan : List Int) : Nat → Int
  | 0 => 0
  | k + 1 => grindsTo m plan k + plan.getD k 0 * (m.hours.getD k default).pounds
def grinds (m : Mill) (plan : List Int) : Int := grindsTo m plan plan.length

theorem bit_mul {b x p : Int} (hx : Bit x) (hp : Sm b p) : Sm b (x * p) ∨ x * p = 0 := by
  rcases hx with rfl | rfl
  · right; simp
  · left; simpa using hp

theorem grindsTo_sm {m : Mill} {plan : List Int} (hb : ∀ j, j < plan.length → Bit (plan.getD j 0)) (hp : ∀ j, Sm 1000 (m.hours.getD j default).pounds) : ∀ k, k ≤ plan.length → Sm (1000 * k) (grindsTo m plan k) ∧ ∀ j, j < plan.length → Sm 1000 (plan.getD j 0 * (m.hours.getD j default).pounds)
  | 0, _ => ⟨⟨by simp [grindsTo], by simp [grindsTo]⟩, fun j hj => by
      rcases bit_mul (hb j hj) (hp j) with h | h
      · exact h
      · rw [h]; constructor <;> omega⟩
  | k + 1, hk => by
    obtain ⟨⟨h1, h2⟩, h3⟩ := grindsTo_sm hb hp k (by omega)
    obtain ⟨h4, h5⟩ := h3 k (by omega)
    refine ⟨⟨?_, ?_⟩, h3⟩ <;> simp only [grindsTo] <;> omega

set_option maxHeartbeats 8000000 in
theorem Grinds_spec (m : Mill) (plan : List Int) (hb : ∀ j, j < plan.length → Bit (plan.getD j 0)) (hp : ∀ j, Sm 1000 (m.hours.getD j default).pounds) (hl : plan.length ≤ m.hours.length) (hl2 : plan.length ≤ 1000) : Fn Try.prog 60 [millD m, ints plan] (int (grinds m plan)) := by
  refine Fn.of_ex (cuts := []) tys hM Try.func60 rfl Try.call60 rfl ?_
  show exC Try.prog T [] _ false none 0 (entry 27 [millD m, ints plan]) (finQ T [ResultVar.tmp 4] _)
  conv => whnf
  refine Lp.go 27 {i : Nat // i ≤ plan.length}
    (fun ⟨i, _⟩ => ⟨1, [(1, .d (ints plan)), (2, .ref 0 0), (5, .d (int (grindsTo m plan i))), (6, .d (int i))], [(0, .cs true 5 fun j => .d ((millL m).getD j .top))], some 0⟩)
    (fun p => plan.length - p.1) ⟨0, Nat.zero_le _⟩ ?_ ?_ rfl (fun _ => rfl)
  · rintro ⟨i, hi⟩
    have ⟨⟨q1, q2⟩, q3⟩ := grindsTo_sm hb hp i hi
    conv => whnf
    repeat' first
      | (refine Ob.tt True.intro ?_; conv => whnf)
      | (refine Ob.tt rfl ?_; conv => whnf)
      | (refine Ob.tt (And.intro True.intro (And.intro True.intro True.intro)) ?_; conv => whnf)
      | (refine Ob.tt (And.intro True.intro (And.intro True.intro (And.intro True.intro True.intro))) ?_; conv => whnf)
      | (refine Ob.tt (And.intro True.intro True.intro) ?_; conv => whnf)
      | (refine Ob.tt (Nat.le_of_ble_eq_true rfl) ?_; conv => whnf)
      | (refine Ob.inR (fun _ => ?_) ?_; rotate_left; skip; rotate_right); (conv => whnf)
      | (refine Ob.and (fun _ => ?_) ?_; rotate_left; skip; rotate_right); (conv => whnf)
      | (refine Ob.ltN (fun _ => ?_) ?_; rotate_left; skip; rotate_right); (conv => whnf)
      | (refine Ob.leN (fun _ => ?_) ?_; rotate_left; skip; rotate_right); (conv => whnf)
      | (refine Sp.tt ?_; conv => whnf)
      | (refine Sp.ff ?_; conv => whnf)
      | (refine Sp.dec (fun hc => ?_) (fun hc => ?_) <;> (conv => whnf))
      | (refine Sp.ndec (fun hc => ?_) (fun hc => ?_) <;> (conv => whnf))
      | (refine Sp.mk (fun hc => ?_) (fun hc => ?_) <;> (conv => whnf))
      | (refine Fi.mk (by repeat' first | (refine Edge.fast ?_) | ((conv => whnf); first | exact True.intro | (refine And.intro ?_ ?_) | exact rfl | exact Nat.le_of_eq (Nat.zero_add _) | exact ImpS.refl _) | exact rfl | (refine And.intro ?_ ?_) | exact ImpS.refl _) ?_; (conv => whnf))
    · have hi : i < plan.length := by omega
      refine ⟨rfl, ⟨i + 1, by omega⟩, ?_, ?_⟩
      · (conv => whnf)
        repeat' first | (refine Edge.fast ?_) | ((conv => whnf); first | exact True.intro | (refine And.intro ?_ ?_) | exact rfl | exact Nat.le_of_eq (Nat.zero_add _) | exact ImpS.refl _) | exact rfl | (refine And.intro ?_ ?_) | exact ImpS.refl _
      · simp only; omega
    · omega
    · have ⟨k1, k2⟩ := q3 i (by omega)
      simp only [Int.toNat_natCast]
      omega
    · have ⟨k1, k2⟩ := q3 i (by omega)
      simp only [Int.toNat_natCast]
      omega
    · omega
    · omega
    · refine ⟨rfl, ?_⟩
      rw [grinds, show plan.length = i by omega]
  · conv => whnf
    repeat' first | (refine Edge.fast ?_) | ((conv => whnf); first | exact True.intro | (refine And.intro ?_ ?_) | exact rfl | exact Nat.le_of_eq (Nat.zero_add _) | exact ImpS.refl _) | exact rfl | (refine And.intro ?_ ?_) | exact ImpS.refl _
end Go.Px.Try

/-! Ref5 -/
namespace Go.Px.Try
open Go Go.Proofs Go.Px

theorem checkMill_zero {m : Mill} (h : checkMill m = 0) : (1 ≤ m.hours.length ∧ m.hours.length ≤ 12) ∧ HeadOk m ∧ ∀ h ∈ m.hours, HourOk h := by
  unfold checkMill at h
  split at h
  · omega
  · split at h
    · rename_i h1 h2; exact ⟨by omega, h2⟩
    · omega
theorem planError_zero {m : Mill} {plan : List Int} (h : planError m plan = 0) : checkMill m = 0 ∧ plan.length = m.hours.length ∧ ∀ x ∈ plan, Bit x := by
  unfold planError at h
  split at h
  · contradiction
  · rename_i h1
    split at h
    · omega
    · rename_i h2
      split at h
      · rename_i h3; exact ⟨Decidable.of_not_not h1, Decidable.of_not_not h2, h3⟩
      · omega

theorem head_sm {m : Mill} (h : HeadOk m) : (Sm 1000 m.gain ∧ Sm 1000 m.fall) ∧ Sm 1000000 m.start := by
  obtain ⟨⟨_, _⟩, ⟨_, _⟩, ⟨_, _⟩, _, _⟩ := h
  refine ⟨⟨⟨?_, ?_⟩, ?_, ?_⟩, ?_, ?_⟩ <;> omega
theorem room_sm {m : Mill} (h : ∀ x ∈ m.hours, HourOk x) (warm : Bool) : ∀ x ∈ roomOf m warm, Sm 1000 x := by
  intro x hx
  obtain ⟨y, hy, rfl⟩ := List.mem_map.1 hx
  obtain ⟨⟨_, _⟩, ⟨_, _⟩, _, _⟩ := h y hy
  constructor <;> split <;> omega
theorem room_len (m : Mill) (warm : Bool) : (roomOf m warm).length = m.hours.length := by simp [roomOf]
theorem mem_getD {α : Type} {p : α → Prop} {l : List α} {d : α} (h : ∀ x ∈ l, p x) {j : Nat} (hj : j < l.length) : p (l.getD j d) := by
  have e : l.getD j d = l[j] := by rw [List.getD_eq_getElem?_getD, List.getElem?_eq_getElem hj]; rfl
  rw [e]; exact h _ (List.getElem_mem hj)
theorem pounds_sm {m : Mill} (h : ∀ x ∈ m.hours, HourOk x) (j : Nat) : Sm 1000 (m.hours.getD j default).pounds := by
  by_cases hj : j < m.hours.length
  · have := mem_getD (d := default) h hj
    obtain ⟨_, _, _, _⟩ := this
    constructor <;> omega
  · rw [List.getD_eq_getElem?_getD, List.getElem?_eq_none (by omega)]
    constructor <;> decide

def heatsOf (m : Mill) (plan : List Int) (warm : Bool) : List Int := heatsGo m plan (roomOf m warm) plan.length 0 m.start
def heatsR (m : Mill) (plan : List Int) (warm : Bool) : List Int × Int := if planError m plan ≠ 0 then ([], planError m plan) else (heatsOf m plan warm, 0)
def checkPlanR (m : Mill) (plan : List Int) : Int × Int := if planError m plan ≠ 0 then (0, planError m plan) else if is m plan (roomOf m true) then (grinds m plan, 0) else (0, 18)
def safeR (m : Mill) (plan : List Int) : Int × Int := if planError m plan ≠ 0 then (0, planError m plan) else if is m plan (roomOf m true) then (2, 0) else if is m plan (roomOf m false) then (1, 0) else (0, 0)

/-- What holds where there is no error. -/
structure PlanOk (m : Mill) (plan : List Int) : Prop where
  n1 : 1 ≤ m.hours.length
  n12 : m.hours.length ≤ 12
  len : plan.length = m.hours.length
  head : HeadOk m
  hours : ∀ h ∈ m.hours, HourOk h
  bits : ∀ x ∈ plan, Bit x
theorem planOk {m : Mill} {plan : List Int} (h : planError m plan = 0) : PlanOk m plan := by
  obtain ⟨h1, h2, h3⟩ := planError_zero h
  obtain ⟨h4, h5, h6⟩ := checkMill_zero h1
  exact ⟨h4.1, h4.2, h2, h5, h6, h3⟩
theorem PlanOk.sm {m : Mill} {plan : List Int} (h : PlanOk m plan) : Sm 1000 m.gain ∧ Sm 1000 m.fall := (head_sm h.head).1
theorem PlanOk.st {m : Mill} {plan : List Int} (h : PlanOk m plan) : Sm 1000000 m.start := (head_sm h.head).2
theorem PlanOk.rm {m : Mill} {plan : List Int} (h : PlanOk m plan) (w : Bool) : ∀ x ∈ roomOf m w, Sm 1000 x := room_sm h.hours w
theorem PlanOk.le {m : Mill} {plan : List Int} (h : PlanOk m plan) (w : Bool) : plan.length ≤ (roomOf m w).length := by rw [room_len, h.len]; exact Nat.le_refl _
theorem PlanOk.l1 {m : Mill} {plan : List Int} (h : PlanOk m plan) : plan.length ≤ 1000 := by have := h.len; have := h.n12; omega

theorem Is' (m : Mill) (plan : List Int) (h : planError m plan = 0) (w : Bool) : Fn Try.prog 41 [millD m, ints plan, ints (roomOf m w)] (bool (decide (is m plan (roomOf m w)))) :=
  have h := planOk h
  Is_spec m plan (roomOf m w) h.sm h.st (h.rm w) (h.le w) h.l1
theorem HeatsOf' (m : Mill) (plan : List Int) (h : planError m plan = 0) (w : Bool) : Fn Try.prog 58 [millD m, ints plan, ints (roomOf m w), int m.start, int 0] (ints (heatsOf m plan w)) :=
  have h := planOk h
  HeatsOf_spec m plan (roomOf m w) m.start 0 h.sm h.st (h.rm w) (h.le w) h.l1
theorem Grinds' (m : Mill) (plan : List Int) (h : planError m plan = 0) : Fn Try.prog 60 [millD m, ints plan] (int (grinds m plan)) :=
  have h := planOk h
  Grinds_spec m plan (fun _ hj => mem_getD h.bits hj) (pounds_sm h.hours) (by have := h.len; omega) h.l1

theorem Room' (m : Mill) (plan : List Int) (h : planError m plan = 0) (w : Bool) : Fn Try.prog 42 [millD m, bool w] (ints (roomOf m w)) :=
  Room_spec m w (by have := (planOk h).n12; omega)

theorem Heats_spec (m : Mill) (plan : List Int) (warm : Bool) (hl : m.hours.length < 1000000) (hp : plan.length < 1000000) :
    Fn Try.prog 20 [millD m, ints plan, bool warm] (tpl [ints (heatsR m plan warm).1, int (heatsR m plan warm).2]) := by
  have e1 : planError m plan ≠ 0 → heatsR m plan warm = ([], planError m plan) := fun h => if_pos h
  have e2 : planError m plan = 0 → heatsR m plan warm = (heatsOf m plan warm, 0) := fun h => if_neg (by omega)
  refine Fn.of_ex (cuts := []) tys hM Try.func20 rfl Try.call20 rfl ?_
  show exC Try.prog T [] _ false none 0 (entry 23 [millD m, ints plan, bool warm]) (finQ T [ResultVar.tmp 6, ResultVar.tmp 7] _)
  conv => whnf
  repeat' first
    | (refine Ob.a ?_; conv => whnf)
    | (refine Sp.tt ?_; conv => whnf)
    | (refine Sp.ff ?_; conv => whnf)
    | (refine Sp.yes ?_; conv => whnf)
    | (refine Sp.no ?_; conv => whnf)
    | (refine Sp.nyes ?_; conv => whnf)
    | (refine Sp.nno ?_; conv => whnf)
    | (refine Sp.ne (fun hc => ?_) (fun hc => ?_) <;> (conv => whnf))
    | (refine Sp.dec (fun hc => ?_) (fun hc => ?_) <;> (conv => whnf))
    | (refine Sp.ndec (fun hc => ?_) (fun hc => ?_) <;> (conv => whnf))
    | (refine Sp.mk (fun hc => ?_) (fun hc => ?_) <;> (conv => whnf))
    | (apply Cl.go; (conv => whnf); (first | refine Ob.call (PlanError_spec m plan hl hp) ?_ | refine Ob.call (Room' m plan (by omega) warm) ?_ | refine Ob.call (HeatsOf' m plan (by omega) warm) ?_); (conv => whnf))
    | (refine Nx.mk (fun ka kb kx hx hs => ?_) (fun he => ?_) <;> (conv => whnf))
    | (refine Nx.mk (fun ka kx hx hs => ?_) (fun he => ?_) <;> (conv => whnf))
    | (refine Uk.mk (fun hn => ?_) ?_ <;> (conv => whnf))
    | (refine Fi.a ?_; conv => whnf)
    | (refine Yl.a ?_ ?_ <;> (conv => whnf))
    | (refine Ob.b ?_; conv => whnf)
  all_goals exact Lf

theorem CheckPlan_spec (m : Mill) (plan : List Int) (hl : m.hours.length < 1000000) (hp : plan.length < 1000000) :
    Fn Try.prog 22 [millD m, ints plan] (tpl [int (checkPlanR m plan).1, int (checkPlanR m plan).2]) := by
  have e1 : planError m plan ≠ 0 → checkPlanR m plan = (0, planError m plan) := fun h => if_pos h
  have e2 : planError m plan = 0 → checkPlanR m plan = if is m plan (roomOf m true) then (grinds m plan, 0) else (0, 18) := fun h => if_neg (by omega)
  refine Fn.of_ex (cuts := []) tys hM Try.func22 rfl Try.call22 rfl ?_
  show exC Try.prog T [] _ false none 0 (entry 22 [millD m, ints plan]) (finQ T [ResultVar.tmp 4, ResultVar.tmp 5] _)
  conv => whnf
  repeat' first
    | (refine Ob.a ?_; conv => whnf)
    | (refine Sp.tt ?_; conv => whnf)
    | (refine Sp.ff ?_; conv => whnf)
    | (refine Sp.yes ?_; conv => whnf)
    | (refine Sp.no ?_; conv => whnf)
    | (refine Sp.nyes ?_; conv => whnf)
    | (refine Sp.nno ?_; conv => whnf)
    | (refine Sp.ne (fun hc => ?_) (fun hc => ?_) <;> (conv => whnf))
    | (refine Sp.dec (fun hc => ?_) (fun hc => ?_) <;> (conv => whnf))
    | (refine Sp.ndec (fun hc => ?_) (fun hc => ?_) <;> (conv => whnf))
    | (refine Sp.mk (fun hc => ?_) (fun hc => ?_) <;> (conv => whnf))
    | (apply Cl.go; (conv => whnf); (first | refine Ob.call (PlanError_spec m plan hl hp) ?_ | refine Ob.call (Room' m plan (by omega) true) ?_ | refine Ob.call (Is' m plan (by omega) true) ?_ | refine Ob.call (Grinds' m plan (by omega)) ?_); (conv => whnf))
    | (refine Nx.mk (fun ka kb kx hx hs => ?_) (fun he => ?_) <;> (conv => whnf))
    | (refine Nx.mk (fun ka kx hx hs => ?_) (fun he => ?_) <;> (conv => whnf))
    | (refine Uk.mk (fun hn => ?_) ?_ <;> (conv => whnf))
    | (refine Fi.a ?_; conv => whnf)
    | (refine Yl.a ?_ ?_ <;> (conv => whnf))
    | (refine Ob.b ?_; conv => whnf)
  all_goals exact Lf

theorem Safe_spec (m : Mill) (plan : List Int) (hl : m.hours.length < 1000000) (hp : plan.length < 1000000) :
    Fn Try.prog 24 [millD m, ints plan] (tpl [int (safeR m plan).1, int (safeR m plan).2]) := by
  have e1 : planError m plan ≠ 0 → safeR m plan = (0, planError m plan) := fun h => if_pos h
  have e2 : planError m plan = 0 → safeR m plan = if is m plan (roomOf m true) then (2, 0) else if is m plan (roomOf m false) then (1, 0) else (0, 0) := fun h => if_neg (by omega)
  refine Fn.of_ex (cuts := []) tys hM Try.func24 rfl Try.call24 rfl ?_
  show exC Try.prog T [] _ false none 0 (entry 23 [millD m, ints plan]) (finQ T [ResultVar.tmp 4, ResultVar.tmp 5] _)
  conv => whnf
  repeat' first
    | (refine Ob.a ?_; conv => whnf)
    | (refine Sp.tt ?_; conv => whnf)
    | (refine Sp.ff ?_; conv => whnf)
    | (refine Sp.yes ?_; conv => whnf)
    | (refine Sp.no ?_; conv => whnf)
    | (refine Sp.nyes ?_; conv => whnf)
    | (refine Sp.nno ?_; conv => whnf)
    | (refine Sp.ne (fun hc => ?_) (fun hc => ?_) <;> (conv => whnf))
    | (refine Sp.dec (fun hc => ?_) (fun hc => ?_) <;> (conv => whnf))
    | (refine Sp.ndec (fun hc => ?_) (fun hc => ?_) <;> (conv => whnf))
    | (refine Sp.mk (fun hc => ?_) (fun hc => ?_) <;> (conv => whnf))
    | (apply Cl.go; (conv => whnf); (first | refine Ob.call (PlanError_spec m plan hl hp) ?_ | refine Ob.call (Room' m plan (by omega) true) ?_ | refine Ob.call (Is' m plan (by omega) true) ?_ | refine Ob.call (Room' m plan (by omega) false) ?_ | refine Ob.call (Is' m plan (by omega) false) ?_); (conv => whnf))
    | (refine Nx.mk (fun ka kb kx hx hs => ?_) (fun he => ?_) <;> (conv => whnf))
    | (refine Nx.mk (fun ka kx hx hs => ?_) (fun he => ?_) <;> (conv => whnf))
    | (refine Uk.mk (fun hn => ?_) ?_ <;> (conv => whnf))
    | (refine Fi.a ?_; conv => whnf)
    | (refine Yl.a ?_ ?_ <;> (conv => whnf))
    | (refine Ob.b ?_; conv => whnf)
  all_goals exact Lf


/-- The plan that bits say. -/
def bitsGo (b : Nat) : Nat → List Int
  | 0 => []
  | k + 1 => ((b / 2 ^ k % 2 : Nat) : Int) :: bitsGo b k

theorem bitsGo_length (b : Nat) : ∀ k, (bitsGo b k).length = k
  | 0 => rfl
  | k + 1 => by simp [bitsGo, bitsGo_length b k]

theorem band1 (b k : Nat) : band .i64 ((b : Int) / 2 ^ k) 1 = ((b / 2 ^ k % 2 : Nat) : Int) := by
  have e : ((b : Int) / 2 ^ k) = ((b / 2 ^ k : Nat) : Int) := by simp
  rw [e]
  generalize b / 2 ^ k = c
  unfold band
  have h : (BitVec.ofInt IntKind.i64.bits (c : Int) &&& BitVec.ofInt IntKind.i64.bits 1).toNat = c % 2 := by
    have e1 : BitVec.ofInt IntKind.i64.bits (c : Int) = BitVec.ofNat 64 c := BitVec.ofInt_natCast 64 c
    have e2 : BitVec.ofInt IntKind.i64.bits 1 = BitVec.ofNat 64 1 := rfl
    rw [e1, e2]
    show (BitVec.ofNat 64 c &&& BitVec.ofNat 64 1).toNat = _
    rw [BitVec.toNat_and, BitVec.toNat_ofNat, BitVec.toNat_ofNat, show 1 % 2 ^ 64 = 1 from rfl, Nat.and_one_is_mod, Nat.mod_mod_of_dvd]
    decide
  rw [h, wrap_in]
  simp only [inR]
  omega

set_option maxHeartbeats 8000000 in
theorem Bits_spec (n b : Nat) (hn : n ≤ 60) (hb : b < 2 ^ 60) : Fn Try.prog 88 [int n, int b] (ints (bitsGo b n)) := by
  refine Fn.of_ex (cuts := []) tys hM Try.func88 rfl Try.call88 rfl ?_
  show exC Try.prog T [] _ false none 0 (entry 21 [int n, int b]) (finQ T [ResultVar.tmp 4] _)
  conv => whnf
  repeat' first
    | (refine Ob.a ?_; conv => whnf)
    | (refine Sp.tt ?_; conv => whnf)
    | (refine Sp.ff ?_; conv => whnf)
    | (refine Sp.yes ?_; conv => whnf)
    | (refine Sp.no ?_; conv => whnf)
    | (refine Sp.nyes ?_; conv => whnf)
    | (refine Sp.nno ?_; conv => whnf)
    | (refine Sp.ne (fun hc => ?_) (fun hc => ?_) <;> (conv => whnf))
    | (refine Sp.dec (fun hc => ?_) (fun hc => ?_) <;> (conv => whnf))
    | (refine Sp.ndec (fun hc => ?_) (fun hc => ?_) <;> (conv => whnf))
    | (refine Sp.mk (fun hc => ?_) (fun hc => ?_) <;> (conv => whnf))
    | (refine Nx.mk (fun ka kb kx hx hs => ?_) (fun he => ?_) <;> (conv => whnf))
    | (refine Nx.mk (fun ka kx hx hs => ?_) (fun he => ?_) <;> (conv => whnf))
    | (refine Uk.mk (fun hn => ?_) ?_ <;> (conv => whnf))
    | (refine Fi.a ?_; conv => whnf)
    | (refine Yl.a ?_ ?_ <;> (conv => whnf))
    | (refine Ob.b ?_; conv => whnf)
  refine Lp.go 21 {p : List Int × Nat // p.1.length + p.2 = n ∧ p.1 ++ bitsGo b p.2 = bitsGo b n}
    (fun ⟨⟨outs, k⟩, _⟩ => ⟨2, [(1, .d (int b)), (5, .ms 1 1 0 outs.length), (6, .d (int ((k : Int) - 1)))],
      [(1, .row true 3 1 outs.length (rowOf int 0 outs))], some 0⟩)
    (fun p => p.1.2) ⟨([], n), by simp, rfl⟩ ?_ ?_ rfl (fun _ => rfl)
  · rintro ⟨⟨outs, k⟩, hk, hinv⟩
    simp only at hk hinv
    conv => whnf
    have hb1 : 0 < k → band .i64 ((b : Int) / 2 ^ ((k : Int) - 1).toNat) 1 = ((b / 2 ^ (k - 1) % 2 : Nat) : Int) := fun h => by
      rw [show ((k : Int) - 1).toNat = k - 1 by omega]
      exact band1 b (k - 1)
    have hstep : 0 < k → (outs ++ [((b / 2 ^ (k - 1) % 2 : Nat) : Int)]).length + (k - 1) = n ∧ (outs ++ [((b / 2 ^ (k - 1) % 2 : Nat) : Int)]) ++ bitsGo b (k - 1) = bitsGo b n := fun h => by
      obtain ⟨j, rfl⟩ : ∃ j, k = j + 1 := ⟨k - 1, by omega⟩
      exact ⟨by simp; omega, by simpa [bitsGo] using hinv⟩
    have hend : ¬ 0 < k → outs = bitsGo b n := fun h => by
      obtain rfl : k = 0 := by omega
      simpa [bitsGo] using hinv
    repeat' first
      | (refine Ob.a ?_; conv => whnf)
      | (refine Sp.tt ?_; conv => whnf)
      | (refine Sp.ff ?_; conv => whnf)
      | (refine Sp.yes ?_; conv => whnf)
      | (refine Sp.no ?_; conv => whnf)
      | (refine Sp.nyes ?_; conv => whnf)
      | (refine Sp.nno ?_; conv => whnf)
      | (refine Sp.ne (fun hc => ?_) (fun hc => ?_) <;> (conv => whnf))
      | (refine Sp.dec (fun hc => ?_) (fun hc => ?_) <;> (conv => whnf))
      | (refine Sp.ndec (fun hc => ?_) (fun hc => ?_) <;> (conv => whnf))
      | (refine Sp.mk (fun hc => ?_) (fun hc => ?_) <;> (conv => whnf))
      | (refine Nx.mk (fun ka kb kx hx hs => ?_) (fun he => ?_) <;> (conv => whnf))
      | (refine Nx.mk (fun ka kx hx hs => ?_) (fun he => ?_) <;> (conv => whnf))
      | (refine Uk.mk (fun hn => ?_) ?_ <;> (conv => whnf))
      | (refine Fi.a ?_; conv => whnf)
      | (refine Yl.a ?_ ?_ <;> (conv => whnf))
      | (refine Ob.b ?_; conv => whnf)
    · have e := hb1 (by omega)
      refine ⟨rfl, ⟨(outs ++ [((b / 2 ^ (k - 1) % 2 : Nat) : Int)], k - 1), hstep (by omega)⟩, Lf, by simp only; omega⟩
    · have e := hend (by omega)
      exact Lf
  · exact Lf
end Go.Px.Try

/-! Ref6 -/
namespace Go.Px.Try
open Go Go.Proofs Go.Px

/-- A mill whose numbers are small, whatever its Limit. -/
structure Fit (m : Mill) : Prop where
  n12 : m.hours.length ≤ 12
  gain : Sm 1000 m.gain
  fall : Sm 1000 m.fall
  start : Sm 1000000 m.start
  hours : ∀ h ∈ m.hours, HourOk h
theorem fit_of {m : Mill} (h : checkMill m = 0) : Fit m := by
  obtain ⟨h1, h2, h3⟩ := checkMill_zero h
  have := head_sm h2
  exact ⟨h1.2, this.1.1, this.1.2, this.2, h3⟩

theorem bitsGo_bit (b : Nat) : ∀ (k : Nat), ∀ x ∈ bitsGo b k, Bit x
  | 0, x, h => by cases h
  | k + 1, x, h => by
    simp only [bitsGo, List.mem_cons] at h
    rcases h with rfl | h
    · unfold Bit; omega
    · exact bitsGo_bit b k x h

def room (m : Mill) : List Int := roomOf m true
theorem Room2 (m : Mill) (h : Fit m) : Fn Try.prog 42 [millD m, bool true] (ints (room m)) := Room_spec m true (by have := h.n12; omega)
theorem Is2 (m : Mill) (h : Fit m) (plan : List Int) (hp : plan.length = m.hours.length) : Fn Try.prog 41 [millD m, ints plan, ints (room m)] (bool (decide (is m plan (room m)))) :=
  Is_spec m plan (room m) ⟨h.gain, h.fall⟩ h.start (room_sm h.hours true) (by show _ ≤ (roomOf m true).length; rw [room_len, hp]; exact Nat.le_refl _) (by have := h.n12; omega)
theorem Grinds2 (m : Mill) (h : Fit m) (plan : List Int) (hp : plan.length ≤ m.hours.length) (hb : ∀ x ∈ plan, Bit x) : Fn Try.prog 60 [millD m, ints plan] (int (grinds m plan)) :=
  Grinds_spec m plan (fun _ hj => mem_getD hb hj) (pounds_sm h.hours) hp (by have := h.n12; omega)

/-- The best plan of the first ones. -/
def bstep (m : Mill) (o : Option (List Int)) (p : List Int) : Option (List Int) :=
  if is m p (room m) then match o with
    | none => some p
    | some q => if grinds m q < grinds m p then some p else some q
  else o
def bestTo (m : Mill) : Nat → Option (List Int)
  | 0 => none
  | k + 1 => bstep m (bestTo m k) (bitsGo k m.hours.length)
def best (m : Mill) : Option (List Int) := bestTo m (2 ^ m.hours.length)

theorem bestTo_ok (m : Mill) : ∀ (k : Nat) (p : List Int), bestTo m k = some p → p.length = m.hours.length ∧ ∀ x ∈ p, Bit x
  | 0, p, h => by cases h
  | k + 1, p, h => by
    have hb : (bitsGo k m.hours.length).length = m.hours.length ∧ ∀ x ∈ bitsGo k m.hours.length, Bit x := ⟨bitsGo_length _ _, bitsGo_bit _ _⟩
    simp only [bestTo, bstep] at h
    split at h
    · split at h
      · cases h; exact hb
      · rename_i q hq
        split at h
        · cases h; exact hb
        · cases h; exact bestTo_ok m k _ hq
    · exact bestTo_ok m k p h
theorem bestTo_getD (m : Mill) (k : Nat) : ((bestTo m k).getD []).length ≤ m.hours.length ∧ ∀ x ∈ (bestTo m k).getD [], Bit x := by
  cases h : bestTo m k with
  | none => simp
  | some p => obtain ⟨h1, h2⟩ := bestTo_ok m k p h; exact ⟨by simp [h1], by simpa using h2⟩
theorem pow12 {n : Nat} (h : n ≤ 12) : 2 ^ n ≤ 4096 := Nat.le_trans (Nat.pow_le_pow_right (by omega) h) (by decide)

theorem best_f1 {m : Mill} {k : Nat} (h1 : is m (bitsGo k m.hours.length) (room m)) (h2 : (!(bestTo m k).isSome) = true) : bestTo m (k + 1) = some (bitsGo k m.hours.length) := by
  show bstep _ _ _ = _
  unfold bstep
  rw [if_pos h1]
  cases hh : bestTo m k with
  | none => rfl
  | some q => rw [hh] at h2; cases h2
theorem best_f2 {m : Mill} {k : Nat} (h1 : is m (bitsGo k m.hours.length) (room m)) (h2 : grinds m ((bestTo m k).getD []) < grinds m (bitsGo k m.hours.length)) : bestTo m (k + 1) = some (bitsGo k m.hours.length) := by
  show bstep _ _ _ = _
  unfold bstep
  rw [if_pos h1]
  cases hh : bestTo m k with
  | none => rfl
  | some q => rw [hh] at h2; exact if_pos h2
theorem best_f3 {m : Mill} {k : Nat} (h1 : is m (bitsGo k m.hours.length) (room m)) (h0 : (!(bestTo m k).isSome) = false) (h2 : ¬ grinds m ((bestTo m k).getD []) < grinds m (bitsGo k m.hours.length)) : bestTo m (k + 1) = bestTo m k := by
  show bstep _ _ _ = _
  unfold bstep
  rw [if_pos h1]
  cases hh : bestTo m k with
  | none => rw [hh] at h0; cases h0
  | some q => rw [hh] at h2; exact if_neg h2
theorem best_f4 {m : Mill} {k : Nat} (h1 : ¬ is m (bitsGo k m.hours.length) (room m)) : bestTo m (k + 1) = bestTo m k := by
  show bstep _ _ _ = _
  unfold bstep
  rw [if_neg h1]

set_option maxHeartbeats 16000000 in
theorem PlanOf_spec (m : Mill) (h : Fit m) : Fn Try.prog 71 [millD m] (tpl [ints ((best m).getD []), bool (best m).isSome]) := by
  have hpw := pow12 h.n12
  have h12 := h.n12
  have hpi : (0 : Int) ≤ 1 * 2 ^ ((m.hours.length : Int)).toNat ∧ (1 : Int) * 2 ^ ((m.hours.length : Int)).toNat ≤ 4096 := by
    rw [Int.toNat_natCast, Int.one_mul]
    have e : ((2 : Int) ^ m.hours.length) = ((2 ^ m.hours.length : Nat) : Int) := by simp
    rw [e]; exact ⟨Int.natCast_nonneg _, Int.ofNat_le.2 hpw⟩
  have hpe : (1 : Int) * 2 ^ ((m.hours.length : Int)).toNat = ((2 ^ m.hours.length : Nat) : Int) := by simp
  have hbits := fun (k : Nat) (hk : k < 2 ^ m.hours.length) => Bits_spec m.hours.length k (by omega) (Nat.lt_of_lt_of_le (Nat.lt_of_lt_of_le hk hpw) (by decide))
  have hI := fun k => Is2 m h (bitsGo k m.hours.length) (bitsGo_length _ _)
  have hG := fun k => Grinds2 m h (bitsGo k m.hours.length) (Nat.le_of_eq (bitsGo_length _ _)) (bitsGo_bit _ _)
  have hG2 := fun k => Grinds2 m h ((bestTo m k).getD []) (bestTo_getD m k).1 (bestTo_getD m k).2
  have hR := Room2 m h
  have hsh : m.hours.length < 64 := by omega
  refine Fn.of_ex (cuts := []) tys hM Try.func71 rfl Try.call71 rfl ?_
  show exC Try.prog T [] _ false none 0 (entry 44 [millD m]) (finQ T [ResultVar.tmp 2, ResultVar.tmp 3] _)
  conv => whnf
  repeat' first
    | (refine Ob.a ?_; conv => whnf)
    | (refine Sp.tt ?_; conv => whnf)
    | (refine Sp.ff ?_; conv => whnf)
    | (refine Sp.yes ?_; conv => whnf)
    | (refine Sp.no ?_; conv => whnf)
    | (refine Sp.nyes ?_; conv => whnf)
    | (refine Sp.nno ?_; conv => whnf)
    | (refine Sp.ne (fun hc => ?_) (fun hc => ?_) <;> (conv => whnf))
    | (refine Sp.dec (fun hc => ?_) (fun hc => ?_) <;> (conv => whnf))
    | (refine Sp.ndec (fun hc => ?_) (fun hc => ?_) <;> (conv => whnf))
    | (refine Sp.mk (fun hc => ?_) (fun hc => ?_) <;> (conv => whnf))
    | (apply Cl.go; (conv => whnf); (first | refine Ob.call (hR) ?_); (conv => whnf))
    | (refine Nx.mk (fun ka kb kx hx hs => ?_) (fun he => ?_) <;> (conv => whnf))
    | (refine Nx.mk (fun ka kx hx hs => ?_) (fun he => ?_) <;> (conv => whnf))
    | (refine Uk.mk (fun hn => ?_) ?_ <;> (conv => whnf))
    | (refine Fi.a ?_; conv => whnf)
    | (refine Yl.a ?_ ?_ <;> (conv => whnf))
    | (refine Ob.b ?_; conv => whnf)
  refine Lp.snap [0, 1, 2, 3, 4, 42, 43] 40 ?_
  (conv => whnf)
  refine LpB.go 44 ({k : Nat // k ≤ 2 ^ m.hours.length}) 0 (fun ⟨k, _⟩ nx => ([(5, .d (ints ((bestTo m k).getD []))), (6, .d (bool (bestTo m k).isSome)), (7, .d (int k))], [])) (fun p => 2 ^ m.hours.length - p.1) (⟨0, Nat.zero_le _⟩) ?_ ?_
  · rintro ⟨k, hk⟩
    have f1 := best_f1 (m := m) (k := k)
    have f2 := best_f2 (m := m) (k := k)
    have f3 := best_f3 (m := m) (k := k)
    have f4 := best_f4 (m := m) (k := k)
    have hbk := hbits k
    have hIk := hI k
    have hGk := hG k
    have hG2k := hG2 k
    have hend : ¬ k < 2 ^ m.hours.length → bestTo m k = best m := fun h => by unfold best; rw [show k = 2 ^ m.hours.length by omega]
    clear hbits hI hG hG2
    conv => whnf
    repeat' first
      | (refine Ob.a ?_; conv => whnf)
      | (refine Sp.tt ?_; conv => whnf)
      | (refine Sp.ff ?_; conv => whnf)
      | (refine Sp.yes ?_; conv => whnf)
      | (refine Sp.no ?_; conv => whnf)
      | (refine Sp.nyes ?_; conv => whnf)
      | (refine Sp.nno ?_; conv => whnf)
      | (refine Sp.ne (fun hc => ?_) (fun hc => ?_) <;> (conv => whnf))
      | (refine Sp.dec (fun hc => ?_) (fun hc => ?_) <;> (conv => whnf))
      | (refine Sp.ndec (fun hc => ?_) (fun hc => ?_) <;> (conv => whnf))
      | (refine Sp.mk (fun hc => ?_) (fun hc => ?_) <;> (conv => whnf))
      | (apply Cl.go; (conv => whnf); (first | refine Ob.call (hbk (by omega)) ?_ | refine Ob.call (hIk) ?_ | refine Ob.call (hGk) ?_ | refine Ob.call (hG2k) ?_); (conv => whnf))
      | (refine Nx.mk (fun ka kb kx hx hs => ?_) (fun he => ?_) <;> (conv => whnf))
      | (refine Nx.mk (fun ka kx hx hs => ?_) (fun he => ?_) <;> (conv => whnf))
      | (refine Uk.mk (fun hn => ?_) ?_ <;> (conv => whnf))
      | (refine Fi.a ?_; conv => whnf)
      | (refine Yl.a ?_ ?_ <;> (conv => whnf))
      | (refine Ob.b ?_; conv => whnf)
    · have e := f1 (by assumption) (by assumption)
      refine ⟨rfl, ⟨k + 1, by omega⟩, Lf, by simp only; omega⟩
    · have e := f2 (by assumption) (by assumption)
      refine ⟨rfl, ⟨k + 1, by omega⟩, Lf, by simp only; omega⟩
    · have e := f3 (by assumption) (by assumption) (by assumption)
      refine ⟨rfl, ⟨k + 1, by omega⟩, Lf, by simp only; omega⟩
    · have e := f4 (by assumption)
      refine ⟨rfl, ⟨k + 1, by omega⟩, Lf, by simp only; omega⟩
    · have e := hend (by omega)
      exact Lf
  · have e0 : (bestTo m 0).getD [] = [] := rfl
    have e1 : (bestTo m 0).isSome = false := rfl
    exact Lh
end Go.Px.Try

/-! Ref7 -/
namespace Go.Px.Try
open Go Go.Proofs Go.Px

def planR (m : Mill) : List Int × Int := if checkMill m ≠ 0 then ([], checkMill m) else if (best m).isSome then ((best m).getD [], 0) else ([], 13)
def mostR (m : Mill) : Int × Int := if (planR m).2 ≠ 0 then (0, (planR m).2) else (grinds m (planR m).1, 0)
def more (m : Mill) : Mill := { m with limit := m.limit + 1 }
def worthR (m : Mill) : Int × Int := if (mostR m).2 ≠ 0 then (0, (mostR m).2) else (grinds (more m) ((best (more m)).getD []) - (mostR m).1, 0)

theorem planR_ok (m : Mill) : (planR m).1.length ≤ m.hours.length ∧ ∀ x ∈ (planR m).1, Bit x := by
  unfold planR
  split
  · simp
  · split
    · exact bestTo_getD m _
    · simp
theorem planR_zero {m : Mill} (h : (planR m).2 = 0) : checkMill m = 0 := by
  unfold planR at h
  split at h
  · exact h
  · rename_i h1; exact Decidable.of_not_not h1
theorem mostR_zero {m : Mill} (h : (mostR m).2 = 0) : checkMill m = 0 ∧ (planR m).2 = 0 := by
  unfold mostR at h
  split at h
  · rename_i h1; exact absurd h h1
  · rename_i h1; exact ⟨planR_zero (Decidable.of_not_not h1), Decidable.of_not_not h1⟩

theorem PlanOf2 (m : Mill) (h : checkMill m = 0) : Fn Try.prog 71 [millD m] (tpl [ints ((best m).getD []), bool (best m).isSome]) := PlanOf_spec m (fit_of h)

set_option maxHeartbeats 8000000 in
theorem Plan_spec (m : Mill) (hl : m.hours.length < 1000000) : Fn Try.prog 31 [millD m] (tpl [ints (planR m).1, int (planR m).2]) := by
  refine Fn.of_ex (cuts := []) tys hM Try.func31 rfl Try.call31 rfl ?_
  show exC Try.prog T [] _ false none 0 (entry 19 [millD m]) (finQ T [ResultVar.tmp 2, ResultVar.tmp 3] _)
  conv => whnf
  repeat' first
    | (refine Ob.tt True.intro ?_; conv => whnf)
    | (refine Ob.tt rfl ?_; conv => whnf)
    | (refine Ob.tt (And.intro True.intro (And.intro True.intro True.intro)) ?_; conv => whnf)
    | (refine Ob.tt (And.intro True.intro (And.intro True.intro (And.intro True.intro True.intro))) ?_; conv => whnf)
    | (refine Ob.tt (And.intro True.intro True.intro) ?_; conv => whnf)
    | (refine Ob.tt (Nat.le_of_ble_eq_true rfl) ?_; conv => whnf)
    | (refine Ob.inR (fun _ => ?_) ?_; rotate_left; (try first | assumption | omega | exact ImpS.refl _ | (simp only [inR]; omega) | (simp only [IntKind.bits]; omega) | (refine ⟨?_, ?_⟩ <;> omega)); rotate_right); (conv => whnf)
    | (apply Cl.go; (conv => whnf); (refine Ob.fn ?_ ?_ ?_ (CheckMill_spec m hl); rotate_left; (focus ((repeat' first | (refine Edge.fast ?_) | ((conv => whnf); first | exact True.intro | (refine And.intro ?_ ?_) | exact rfl | exact Nat.le_of_eq (Nat.zero_add _) | exact ImpS.refl _ | ((conv => arg 1; whnf); first | exact ImpS.refl _ | (refine ImpS.nil_eq ?_) | (refine ImpS.vnil_eq ?_) | (refine ImpS.row ?_) | (refine ImpS.rowN ?_ ?_) | (refine ImpS.sl_eq ?_) | (refine ImpS.expl rfl ?_)) | (refine row_snoc' ?_) | (apply row_upd) | exact cimp_none | exact cimp_same | exact List.not_mem_nil | exact DImp.refl _) | exact rfl | (refine And.intro ?_ ?_) | exact ImpS.refl _); done)); (focus ((repeat' first | (refine Edge.fast ?_) | ((conv => whnf); first | exact True.intro | (refine And.intro ?_ ?_) | exact rfl | exact Nat.le_of_eq (Nat.zero_add _) | exact ImpS.refl _ | ((conv => arg 1; whnf); first | exact ImpS.refl _ | (refine ImpS.nil_eq ?_) | (refine ImpS.vnil_eq ?_) | (refine ImpS.row ?_) | (refine ImpS.rowN ?_ ?_) | (refine ImpS.sl_eq ?_) | (refine ImpS.expl rfl ?_)) | (refine row_snoc' ?_) | (apply row_upd) | exact cimp_none | exact cimp_same | exact List.not_mem_nil | exact DImp.refl _) | exact rfl | (refine And.intro ?_ ?_) | exact ImpS.refl _); done)); rotate_right); (conv => whnf))
    | (apply Cl.go; (conv => whnf); (refine Ob.fn ?_ ?_ ?_ (PlanOf2 m ?_); rotate_left; (focus ((repeat' first | (refine Edge.fast ?_) | ((conv => whnf); first | exact True.intro | (refine And.intro ?_ ?_) | exact rfl | exact Nat.le_of_eq (Nat.zero_add _) | exact ImpS.refl _ | ((conv => arg 1; whnf); first | exact ImpS.refl _ | (refine ImpS.nil_eq ?_) | (refine ImpS.vnil_eq ?_) | (refine ImpS.row ?_) | (refine ImpS.rowN ?_ ?_) | (refine ImpS.sl_eq ?_) | (refine ImpS.expl rfl ?_)) | (refine row_snoc' ?_) | (apply row_upd) | exact cimp_none | exact cimp_same | exact List.not_mem_nil | exact DImp.refl _) | exact rfl | (refine And.intro ?_ ?_) | exact ImpS.refl _); done)); (focus ((repeat' first | (refine Edge.fast ?_) | ((conv => whnf); first | exact True.intro | (refine And.intro ?_ ?_) | exact rfl | exact Nat.le_of_eq (Nat.zero_add _) | exact ImpS.refl _ | ((conv => arg 1; whnf); first | exact ImpS.refl _ | (refine ImpS.nil_eq ?_) | (refine ImpS.vnil_eq ?_) | (refine ImpS.row ?_) | (refine ImpS.rowN ?_ ?_) | (refine ImpS.sl_eq ?_) | (refine ImpS.expl rfl ?_)) | (refine row_snoc' ?_) | (apply row_upd) | exact cimp_none | exact cimp_same | exact List.not_mem_nil | exact DImp.refl _) | exact rfl | (refine And.intro ?_ ?_) | exact ImpS.refl _); done)); rotate_right); (conv => whnf))
    | (refine Ob.go (fun _ => ?_) (And.intro True.intro (And.intro ?_ List.not_mem_nil)); rotate_left; (try first | assumption | omega | exact ImpS.refl _ | (simp only [inR]; omega) | (simp only [IntKind.bits]; omega) | (refine ⟨?_, ?_⟩ <;> omega)); rotate_right); (conv => whnf)
    | (refine Ob.and (fun _ => ?_) ?_; rotate_left; (try first | assumption | omega | exact ImpS.refl _ | (simp only [inR]; omega) | (simp only [IntKind.bits]; omega) | (refine ⟨?_, ?_⟩ <;> omega)); rotate_right); (conv => whnf)
    | (refine Ob.ltN (fun _ => ?_) ?_; rotate_left; (try first | assumption | omega | exact ImpS.refl _ | (simp only [inR]; omega) | (simp only [IntKind.bits]; omega) | (refine ⟨?_, ?_⟩ <;> omega)); rotate_right); (conv => whnf)
    | (refine Ob.leN (fun _ => ?_) ?_; rotate_left; (try first | assumption | omega | exact ImpS.refl _ | (simp only [inR]; omega) | (simp only [IntKind.bits]; omega) | (refine ⟨?_, ?_⟩ <;> omega)); rotate_right); (conv => whnf)
    | (refine Sp.tt ?_; conv => whnf)
    | (refine Sp.ff ?_; conv => whnf)
    | (refine Sp.dec (fun hc => ?_) (fun hc => ?_) <;> (conv => whnf))
    | (refine Sp.ndec (fun hc => ?_) (fun hc => ?_) <;> (conv => whnf))
    | (refine Sp.mk (fun hc => ?_) (fun hc => ?_) <;> (conv => whnf))
    | (refine Fi.mk ?_ ?_; (focus ((repeat' first | (refine Edge.fast ?_) | ((conv => whnf); first | exact True.intro | (refine And.intro ?_ ?_) | exact rfl | exact Nat.le_of_eq (Nat.zero_add _) | exact ImpS.refl _ | ((conv => arg 1; whnf); first | exact ImpS.refl _ | (refine ImpS.nil_eq ?_) | (refine ImpS.vnil_eq ?_) | (refine ImpS.row ?_) | (refine ImpS.rowN ?_ ?_) | (refine ImpS.sl_eq ?_) | (refine ImpS.expl rfl ?_)) | (refine row_snoc' ?_) | (apply row_upd) | exact cimp_none | exact cimp_same | exact List.not_mem_nil | exact DImp.refl _) | exact rfl | (refine And.intro ?_ ?_) | exact ImpS.refl _); done)); (conv => whnf))
  all_goals (repeat' first | (refine Edge.fast ?_) | ((conv => whnf); first | exact True.intro | (refine And.intro ?_ ?_) | exact rfl | exact Nat.le_of_eq (Nat.zero_add _) | exact ImpS.refl _ | ((conv => arg 1; whnf); first | exact ImpS.refl _ | (refine ImpS.nil_eq ?_) | (refine ImpS.vnil_eq ?_) | (refine ImpS.row ?_) | (refine ImpS.rowN ?_ ?_) | (refine ImpS.sl_eq ?_) | (refine ImpS.expl rfl ?_)) | (refine row_snoc' ?_) | (apply row_upd) | exact cimp_none | exact cimp_same | exact List.not_mem_nil | exact DImp.refl _) | exact rfl | (refine And.intro ?_ ?_) | exact ImpS.refl _)
  all_goals try first | assumption | omega | (simp only [IntKind.bits]; omega) | (simp [planR, *]; done) | (rw [Bool.eq_iff_iff]; simp; omega) | (simp_all [planR]; done) | (simp_all [planR]; omega)

theorem Grinds3 (m : Mill) (h : checkMill m = 0) : Fn Try.prog 60 [millD m, ints (planR m).1] (int (grinds m (planR m).1)) :=
  Grinds2 m (fit_of h) _ (planR_ok m).1 (planR_ok m).2

set_option maxHeartbeats 8000000 in
theorem Most_spec (m : Mill) (hl : m.hours.length < 1000000) : Fn Try.prog 29 [millD m] (tpl [int (mostR m).1, int (mostR m).2]) := by
  refine Fn.of_ex (cuts := []) tys hM Try.func29 rfl Try.call29 rfl ?_
  show exC Try.prog T [] _ false none 0 (entry 17 [millD m]) (finQ T [ResultVar.tmp 2, ResultVar.tmp 3] _)
  conv => whnf
  repeat' first
    | (refine Ob.tt True.intro ?_; conv => whnf)
    | (refine Ob.tt rfl ?_; conv => whnf)
    | (refine Ob.tt (And.intro True.intro (And.intro True.intro True.intro)) ?_; conv => whnf)
    | (refine Ob.tt (And.intro True.intro (And.intro True.intro (And.intro True.intro True.intro))) ?_; conv => whnf)
    | (refine Ob.tt (And.intro True.intro True.intro) ?_; conv => whnf)
    | (refine Ob.tt (Nat.le_of_ble_eq_true rfl) ?_; conv => whnf)
    | (refine Ob.inR (fun _ => ?_) ?_; rotate_left; (try first | assumption | omega | exact ImpS.refl _ | (simp only [inR]; omega) | (simp only [IntKind.bits]; omega) | (refine ⟨?_, ?_⟩ <;> omega)); rotate_right); (conv => whnf)
    | (apply Cl.go; (conv => whnf); (refine Ob.fn ?_ ?_ ?_ (Plan_spec m hl); rotate_left; (focus ((repeat' first | (refine Edge.fast ?_) | ((conv => whnf); first | exact True.intro | (refine And.intro ?_ ?_) | exact rfl | exact Nat.le_of_eq (Nat.zero_add _) | exact ImpS.refl _ | ((conv => arg 1; whnf); first | exact ImpS.refl _ | (refine ImpS.nil_eq ?_) | (refine ImpS.vnil_eq ?_) | (refine ImpS.row ?_) | (refine ImpS.rowN ?_ ?_) | (refine ImpS.sl_eq ?_) | (refine ImpS.expl rfl ?_)) | (refine row_snoc' ?_) | (apply row_upd) | exact cimp_none | exact cimp_same | exact List.not_mem_nil | exact DImp.refl _) | exact rfl | (refine And.intro ?_ ?_) | exact ImpS.refl _); done)); (focus ((repeat' first | (refine Edge.fast ?_) | ((conv => whnf); first | exact True.intro | (refine And.intro ?_ ?_) | exact rfl | exact Nat.le_of_eq (Nat.zero_add _) | exact ImpS.refl _ | ((conv => arg 1; whnf); first | exact ImpS.refl _ | (refine ImpS.nil_eq ?_) | (refine ImpS.vnil_eq ?_) | (refine ImpS.row ?_) | (refine ImpS.rowN ?_ ?_) | (refine ImpS.sl_eq ?_) | (refine ImpS.expl rfl ?_)) | (refine row_snoc' ?_) | (apply row_upd) | exact cimp_none | exact cimp_same | exact List.not_mem_nil | exact DImp.refl _) | exact rfl | (refine And.intro ?_ ?_) | exact ImpS.refl _); done)); rotate_right); (conv => whnf))
    | (apply Cl.go; (conv => whnf); (refine Ob.fn ?_ ?_ ?_ (Grinds3 m (planR_zero ?_)); rotate_left; (focus ((repeat' first | (refine Edge.fast ?_) | ((conv => whnf); first | exact True.intro | (refine And.intro ?_ ?_) | exact rfl | exact Nat.le_of_eq (Nat.zero_add _) | exact ImpS.refl _ | ((conv => arg 1; whnf); first | exact ImpS.refl _ | (refine ImpS.nil_eq ?_) | (refine ImpS.vnil_eq ?_) | (refine ImpS.row ?_) | (refine ImpS.rowN ?_ ?_) | (refine ImpS.sl_eq ?_) | (refine ImpS.expl rfl ?_)) | (refine row_snoc' ?_) | (apply row_upd) | exact cimp_none | exact cimp_same | exact List.not_mem_nil | exact DImp.refl _) | exact rfl | (refine And.intro ?_ ?_) | exact ImpS.refl _); done)); (focus ((repeat' first | (refine Edge.fast ?_) | ((conv => whnf); first | exact True.intro | (refine And.intro ?_ ?_) | exact rfl | exact Nat.le_of_eq (Nat.zero_add _) | exact ImpS.refl _ | ((conv => arg 1; whnf); first | exact ImpS.refl _ | (refine ImpS.nil_eq ?_) | (refine ImpS.vnil_eq ?_) | (refine ImpS.row ?_) | (refine ImpS.rowN ?_ ?_) | (refine ImpS.sl_eq ?_) | (refine ImpS.expl rfl ?_)) | (refine row_snoc' ?_) | (apply row_upd) | exact cimp_none | exact cimp_same | exact List.not_mem_nil | exact DImp.refl _) | exact rfl | (refine And.intro ?_ ?_) | exact ImpS.refl _); done)); rotate_right); (conv => whnf))
    | (refine Ob.go (fun _ => ?_) (And.intro True.intro (And.intro ?_ List.not_mem_nil)); rotate_left; (try first | assumption | omega | exact ImpS.refl _ | (simp only [inR]; omega) | (simp only [IntKind.bits]; omega) | (refine ⟨?_, ?_⟩ <;> omega)); rotate_right); (conv => whnf)
    | (refine Ob.and (fun _ => ?_) ?_; rotate_left; (try first | assumption | omega | exact ImpS.refl _ | (simp only [inR]; omega) | (simp only [IntKind.bits]; omega) | (refine ⟨?_, ?_⟩ <;> omega)); rotate_right); (conv => whnf)
    | (refine Ob.ltN (fun _ => ?_) ?_; rotate_left; (try first | assumption | omega | exact ImpS.refl _ | (simp only [inR]; omega) | (simp only [IntKind.bits]; omega) | (refine ⟨?_, ?_⟩ <;> omega)); rotate_right); (conv => whnf)
    | (refine Ob.leN (fun _ => ?_) ?_; rotate_left; (try first | assumption | omega | exact ImpS.refl _ | (simp only [inR]; omega) | (simp only [IntKind.bits]; omega) | (refine ⟨?_, ?_⟩ <;> omega)); rotate_right); (conv => whnf)
    | (refine Sp.tt ?_; conv => whnf)
    | (refine Sp.ff ?_; conv => whnf)
    | (refine Sp.dec (fun hc => ?_) (fun hc => ?_) <;> (conv => whnf))
    | (refine Sp.ndec (fun hc => ?_) (fun hc => ?_) <;> (conv => whnf))
    | (refine Sp.mk (fun hc => ?_) (fun hc => ?_) <;> (conv => whnf))
    | (refine Fi.mk ?_ ?_; (focus ((repeat' first | (refine Edge.fast ?_) | ((conv => whnf); first | exact True.intro | (refine And.intro ?_ ?_) | exact rfl | exact Nat.le_of_eq (Nat.zero_add _) | exact ImpS.refl _ | ((conv => arg 1; whnf); first | exact ImpS.refl _ | (refine ImpS.nil_eq ?_) | (refine ImpS.vnil_eq ?_) | (refine ImpS.row ?_) | (refine ImpS.rowN ?_ ?_) | (refine ImpS.sl_eq ?_) | (refine ImpS.expl rfl ?_)) | (refine row_snoc' ?_) | (apply row_upd) | exact cimp_none | exact cimp_same | exact List.not_mem_nil | exact DImp.refl _) | exact rfl | (refine And.intro ?_ ?_) | exact ImpS.refl _); done)); (conv => whnf))
  all_goals (repeat' first | (refine Edge.fast ?_) | ((conv => whnf); first | exact True.intro | (refine And.intro ?_ ?_) | exact rfl | exact Nat.le_of_eq (Nat.zero_add _) | exact ImpS.refl _ | ((conv => arg 1; whnf); first | exact ImpS.refl _ | (refine ImpS.nil_eq ?_) | (refine ImpS.vnil_eq ?_) | (refine ImpS.row ?_) | (refine ImpS.rowN ?_ ?_) | (refine ImpS.sl_eq ?_) | (refine ImpS.expl rfl ?_)) | (refine row_snoc' ?_) | (apply row_upd) | exact cimp_none | exact cimp_same | exact List.not_mem_nil | exact DImp.refl _) | exact rfl | (refine And.intro ?_ ?_) | exact ImpS.refl _)
  all_goals try first | assumption | omega | (simp only [IntKind.bits]; omega) | (simp [mostR, *]; done) | (rw [Bool.eq_iff_iff]; simp; omega) | (simp_all [mostR]; done) | (simp_all [mostR]; omega)

theorem fit_more {m : Mill} (h : checkMill m = 0) : Fit (more m) := by
  have := fit_of h
  exact ⟨this.n12, this.gain, this.fall, this.start, this.hours⟩
theorem PlanOf3 (m : Mill) (h : checkMill m = 0) : Fn Try.prog 71 [millD (more m)] (tpl [ints ((best (more m)).getD []), bool (best (more m)).isSome]) := PlanOf_spec (more m) (fit_more h)
theorem Grinds4 (m : Mill) (h : checkMill m = 0) : Fn Try.prog 60 [millD (more m), ints ((best (more m)).getD [])] (int (grinds (more m) ((best (more m)).getD []))) :=
  Grinds2 (more m) (fit_more h) _ (bestTo_getD _ _).1 (bestTo_getD _ _).2

theorem grinds_sm {m : Mill} (h : Fit m) {plan : List Int} (hl : plan.length ≤ m.hours.length) (hb : ∀ x ∈ plan, Bit x) : Sm 12000 (grinds m plan) := by
  obtain ⟨⟨h1, h2⟩, _⟩ := grindsTo_sm (m := m) (plan := plan) (fun _ hj => mem_getD hb hj) (pounds_sm h.hours) plan.length (Nat.le_refl _)
  have := h.n12
  have e : plan.length ≤ 12 := by omega
  constructor <;> (unfold grinds; omega)

set_option maxHeartbeats 8000000 in
theorem Worth_spec (m : Mill) (hl : m.hours.length < 1000000) : Fn Try.prog 33 [millD m] (tpl [int (worthR m).1, int (worthR m).2]) := by
  by_cases h0 : (mostR m).2 = 0
  · have hm := (mostR_zero h0).1
    have ⟨_, _⟩ : Sm 1000 m.limit := by
      obtain ⟨_, ⟨⟨_, _⟩, _⟩, _⟩ := checkMill_zero hm
      constructor <;> omega
    have ⟨_, _⟩ : Sm 12000 (grinds (more m) ((best (more m)).getD [])) := grinds_sm (fit_more hm) (bestTo_getD (more m) (2 ^ (more m).hours.length)).1 (bestTo_getD (more m) (2 ^ (more m).hours.length)).2
    have ⟨_, _⟩ : Sm 12000 (mostR m).1 := by
      have := grinds_sm (fit_of hm) (planR_ok m).1 (planR_ok m).2
      unfold mostR
      rw [if_neg (by rw [(mostR_zero h0).2]; simp)]
      exact this
    refine Fn.of_ex (cuts := []) tys hM Try.func33 rfl Try.call33 rfl ?_
    show exC Try.prog T [] _ false none 0 (entry 30 [millD m]) (finQ T [ResultVar.tmp 2, ResultVar.tmp 3] _)
    conv => whnf
    repeat' first
      | (refine Ob.tt True.intro ?_; conv => whnf)
      | (refine Ob.tt rfl ?_; conv => whnf)
      | (refine Ob.tt (And.intro True.intro (And.intro True.intro True.intro)) ?_; conv => whnf)
      | (refine Ob.tt (And.intro True.intro (And.intro True.intro (And.intro True.intro True.intro))) ?_; conv => whnf)
      | (refine Ob.tt (And.intro True.intro True.intro) ?_; conv => whnf)
      | (refine Ob.tt (Nat.le_of_ble_eq_true rfl) ?_; conv => whnf)
      | (refine Ob.inR (fun _ => ?_) ?_; rotate_left; (try first | assumption | omega | exact ImpS.refl _ | (simp only [inR]; omega) | (simp only [IntKind.bits]; omega) | (refine ⟨?_, ?_⟩ <;> omega)); rotate_right); (conv => whnf)
      | (apply Cl.go; (conv => whnf); (refine Ob.fn ?_ ?_ ?_ (Most_spec m hl); rotate_left; (focus ((repeat' first | (refine Edge.fast ?_) | ((conv => whnf); first | exact True.intro | (refine And.intro ?_ ?_) | exact rfl | exact Nat.le_of_eq (Nat.zero_add _) | exact ImpS.refl _ | ((conv => arg 1; whnf); first | exact ImpS.refl _ | (refine ImpS.nil_eq ?_) | (refine ImpS.vnil_eq ?_) | (refine ImpS.row ?_) | (refine ImpS.rowN ?_ ?_) | (refine ImpS.sl_eq ?_) | (refine ImpS.expl rfl ?_)) | (refine row_snoc' ?_) | (apply row_upd) | exact cimp_none | exact cimp_same | exact List.not_mem_nil | exact DImp.refl _) | exact rfl | (refine And.intro ?_ ?_) | exact ImpS.refl _); done)); (focus ((repeat' first | (refine Edge.fast ?_) | ((conv => whnf); first | exact True.intro | (refine And.intro ?_ ?_) | exact rfl | exact Nat.le_of_eq (Nat.zero_add _) | exact ImpS.refl _ | ((conv => arg 1; whnf); first | exact ImpS.refl _ | (refine ImpS.nil_eq ?_) | (refine ImpS.vnil_eq ?_) | (refine ImpS.row ?_) | (refine ImpS.rowN ?_ ?_) | (refine ImpS.sl_eq ?_) | (refine ImpS.expl rfl ?_)) | (refine row_snoc' ?_) | (apply row_upd) | exact cimp_none | exact cimp_same | exact List.not_mem_nil | exact DImp.refl _) | exact rfl | (refine And.intro ?_ ?_) | exact ImpS.refl _); done)); rotate_right); (conv => whnf))
      | (apply Cl.go; (conv => whnf); (refine Ob.fn ?_ ?_ ?_ (PlanOf3 m hm); rotate_left; (focus ((repeat' first | (refine Edge.fast ?_) | ((conv => whnf); first | exact True.intro | (refine And.intro ?_ ?_) | exact rfl | exact Nat.le_of_eq (Nat.zero_add _) | exact ImpS.refl _ | ((conv => arg 1; whnf); first | exact ImpS.refl _ | (refine ImpS.nil_eq ?_) | (refine ImpS.vnil_eq ?_) | (refine ImpS.row ?_) | (refine ImpS.rowN ?_ ?_) | (refine ImpS.sl_eq ?_) | (refine ImpS.expl rfl ?_)) | (refine row_snoc' ?_) | (apply row_upd) | exact cimp_none | exact cimp_same | exact List.not_mem_nil | exact DImp.refl _) | exact rfl | (refine And.intro ?_ ?_) | exact ImpS.refl _); done)); (focus ((repeat' first | (refine Edge.fast ?_) | ((conv => whnf); first | exact True.intro | (refine And.intro ?_ ?_) | exact rfl | exact Nat.le_of_eq (Nat.zero_add _) | exact ImpS.refl _ | ((conv => arg 1; whnf); first | exact ImpS.refl _ | (refine ImpS.nil_eq ?_) | (refine ImpS.vnil_eq ?_) | (refine ImpS.row ?_) | (refine ImpS.rowN ?_ ?_) | (refine ImpS.sl_eq ?_) | (refine ImpS.expl rfl ?_)) | (refine row_snoc' ?_) | (apply row_upd) | exact cimp_none | exact cimp_same | exact List.not_mem_nil | exact DImp.refl _) | exact rfl | (refine And.intro ?_ ?_) | exact ImpS.refl _); done)); rotate_right); (conv => whnf))
      | (apply Cl.go; (conv => whnf); (refine Ob.fn ?_ ?_ ?_ (Grinds4 m hm); rotate_left; (focus ((repeat' first | (refine Edge.fast ?_) | ((conv => whnf); first | exact True.intro | (refine And.intro ?_ ?_) | exact rfl | exact Nat.le_of_eq (Nat.zero_add _) | exact ImpS.refl _ | ((conv => arg 1; whnf); first | exact ImpS.refl _ | (refine ImpS.nil_eq ?_) | (refine ImpS.vnil_eq ?_) | (refine ImpS.row ?_) | (refine ImpS.rowN ?_ ?_) | (refine ImpS.sl_eq ?_) | (refine ImpS.expl rfl ?_)) | (refine row_snoc' ?_) | (apply row_upd) | exact cimp_none | exact cimp_same | exact List.not_mem_nil | exact DImp.refl _) | exact rfl | (refine And.intro ?_ ?_) | exact ImpS.refl _); done)); (focus ((repeat' first | (refine Edge.fast ?_) | ((conv => whnf); first | exact True.intro | (refine And.intro ?_ ?_) | exact rfl | exact Nat.le_of_eq (Nat.zero_add _) | exact ImpS.refl _ | ((conv => arg 1; whnf); first | exact ImpS.refl _ | (refine ImpS.nil_eq ?_) | (refine ImpS.vnil_eq ?_) | (refine ImpS.row ?_) | (refine ImpS.rowN ?_ ?_) | (refine ImpS.sl_eq ?_) | (refine ImpS.expl rfl ?_)) | (refine row_snoc' ?_) | (apply row_upd) | exact cimp_none | exact cimp_same | exact List.not_mem_nil | exact DImp.refl _) | exact rfl | (refine And.intro ?_ ?_) | exact ImpS.refl _); done)); rotate_right); (conv => whnf))
      | (refine Ob.go (fun _ => ?_) (And.intro True.intro (And.intro ?_ List.not_mem_nil)); rotate_left; (try first | assumption | omega | exact ImpS.refl _ | (simp only [inR]; omega) | (simp only [IntKind.bits]; omega) | (refine ⟨?_, ?_⟩ <;> omega)); rotate_right); (conv => whnf)
      | (refine Ob.and (fun _ => ?_) ?_; rotate_left; (try first | assumption | omega | exact ImpS.refl _ | (simp only [inR]; omega) | (simp only [IntKind.bits]; omega) | (refine ⟨?_, ?_⟩ <;> omega)); rotate_right); (conv => whnf)
      | (refine Ob.ltN (fun _ => ?_) ?_; rotate_left; (try first | assumption | omega | exact ImpS.refl _ | (simp only [inR]; omega) | (simp only [IntKind.bits]; omega) | (refine ⟨?_, ?_⟩ <;> omega)); rotate_right); (conv => whnf)
      | (refine Ob.leN (fun _ => ?_) ?_; rotate_left; (try first | assumption | omega | exact ImpS.refl _ | (simp only [inR]; omega) | (simp only [IntKind.bits]; omega) | (refine ⟨?_, ?_⟩ <;> omega)); rotate_right); (conv => whnf)
      | (refine Sp.tt ?_; conv => whnf)
      | (refine Sp.ff ?_; conv => whnf)
      | (refine Sp.dec (fun hc => ?_) (fun hc => ?_) <;> (conv => whnf))
      | (refine Sp.ndec (fun hc => ?_) (fun hc => ?_) <;> (conv => whnf))
      | (refine Sp.mk (fun hc => ?_) (fun hc => ?_) <;> (conv => whnf))
      | (refine Fi.mk ?_ ?_; (focus ((repeat' first | (refine Edge.fast ?_) | ((conv => whnf); first | exact True.intro | (refine And.intro ?_ ?_) | exact rfl | exact Nat.le_of_eq (Nat.zero_add _) | exact ImpS.refl _ | ((conv => arg 1; whnf); first | exact ImpS.refl _ | (refine ImpS.nil_eq ?_) | (refine ImpS.vnil_eq ?_) | (refine ImpS.row ?_) | (refine ImpS.rowN ?_ ?_) | (refine ImpS.sl_eq ?_) | (refine ImpS.expl rfl ?_)) | (refine row_snoc' ?_) | (apply row_upd) | exact cimp_none | exact cimp_same | exact List.not_mem_nil | exact DImp.refl _) | exact rfl | (refine And.intro ?_ ?_) | exact ImpS.refl _); done)); (conv => whnf))
    all_goals (repeat' first | (refine Edge.fast ?_) | ((conv => whnf); first | exact True.intro | (refine And.intro ?_ ?_) | exact rfl | exact Nat.le_of_eq (Nat.zero_add _) | exact ImpS.refl _ | ((conv => arg 1; whnf); first | exact ImpS.refl _ | (refine ImpS.nil_eq ?_) | (refine ImpS.vnil_eq ?_) | (refine ImpS.row ?_) | (refine ImpS.rowN ?_ ?_) | (refine ImpS.sl_eq ?_) | (refine ImpS.expl rfl ?_)) | (refine row_snoc' ?_) | (apply row_upd) | exact cimp_none | exact cimp_same | exact List.not_mem_nil | exact DImp.refl _) | exact rfl | (refine And.intro ?_ ?_) | exact ImpS.refl _)
    all_goals try first | assumption | omega | (simp only [IntKind.bits]; omega) | (simp [worthR, *]; done) | (rw [Bool.eq_iff_iff]; simp; omega) | (simp_all [worthR]; done) | (simp_all [worthR]; omega)
  · refine Fn.of_ex (cuts := []) tys hM Try.func33 rfl Try.call33 rfl ?_
    show exC Try.prog T [] _ false none 0 (entry 30 [millD m]) (finQ T [ResultVar.tmp 2, ResultVar.tmp 3] _)
    conv => whnf
    repeat' first
      | (refine Ob.tt True.intro ?_; conv => whnf)
      | (refine Ob.tt rfl ?_; conv => whnf)
      | (refine Ob.tt (And.intro True.intro (And.intro True.intro True.intro)) ?_; conv => whnf)
      | (refine Ob.tt (And.intro True.intro (And.intro True.intro (And.intro True.intro True.intro))) ?_; conv => whnf)
      | (refine Ob.tt (And.intro True.intro True.intro) ?_; conv => whnf)
      | (refine Ob.tt (Nat.le_of_ble_eq_true rfl) ?_; conv => whnf)
      | (refine Ob.inR (fun _ => ?_) ?_; rotate_left; (try first | assumption | omega | exact ImpS.refl _ | (simp only [inR]; omega) | (simp only [IntKind.bits]; omega) | (refine ⟨?_, ?_⟩ <;> omega)); rotate_right); (conv => whnf)
      | (apply Cl.go; (conv => whnf); (refine Ob.fn ?_ ?_ ?_ (Most_spec m hl); rotate_left; (focus ((repeat' first | (refine Edge.fast ?_) | ((conv => whnf); first | exact True.intro | (refine And.intro ?_ ?_) | exact rfl | exact Nat.le_of_eq (Nat.zero_add _) | exact ImpS.refl _ | ((conv => arg 1; whnf); first | exact ImpS.refl _ | (refine ImpS.nil_eq ?_) | (refine ImpS.vnil_eq ?_) | (refine ImpS.row ?_) | (refine ImpS.rowN ?_ ?_) | (refine ImpS.sl_eq ?_) | (refine ImpS.expl rfl ?_)) | (refine row_snoc' ?_) | (apply row_upd) | exact cimp_none | exact cimp_same | exact List.not_mem_nil | exact DImp.refl _) | exact rfl | (refine And.intro ?_ ?_) | exact ImpS.refl _); done)); (focus ((repeat' first | (refine Edge.fast ?_) | ((conv => whnf); first | exact True.intro | (refine And.intro ?_ ?_) | exact rfl | exact Nat.le_of_eq (Nat.zero_add _) | exact ImpS.refl _ | ((conv => arg 1; whnf); first | exact ImpS.refl _ | (refine ImpS.nil_eq ?_) | (refine ImpS.vnil_eq ?_) | (refine ImpS.row ?_) | (refine ImpS.rowN ?_ ?_) | (refine ImpS.sl_eq ?_) | (refine ImpS.expl rfl ?_)) | (refine row_snoc' ?_) | (apply row_upd) | exact cimp_none | exact cimp_same | exact List.not_mem_nil | exact DImp.refl _) | exact rfl | (refine And.intro ?_ ?_) | exact ImpS.refl _); done)); rotate_right); (conv => whnf))
      | (refine Ob.go (fun _ => ?_) (And.intro True.intro (And.intro ?_ List.not_mem_nil)); rotate_left; (try first | assumption | omega | exact ImpS.refl _ | (simp only [inR]; omega) | (simp only [IntKind.bits]; omega) | (refine ⟨?_, ?_⟩ <;> omega)); rotate_right); (conv => whnf)
      | (refine Ob.and (fun _ => ?_) ?_; rotate_left; (try first | assumption | omega | exact ImpS.refl _ | (simp only [inR]; omega) | (simp only [IntKind.bits]; omega) | (refine ⟨?_, ?_⟩ <;> omega)); rotate_right); (conv => whnf)
      | (refine Ob.ltN (fun _ => ?_) ?_; rotate_left; (try first | assumption | omega | exact ImpS.refl _ | (simp only [inR]; omega) | (simp only [IntKind.bits]; omega) | (refine ⟨?_, ?_⟩ <;> omega)); rotate_right); (conv => whnf)
      | (refine Ob.leN (fun _ => ?_) ?_; rotate_left; (try first | assumption | omega | exact ImpS.refl _ | (simp only [inR]; omega) | (simp only [IntKind.bits]; omega) | (refine ⟨?_, ?_⟩ <;> omega)); rotate_right); (conv => whnf)
      | (refine Sp.tt ?_; conv => whnf)
      | (refine Sp.ff ?_; conv => whnf)
      | (refine Sp.dec (fun hc => ?_) (fun hc => ?_) <;> (conv => whnf))
      | (refine Sp.ndec (fun hc => ?_) (fun hc => ?_) <;> (conv => whnf))
      | (refine Sp.mk (fun hc => ?_) (fun hc => ?_) <;> (conv => whnf))
      | (refine Fi.mk ?_ ?_; (focus ((repeat' first | (refine Edge.fast ?_) | ((conv => whnf); first | exact True.intro | (refine And.intro ?_ ?_) | exact rfl | exact Nat.le_of_eq (Nat.zero_add _) | exact ImpS.refl _ | ((conv => arg 1; whnf); first | exact ImpS.refl _ | (refine ImpS.nil_eq ?_) | (refine ImpS.vnil_eq ?_) | (refine ImpS.row ?_) | (refine ImpS.rowN ?_ ?_) | (refine ImpS.sl_eq ?_) | (refine ImpS.expl rfl ?_)) | (refine row_snoc' ?_) | (apply row_upd) | exact cimp_none | exact cimp_same | exact List.not_mem_nil | exact DImp.refl _) | exact rfl | (refine And.intro ?_ ?_) | exact ImpS.refl _); done)); (conv => whnf))
    all_goals (repeat' first | (refine Edge.fast ?_) | ((conv => whnf); first | exact True.intro | (refine And.intro ?_ ?_) | exact rfl | exact Nat.le_of_eq (Nat.zero_add _) | exact ImpS.refl _ | ((conv => arg 1; whnf); first | exact ImpS.refl _ | (refine ImpS.nil_eq ?_) | (refine ImpS.vnil_eq ?_) | (refine ImpS.row ?_) | (refine ImpS.rowN ?_ ?_) | (refine ImpS.sl_eq ?_) | (refine ImpS.expl rfl ?_)) | (refine row_snoc' ?_) | (apply row_upd) | exact cimp_none | exact cimp_same | exact List.not_mem_nil | exact DImp.refl _) | exact rfl | (refine And.intro ?_ ?_) | exact ImpS.refl _)
    all_goals try first | assumption | omega | (simp only [IntKind.bits]; omega) | (simp [worthR, *]; done) | (rw [Bool.eq_iff_iff]; simp; omega) | (simp_all [worthR]; done) | (simp_all [worthR]; omega)
end Go.Px.Try

/-! Ref8 -/
namespace Go.Px.Try
open Go Go.Proofs Go.Px

def at2 (t : List (List Int)) (i j : Int) : Int := (t.getD i.toNat []).getD j.toNat 0
def hourAt (m : Mill) (i : Int) : Hour := m.hours.getD i.toNat default
/-- What is asked of a table at an hour, and a heat. -/
def CellOk (m : Mill) (t : List (List Int)) (i heat : Int) : Prop :=
  (after m heat (hourAt m i).hi 0 ≤ m.limit → at2 t (i + 1) (after m heat (hourAt m i).hi 0) ≤ at2 t i heat) ∧
  (after m heat (hourAt m i).hi 1 ≤ m.limit → (hourAt m i).pounds + at2 t (i + 1) (after m heat (hourAt m i).hi 1) ≤ at2 t i heat)
def Proves (m : Mill) (t : List (List Int)) : Prop := ∀ i heat : Nat, i < m.hours.length → heat < (m.limit + 1).toNat → CellOk m t i heat
instance (m : Mill) (t : List (List Int)) (i heat : Int) : Decidable (CellOk m t i heat) := by unfold CellOk; exact inferInstance
instance (m : Mill) (t : List (List Int)) : Decidable (Proves m t) := by unfold Proves; exact decidable_of_iff (∀ i, i < m.hours.length → ∀ heat, heat < (m.limit + 1).toNat → CellOk m t i heat) ⟨fun h i j hi hj => h i hi j hj, fun h i hi j hj => h i j hi hj⟩
def Wide (m : Mill) (t : List (List Int)) : Prop := ∀ r ∈ t, (r.length : Int) = m.limit + 1
def Range (t : List (List Int)) : Prop := ∀ r ∈ t, ∀ x ∈ r, 0 ≤ x ∧ x ≤ 1200
instance (m : Mill) (t : List (List Int)) : Decidable (Wide m t) := by unfold Wide; exact inferInstance
instance (t : List (List Int)) : Decidable (Range t) := by unfold Range; exact inferInstance
def checkTableR (m : Mill) (t : List (List Int)) : Int × Int :=
  if checkMill m ≠ 0 then (0, checkMill m) else if t.length ≠ m.hours.length + 1 then (0, 15) else if ¬ Wide m t then (0, 15) else if ¬ Range t then (0, 3) else if ¬ Proves m t then (0, 14) else (at2 t 0 m.start, 0)

def tableD (t : List (List Int)) : DV := slOf 1 ints [] t

theorem getD_mem {α : Type} {l : List α} {i : Nat} (h : i < l.length) (d : α) : l.getD i d ∈ l := by
  rw [List.getD_eq_getElem?_getD, List.getElem?_eq_getElem h]; exact List.getElem_mem h

section
variable {m : Mill} {t : List (List Int)}
theorem ct1 (h1 : checkMill m = 0) (h2 : t.length ≠ m.hours.length + 1) : checkTableR m t = (0, 15) := by
  unfold checkTableR; rw [if_neg (by simp [h1]), if_pos h2]
theorem ct2 (h1 : checkMill m = 0) (h2 : t.length = m.hours.length + 1) {i : Int} (hi : 0 ≤ i) (hl : i < t.length) (h : ((t.getD i.toNat []).length : Int) ≠ m.limit + 1) : checkTableR m t = (0, 15) := by
  unfold checkTableR
  rw [if_neg (by simp [h1]), if_neg (by simp [h2]), if_pos]
  intro hw
  exact h (hw _ (getD_mem (by omega) []))
theorem ct3 (h1 : checkMill m = 0) (h2 : t.length = m.hours.length + 1) (h3 : Wide m t) {i j : Int} (hi : 0 ≤ i) (hl : i < t.length) (hj : 0 ≤ j) (hjl : j < (t.getD i.toNat []).length) (h : ¬ (0 ≤ at2 t i j ∧ at2 t i j ≤ 1200)) : checkTableR m t = (0, 3) := by
  unfold checkTableR
  rw [if_neg (by simp [h1]), if_neg (by simp [h2]), if_neg (by simp [h3]), if_pos]
  intro hr
  exact h (hr _ (getD_mem (by omega) []) _ (getD_mem (by omega) 0))
theorem ct4 (h1 : checkMill m = 0) (h2 : t.length = m.hours.length + 1) (h3 : Wide m t) (h4 : Range t) {i j : Int} (hi : 0 ≤ i) (hl : i < m.hours.length) (hj : 0 ≤ j) (hjl : j ≤ m.limit) (h : ¬ CellOk m t i j) : checkTableR m t = (0, 14) := by
  unfold checkTableR
  rw [if_neg (by simp [h1]), if_neg (by simp [h2]), if_neg (by simp [h3]), if_neg (by simp [h4]), if_pos]
  intro hp
  have := hp i.toNat j.toNat (by omega) (by omega)
  rw [Int.toNat_of_nonneg hi, Int.toNat_of_nonneg hj] at this
  exact h this
theorem ct5 (h1 : checkMill m = 0) (h2 : t.length = m.hours.length + 1) (h3 : Wide m t) (h4 : Range t) (h5 : Proves m t) : checkTableR m t = (at2 t 0 m.start, 0) := by
  unfold checkTableR
  rw [if_neg (by simp [h1]), if_neg (by simp [h2]), if_neg (by simp [h3]), if_neg (by simp [h4]), if_neg (by simp [h5])]
theorem range_sm (h : Range t) (i j : Int) : Sm 1200 (at2 t i j) := by
  unfold at2
  by_cases h1 : i.toNat < t.length
  · by_cases h2 : j.toNat < (t.getD i.toNat []).length
    · obtain ⟨_, _⟩ := h _ (getD_mem h1 []) _ (getD_mem h2 0)
      constructor <;> omega
    · rw [List.getD_eq_getElem?_getD (l := t.getD i.toNat []), List.getElem?_eq_none (by omega)]
      constructor <;> simp
  · rw [List.getD_eq_getElem?_getD (l := t), List.getElem?_eq_none (by omega)]
    constructor <;> simp
end

theorem after_nn {m : Mill} {heat rm g : Int} (h0 : 0 ≤ heat) (h1 : 0 ≤ rm) (h2 : 1 ≤ m.gain) : 0 ≤ after m heat rm g := by
  unfold after
  split <;> omega

set_option maxHeartbeats 64000000 in
theorem CheckTable_spec (m : Mill) (t : List (List Int)) (hl : m.hours.length < 1000000) (ht : t.length < 1000000) : Fn Try.prog 51 [millD m, tableD t] (tpl [int (checkTableR m t).1, int (checkTableR m t).2]) := by
  refine Fn.hide (D := fun r : Int × Int => tpl [int r.1, int r.2]) fun r hr => ?_
  by_cases h1 : checkMill m = 0
  case neg =>
    have e : r = (0, checkMill m) := hr.h ▸ if_pos h1
    refine Fn.of_ex (cuts := []) tys hM Try.func51 rfl Try.call51 rfl ?_
    show exC Try.prog T [] _ false none 0 (entry 153 [millD m, tableD t]) (finQ T [ResultVar.tmp 4, ResultVar.tmp 5] _)
    conv => whnf
    repeat' first
      | (refine Ob.tt True.intro ?_; conv => whnf)
      | (refine Ob.tt rfl ?_; conv => whnf)
      | (refine Ob.tt (And.intro True.intro (And.intro True.intro True.intro)) ?_; conv => whnf)
      | (refine Ob.tt (And.intro True.intro (And.intro True.intro (And.intro True.intro True.intro))) ?_; conv => whnf)
      | (refine Ob.tt (And.intro True.intro True.intro) ?_; conv => whnf)
      | (refine Ob.tt (Nat.le_of_ble_eq_true rfl) ?_; conv => whnf)
      | (refine Ob.inR (fun _ => ?_) ?_; rotate_left; (try first | assumption | omega | exact ImpS.refl _ | (simp only [inR]; omega) | (simp only [IntKind.bits]; omega) | (refine ⟨?_, ?_⟩ <;> omega)); rotate_right); (conv => whnf)
      | (apply Cl.go; (conv => whnf); (refine Ob.fn ?_ ?_ ?_ (CheckMill_spec m hl); rotate_left; (focus ((repeat' first | (refine Edge.fast ?_) | ((conv => whnf); first | exact True.intro | (refine And.intro ?_ ?_) | exact rfl | exact Nat.le_of_eq (Nat.zero_add _) | exact ImpS.refl _ | ((conv => arg 1; whnf); first | exact ImpS.refl _ | (refine ImpS.nil_eq ?_) | (refine ImpS.vnil_eq ?_) | (refine ImpS.row ?_) | (refine ImpS.rowN ?_ ?_) | (refine ImpS.sl_eq ?_) | (refine ImpS.expl rfl ?_)) | (refine row_snoc' ?_) | (apply row_upd) | exact cimp_none | exact cimp_same | exact List.not_mem_nil | exact DImp.refl _) | exact rfl | (refine And.intro ?_ ?_) | exact ImpS.refl _); done)); (focus ((repeat' first | (refine Edge.fast ?_) | ((conv => whnf); first | exact True.intro | (refine And.intro ?_ ?_) | exact rfl | exact Nat.le_of_eq (Nat.zero_add _) | exact ImpS.refl _ | ((conv => arg 1; whnf); first | exact ImpS.refl _ | (refine ImpS.nil_eq ?_) | (refine ImpS.vnil_eq ?_) | (refine ImpS.row ?_) | (refine ImpS.rowN ?_ ?_) | (refine ImpS.sl_eq ?_) | (refine ImpS.expl rfl ?_)) | (refine row_snoc' ?_) | (apply row_upd) | exact cimp_none | exact cimp_same | exact List.not_mem_nil | exact DImp.refl _) | exact rfl | (refine And.intro ?_ ?_) | exact ImpS.refl _); done)); rotate_right); (conv => whnf))
      | (refine Ob.go (fun _ => ?_) (And.intro True.intro (And.intro ?_ List.not_mem_nil)); rotate_left; (try first | assumption | omega | exact ImpS.refl _ | (simp only [inR]; omega) | (simp only [IntKind.bits]; omega) | (refine ⟨?_, ?_⟩ <;> omega)); rotate_right); (conv => whnf)
      | (refine Ob.and (fun _ => ?_) ?_; rotate_left; (try first | assumption | omega | exact ImpS.refl _ | (simp only [inR]; omega) | (simp only [IntKind.bits]; omega) | (refine ⟨?_, ?_⟩ <;> omega)); rotate_right); (conv => whnf)
      | (refine Ob.ltN (fun _ => ?_) ?_; rotate_left; (try first | assumption | omega | exact ImpS.refl _ | (simp only [inR]; omega) | (simp only [IntKind.bits]; omega) | (refine ⟨?_, ?_⟩ <;> omega)); rotate_right); (conv => whnf)
      | (refine Ob.leN (fun _ => ?_) ?_; rotate_left; (try first | assumption | omega | exact ImpS.refl _ | (simp only [inR]; omega) | (simp only [IntKind.bits]; omega) | (refine ⟨?_, ?_⟩ <;> omega)); rotate_right); (conv => whnf)
      | (refine Sp.tt ?_; conv => whnf)
      | (refine Sp.ff ?_; conv => whnf)
      | (refine Sp.dec (fun hc => ?_) (fun hc => ?_) <;> (conv => whnf))
      | (refine Sp.ndec (fun hc => ?_) (fun hc => ?_) <;> (conv => whnf))
      | (refine Sp.mk (fun hc => ?_) (fun hc => ?_) <;> (conv => whnf))
      | (refine Fi.mk ?_ ?_; (focus ((repeat' first | (refine Edge.fast ?_) | ((conv => whnf); first | exact True.intro | (refine And.intro ?_ ?_) | exact rfl | exact Nat.le_of_eq (Nat.zero_add _) | exact ImpS.refl _ | ((conv => arg 1; whnf); first | exact ImpS.refl _ | (refine ImpS.nil_eq ?_) | (refine ImpS.vnil_eq ?_) | (refine ImpS.row ?_) | (refine ImpS.rowN ?_ ?_) | (refine ImpS.sl_eq ?_) | (refine ImpS.expl rfl ?_)) | (refine row_snoc' ?_) | (apply row_upd) | exact cimp_none | exact cimp_same | exact List.not_mem_nil | exact DImp.refl _) | exact rfl | (refine And.intro ?_ ?_) | exact ImpS.refl _); done)); (conv => whnf))
    all_goals first | contradiction | skip
    (repeat' first | (refine Edge.fast ?_) | ((conv => whnf); first | exact True.intro | (refine And.intro ?_ ?_) | exact rfl | exact Nat.le_of_eq (Nat.zero_add _) | exact ImpS.refl _ | ((conv => arg 1; whnf); first | exact ImpS.refl _ | (refine ImpS.nil_eq ?_) | (refine ImpS.vnil_eq ?_) | (refine ImpS.row ?_) | (refine ImpS.rowN ?_ ?_) | (refine ImpS.sl_eq ?_) | (refine ImpS.expl rfl ?_)) | (refine row_snoc' ?_) | (apply row_upd) | exact cimp_none | exact cimp_same | exact List.not_mem_nil | exact DImp.refl _) | exact rfl | (refine And.intro ?_ ?_) | exact ImpS.refl _)
    all_goals try first | (simp only [e]; done) | assumption | omega | (simp [e, *]; done) | (simp_all [e]; done)
  obtain ⟨⟨hn1, hn12⟩, hhead, hhours⟩ := checkMill_zero h1
  obtain ⟨⟨_, _⟩, ⟨_, _⟩, ⟨_, _⟩, _, _⟩ := hhead
  refine Fn.of_ex (cuts := []) tys hM Try.func51 rfl Try.call51 rfl ?_
  show exC Try.prog T [] _ false none 0 (entry 153 [millD m, tableD t]) (finQ T [ResultVar.tmp 4, ResultVar.tmp 5] _)
  conv => whnf
  repeat' first
    | (refine Ob.tt True.intro ?_; conv => whnf)
    | (refine Ob.tt rfl ?_; conv => whnf)
    | (refine Ob.tt (And.intro True.intro (And.intro True.intro True.intro)) ?_; conv => whnf)
    | (refine Ob.tt (And.intro True.intro (And.intro True.intro (And.intro True.intro True.intro))) ?_; conv => whnf)
    | (refine Ob.tt (And.intro True.intro True.intro) ?_; conv => whnf)
    | (refine Ob.tt (Nat.le_of_ble_eq_true rfl) ?_; conv => whnf)
    | (refine Ob.inR (fun _ => ?_) ?_; rotate_left; (try first | assumption | omega | exact ImpS.refl _ | (simp only [inR]; omega) | (simp only [IntKind.bits]; omega) | (refine ⟨?_, ?_⟩ <;> omega)); rotate_right); (conv => whnf)
    | (apply Cl.go; (conv => whnf); (refine Ob.fn ?_ ?_ ?_ (CheckMill_spec m hl); rotate_left; (focus ((repeat' first | (refine Edge.fast ?_) | ((conv => whnf); first | exact True.intro | (refine And.intro ?_ ?_) | exact rfl | exact Nat.le_of_eq (Nat.zero_add _) | exact ImpS.refl _ | ((conv => arg 1; whnf); first | exact ImpS.refl _ | (refine ImpS.nil_eq ?_) | (refine ImpS.vnil_eq ?_) | (refine ImpS.row ?_) | (refine ImpS.rowN ?_ ?_) | (refine ImpS.sl_eq ?_) | (refine ImpS.expl rfl ?_)) | (refine row_snoc' ?_) | (apply row_upd) | exact cimp_none | exact cimp_same | exact List.not_mem_nil | exact DImp.refl _) | exact rfl | (refine And.intro ?_ ?_) | exact ImpS.refl _); done)); (focus ((repeat' first | (refine Edge.fast ?_) | ((conv => whnf); first | exact True.intro | (refine And.intro ?_ ?_) | exact rfl | exact Nat.le_of_eq (Nat.zero_add _) | exact ImpS.refl _ | ((conv => arg 1; whnf); first | exact ImpS.refl _ | (refine ImpS.nil_eq ?_) | (refine ImpS.vnil_eq ?_) | (refine ImpS.row ?_) | (refine ImpS.rowN ?_ ?_) | (refine ImpS.sl_eq ?_) | (refine ImpS.expl rfl ?_)) | (refine row_snoc' ?_) | (apply row_upd) | exact cimp_none | exact cimp_same | exact List.not_mem_nil | exact DImp.refl _) | exact rfl | (refine And.intro ?_ ?_) | exact ImpS.refl _); done)); rotate_right); (conv => whnf))
    | (refine Ob.go (fun _ => ?_) (And.intro True.intro (And.intro ?_ List.not_mem_nil)); rotate_left; (try first | assumption | omega | exact ImpS.refl _ | (simp only [inR]; omega) | (simp only [IntKind.bits]; omega) | (refine ⟨?_, ?_⟩ <;> omega)); rotate_right); (conv => whnf)
    | (refine Ob.and (fun _ => ?_) ?_; rotate_left; (try first | assumption | omega | exact ImpS.refl _ | (simp only [inR]; omega) | (simp only [IntKind.bits]; omega) | (refine ⟨?_, ?_⟩ <;> omega)); rotate_right); (conv => whnf)
    | (refine Ob.ltN (fun _ => ?_) ?_; rotate_left; (try first | assumption | omega | exact ImpS.refl _ | (simp only [inR]; omega) | (simp only [IntKind.bits]; omega) | (refine ⟨?_, ?_⟩ <;> omega)); rotate_right); (conv => whnf)
    | (refine Ob.leN (fun _ => ?_) ?_; rotate_left; (try first | assumption | omega | exact ImpS.refl _ | (simp only [inR]; omega) | (simp only [IntKind.bits]; omega) | (refine ⟨?_, ?_⟩ <;> omega)); rotate_right); (conv => whnf)
    | (refine Sp.tt ?_; conv => whnf)
    | (refine Sp.ff ?_; conv => whnf)
    | (refine Sp.dec (fun hc => ?_) (fun hc => ?_) <;> (conv => whnf))
    | (refine Sp.ndec (fun hc => ?_) (fun hc => ?_) <;> (conv => whnf))
    | (refine Sp.mk (fun hc => ?_) (fun hc => ?_) <;> (conv => whnf))
    | (refine Fi.mk ?_ ?_; (focus ((repeat' first | (refine Edge.fast ?_) | ((conv => whnf); first | exact True.intro | (refine And.intro ?_ ?_) | exact rfl | exact Nat.le_of_eq (Nat.zero_add _) | exact ImpS.refl _ | ((conv => arg 1; whnf); first | exact ImpS.refl _ | (refine ImpS.nil_eq ?_) | (refine ImpS.vnil_eq ?_) | (refine ImpS.row ?_) | (refine ImpS.rowN ?_ ?_) | (refine ImpS.sl_eq ?_) | (refine ImpS.expl rfl ?_)) | (refine row_snoc' ?_) | (apply row_upd) | exact cimp_none | exact cimp_same | exact List.not_mem_nil | exact DImp.refl _) | exact rfl | (refine And.intro ?_ ?_) | exact ImpS.refl _); done)); (conv => whnf))
  · contradiction
  · have e : r = _ := hr.h ▸ ct1 (m := m) (t := t) h1 (fun h => hc (by rw [h]; rfl))
    (repeat' first | (refine Edge.fast ?_) | ((conv => whnf); first | exact True.intro | (refine And.intro ?_ ?_) | exact rfl | exact Nat.le_of_eq (Nat.zero_add _) | exact ImpS.refl _ | ((conv => arg 1; whnf); first | exact ImpS.refl _ | (refine ImpS.nil_eq ?_) | (refine ImpS.vnil_eq ?_) | (refine ImpS.row ?_) | (refine ImpS.rowN ?_ ?_) | (refine ImpS.sl_eq ?_) | (refine ImpS.expl rfl ?_)) | (refine row_snoc' ?_) | (apply row_upd) | exact cimp_none | exact cimp_same | exact List.not_mem_nil | exact DImp.refl _) | exact rfl | (refine And.intro ?_ ?_) | exact ImpS.refl _)
    all_goals try first | (simp only [e]; done) | assumption | omega | (simp [e, *]; done) | (simp_all [e]; done)
  have h2 : t.length = m.hours.length + 1 := by
    have := Decidable.of_not_not hc
    omega
  refine Lp.go 153 {i : Int // 0 ≤ i ∧ i ≤ t.length ∧ ∀ j : Int, 0 ≤ j → j < i → ((t.getD j.toNat []).length : Int) = m.limit + 1}
    (fun ⟨i, _⟩ => ⟨1, [(1, .d (tableD t)), (2, .ref 0 0), (6, .d (int m.hours.length)), (7, .d (int i))], [(0, .cs true 5 fun j => .d ((millL m).getD j .top))], some 0⟩)
    (fun p => (t.length - p.1).toNat) ⟨0, by omega, by omega, fun j _ _ => by omega⟩ ?_ ?_ rfl (fun _ => rfl)
  · rintro ⟨i, hi0, hil, hinv⟩
    conv => whnf
    repeat' first
      | (refine Ob.tt True.intro ?_; conv => whnf)
      | (refine Ob.tt rfl ?_; conv => whnf)
      | (refine Ob.tt (And.intro True.intro (And.intro True.intro True.intro)) ?_; conv => whnf)
      | (refine Ob.tt (And.intro True.intro (And.intro True.intro (And.intro True.intro True.intro))) ?_; conv => whnf)
      | (refine Ob.tt (And.intro True.intro True.intro) ?_; conv => whnf)
      | (refine Ob.tt (Nat.le_of_ble_eq_true rfl) ?_; conv => whnf)
      | (refine Ob.inR (fun _ => ?_) ?_; rotate_left; (try first | assumption | omega | exact ImpS.refl _ | (simp only [inR]; omega) | (simp only [IntKind.bits]; omega) | (refine ⟨?_, ?_⟩ <;> omega)); rotate_right); (conv => whnf)
      | (refine Ob.go (fun _ => ?_) (And.intro True.intro (And.intro ?_ List.not_mem_nil)); rotate_left; (try first | assumption | omega | exact ImpS.refl _ | (simp only [inR]; omega) | (simp only [IntKind.bits]; omega) | (refine ⟨?_, ?_⟩ <;> omega)); rotate_right); (conv => whnf)
      | (refine Ob.and (fun _ => ?_) ?_; rotate_left; (try first | assumption | omega | exact ImpS.refl _ | (simp only [inR]; omega) | (simp only [IntKind.bits]; omega) | (refine ⟨?_, ?_⟩ <;> omega)); rotate_right); (conv => whnf)
      | (refine Ob.ltN (fun _ => ?_) ?_; rotate_left; (try first | assumption | omega | exact ImpS.refl _ | (simp only [inR]; omega) | (simp only [IntKind.bits]; omega) | (refine ⟨?_, ?_⟩ <;> omega)); rotate_right); (conv => whnf)
      | (refine Ob.leN (fun _ => ?_) ?_; rotate_left; (try first | assumption | omega | exact ImpS.refl _ | (simp only [inR]; omega) | (simp only [IntKind.bits]; omega) | (refine ⟨?_, ?_⟩ <;> omega)); rotate_right); (conv => whnf)
      | (refine Sp.tt ?_; conv => whnf)
      | (refine Sp.ff ?_; conv => whnf)
      | (refine Sp.dec (fun hc => ?_) (fun hc => ?_) <;> (conv => whnf))
      | (refine Sp.ndec (fun hc => ?_) (fun hc => ?_) <;> (conv => whnf))
      | (refine Sp.mk (fun hc => ?_) (fun hc => ?_) <;> (conv => whnf))
      | (refine Fi.mk ?_ ?_; (focus ((repeat' first | (refine Edge.fast ?_) | ((conv => whnf); first | exact True.intro | (refine And.intro ?_ ?_) | exact rfl | exact Nat.le_of_eq (Nat.zero_add _) | exact ImpS.refl _ | ((conv => arg 1; whnf); first | exact ImpS.refl _ | (refine ImpS.nil_eq ?_) | (refine ImpS.vnil_eq ?_) | (refine ImpS.row ?_) | (refine ImpS.rowN ?_ ?_) | (refine ImpS.sl_eq ?_) | (refine ImpS.expl rfl ?_)) | (refine row_snoc' ?_) | (apply row_upd) | exact cimp_none | exact cimp_same | exact List.not_mem_nil | exact DImp.refl _) | exact rfl | (refine And.intro ?_ ?_) | exact ImpS.refl _); done)); (conv => whnf))
    · have e : r = _ := hr.h ▸ ct2 h1 h2 (i := i) (by omega) (by omega) hc
      (repeat' first | (refine Edge.fast ?_) | ((conv => whnf); first | exact True.intro | (refine And.intro ?_ ?_) | exact rfl | exact Nat.le_of_eq (Nat.zero_add _) | exact ImpS.refl _ | ((conv => arg 1; whnf); first | exact ImpS.refl _ | (refine ImpS.nil_eq ?_) | (refine ImpS.vnil_eq ?_) | (refine ImpS.row ?_) | (refine ImpS.rowN ?_ ?_) | (refine ImpS.sl_eq ?_) | (refine ImpS.expl rfl ?_)) | (refine row_snoc' ?_) | (apply row_upd) | exact cimp_none | exact cimp_same | exact List.not_mem_nil | exact DImp.refl _) | exact rfl | (refine And.intro ?_ ?_) | exact ImpS.refl _)
      all_goals try first | (simp only [e]; done) | assumption | omega | (simp [e, *]; done) | (simp_all [e]; done)
    · have hrow : ((t.getD i.toNat []).length : Int) = m.limit + 1 := Decidable.of_not_not hc
      refine ⟨rfl, ⟨i + 1, by omega, by omega, fun j hj hji => if e : j = i then e ▸ hrow else hinv j hj (by omega)⟩, ?_, ?_⟩
      · (conv => whnf)
        all_goals (repeat' first | (refine Edge.fast ?_) | ((conv => whnf); first | exact True.intro | (refine And.intro ?_ ?_) | exact rfl | exact Nat.le_of_eq (Nat.zero_add _) | exact ImpS.refl _ | ((conv => arg 1; whnf); first | exact ImpS.refl _ | (refine ImpS.nil_eq ?_) | (refine ImpS.vnil_eq ?_) | (refine ImpS.row ?_) | (refine ImpS.rowN ?_ ?_) | (refine ImpS.sl_eq ?_) | (refine ImpS.expl rfl ?_)) | (refine row_snoc' ?_) | (apply row_upd) | exact cimp_none | exact cimp_same | exact List.not_mem_nil | exact DImp.refl _) | exact rfl | (refine And.intro ?_ ?_) | exact ImpS.refl _)
        all_goals try first | assumption | (simp only []; done) | omega | (simp [*]; done)
      · simp only; omega
    have hw : Wide m t := by
      intro r hr
      obtain ⟨k, hk, rfl⟩ := List.getElem_of_mem hr
      have := hinv k (by omega) (by omega)
      rw [Int.toNat_natCast, List.getD_eq_getElem?_getD, List.getElem?_eq_getElem hk] at this
      exact this
    have hlen : ∀ j : Int, 0 ≤ j → j ≤ m.hours.length → ((t.getD j.toNat []).length : Int) = m.limit + 1 := fun j h3 h4 => hinv j h3 (by omega)
    refine Lp.go 153 {i : Int // 0 ≤ i ∧ i ≤ t.length ∧ ∀ j : Int, 0 ≤ j → j < i → ∀ k : Int, 0 ≤ k → k ≤ m.limit → 0 ≤ at2 t j k ∧ at2 t j k ≤ 1200}
      (fun ⟨i, _⟩ => ⟨1, [(1, .d (tableD t)), (2, .ref 0 0), (6, .d (int m.hours.length)), (8, .d (int i))], [(0, .cs true 5 fun j => .d ((millL m).getD j .top))], some 0⟩)
      (fun p => (t.length - p.1).toNat) ⟨0, by omega, by omega, fun j _ _ => by omega⟩ ?_ ?_ rfl (fun _ => rfl)
    · rintro ⟨i, hi0, hil, hinv⟩
      conv => whnf
      have hbnd := hlen i
      repeat' first
        | (refine Ob.tt True.intro ?_; conv => whnf)
        | (refine Ob.tt rfl ?_; conv => whnf)
        | (refine Ob.tt (And.intro True.intro (And.intro True.intro True.intro)) ?_; conv => whnf)
        | (refine Ob.tt (And.intro True.intro (And.intro True.intro (And.intro True.intro True.intro))) ?_; conv => whnf)
        | (refine Ob.tt (And.intro True.intro True.intro) ?_; conv => whnf)
        | (refine Ob.tt (Nat.le_of_ble_eq_true rfl) ?_; conv => whnf)
        | (refine Ob.inR (fun _ => ?_) ?_; rotate_left; (try first | assumption | omega | exact ImpS.refl _ | (simp only [inR]; omega) | (simp only [IntKind.bits]; omega) | (refine ⟨?_, ?_⟩ <;> omega)); rotate_right); (conv => whnf)
        | (refine Ob.go (fun _ => ?_) (And.intro True.intro (And.intro ?_ List.not_mem_nil)); rotate_left; (try first | assumption | omega | exact ImpS.refl _ | (simp only [inR]; omega) | (simp only [IntKind.bits]; omega) | (refine ⟨?_, ?_⟩ <;> omega)); rotate_right); (conv => whnf)
        | (refine Ob.and (fun _ => ?_) ?_; rotate_left; (try first | assumption | omega | exact ImpS.refl _ | (simp only [inR]; omega) | (simp only [IntKind.bits]; omega) | (refine ⟨?_, ?_⟩ <;> omega)); rotate_right); (conv => whnf)
        | (refine Ob.ltN (fun _ => ?_) ?_; rotate_left; (try first | assumption | omega | exact ImpS.refl _ | (simp only [inR]; omega) | (simp only [IntKind.bits]; omega) | (refine ⟨?_, ?_⟩ <;> omega)); rotate_right); (conv => whnf)
        | (refine Ob.leN (fun _ => ?_) ?_; rotate_left; (try first | assumption | omega | exact ImpS.refl _ | (simp only [inR]; omega) | (simp only [IntKind.bits]; omega) | (refine ⟨?_, ?_⟩ <;> omega)); rotate_right); (conv => whnf)
        | (refine Sp.tt ?_; conv => whnf)
        | (refine Sp.ff ?_; conv => whnf)
        | (refine Sp.dec (fun hc => ?_) (fun hc => ?_) <;> (conv => whnf))
        | (refine Sp.ndec (fun hc => ?_) (fun hc => ?_) <;> (conv => whnf))
        | (refine Sp.mk (fun hc => ?_) (fun hc => ?_) <;> (conv => whnf))
        | (refine Fi.mk ?_ ?_; (focus ((repeat' first | (refine Edge.fast ?_) | ((conv => whnf); first | exact True.intro | (refine And.intro ?_ ?_) | exact rfl | exact Nat.le_of_eq (Nat.zero_add _) | exact ImpS.refl _ | ((conv => arg 1; whnf); first | exact ImpS.refl _ | (refine ImpS.nil_eq ?_) | (refine ImpS.vnil_eq ?_) | (refine ImpS.row ?_) | (refine ImpS.rowN ?_ ?_) | (refine ImpS.sl_eq ?_) | (refine ImpS.expl rfl ?_)) | (refine row_snoc' ?_) | (apply row_upd) | exact cimp_none | exact cimp_same | exact List.not_mem_nil | exact DImp.refl _) | exact rfl | (refine And.intro ?_ ?_) | exact ImpS.refl _); done)); (conv => whnf))
      · refine Lp.go 153 {j : Int // 0 ≤ j ∧ j ≤ m.limit + 1 ∧ ∀ k : Int, 0 ≤ k → k < j → 0 ≤ at2 t i k ∧ at2 t i k ≤ 1200}
          (fun ⟨j, _⟩ => ⟨1, [(1, .d (tableD t)), (2, .ref 0 0), (6, .d (int m.hours.length)), (8, .d (int i)), (9, .d (int j))], [(0, .cs true 5 fun j => .d ((millL m).getD j .top))], some 0⟩)
          (fun p => (m.limit + 1 - p.1).toNat) ⟨0, by omega, by omega, fun k _ _ => by omega⟩ ?_ ?_ rfl (fun _ => rfl)
        · rintro ⟨j, hj0, hjl, hj⟩
          conv => whnf
          have hlen' := hlen i hi0 hc
          repeat' first
            | (refine Ob.tt True.intro ?_; conv => whnf)
            | (refine Ob.tt rfl ?_; conv => whnf)
            | (refine Ob.tt (And.intro True.intro (And.intro True.intro True.intro)) ?_; conv => whnf)
            | (refine Ob.tt (And.intro True.intro (And.intro True.intro (And.intro True.intro True.intro))) ?_; conv => whnf)
            | (refine Ob.tt (And.intro True.intro True.intro) ?_; conv => whnf)
            | (refine Ob.tt (Nat.le_of_ble_eq_true rfl) ?_; conv => whnf)
            | (refine Ob.inR (fun _ => ?_) ?_; rotate_left; (try first | assumption | omega | exact ImpS.refl _ | (simp only [inR]; omega) | (simp only [IntKind.bits]; omega) | (refine ⟨?_, ?_⟩ <;> omega)); rotate_right); (conv => whnf)
            | (apply Cl.go; (conv => whnf); (refine Ob.fn ?_ ?_ ?_ (is_spec ((t.getD i.toNat []).getD j.toNat 0) 0 1200); rotate_left; (focus ((repeat' first | (refine Edge.fast ?_) | ((conv => whnf); first | exact True.intro | (refine And.intro ?_ ?_) | exact rfl | exact Nat.le_of_eq (Nat.zero_add _) | exact ImpS.refl _ | ((conv => arg 1; whnf); first | exact ImpS.refl _ | (refine ImpS.nil_eq ?_) | (refine ImpS.vnil_eq ?_) | (refine ImpS.row ?_) | (refine ImpS.rowN ?_ ?_) | (refine ImpS.sl_eq ?_) | (refine ImpS.expl rfl ?_)) | (refine row_snoc' ?_) | (apply row_upd) | exact cimp_none | exact cimp_same | exact List.not_mem_nil | exact DImp.refl _) | exact rfl | (refine And.intro ?_ ?_) | exact ImpS.refl _); done)); (focus ((repeat' first | (refine Edge.fast ?_) | ((conv => whnf); first | exact True.intro | (refine And.intro ?_ ?_) | exact rfl | exact Nat.le_of_eq (Nat.zero_add _) | exact ImpS.refl _ | ((conv => arg 1; whnf); first | exact ImpS.refl _ | (refine ImpS.nil_eq ?_) | (refine ImpS.vnil_eq ?_) | (refine ImpS.row ?_) | (refine ImpS.rowN ?_ ?_) | (refine ImpS.sl_eq ?_) | (refine ImpS.expl rfl ?_)) | (refine row_snoc' ?_) | (apply row_upd) | exact cimp_none | exact cimp_same | exact List.not_mem_nil | exact DImp.refl _) | exact rfl | (refine And.intro ?_ ?_) | exact ImpS.refl _); done)); rotate_right); (conv => whnf))
            | (refine Ob.go (fun _ => ?_) (And.intro True.intro (And.intro ?_ List.not_mem_nil)); rotate_left; (try first | assumption | omega | exact ImpS.refl _ | (simp only [inR]; omega) | (simp only [IntKind.bits]; omega) | (refine ⟨?_, ?_⟩ <;> omega)); rotate_right); (conv => whnf)
            | (refine Ob.and (fun _ => ?_) ?_; rotate_left; (try first | assumption | omega | exact ImpS.refl _ | (simp only [inR]; omega) | (simp only [IntKind.bits]; omega) | (refine ⟨?_, ?_⟩ <;> omega)); rotate_right); (conv => whnf)
            | (refine Ob.ltN (fun _ => ?_) ?_; rotate_left; (try first | assumption | omega | exact ImpS.refl _ | (simp only [inR]; omega) | (simp only [IntKind.bits]; omega) | (refine ⟨?_, ?_⟩ <;> omega)); rotate_right); (conv => whnf)
            | (refine Ob.leN (fun _ => ?_) ?_; rotate_left; (try first | assumption | omega | exact ImpS.refl _ | (simp only [inR]; omega) | (simp only [IntKind.bits]; omega) | (refine ⟨?_, ?_⟩ <;> omega)); rotate_right); (conv => whnf)
            | (refine Sp.tt ?_; conv => whnf)
            | (refine Sp.ff ?_; conv => whnf)
            | (refine Sp.dec (fun hc => ?_) (fun hc => ?_) <;> (conv => whnf))
            | (refine Sp.ndec (fun hc => ?_) (fun hc => ?_) <;> (conv => whnf))
            | (refine Sp.mk (fun hc => ?_) (fun hc => ?_) <;> (conv => whnf))
            | (refine Fi.mk ?_ ?_; (focus ((repeat' first | (refine Edge.fast ?_) | ((conv => whnf); first | exact True.intro | (refine And.intro ?_ ?_) | exact rfl | exact Nat.le_of_eq (Nat.zero_add _) | exact ImpS.refl _ | ((conv => arg 1; whnf); first | exact ImpS.refl _ | (refine ImpS.nil_eq ?_) | (refine ImpS.vnil_eq ?_) | (refine ImpS.row ?_) | (refine ImpS.rowN ?_ ?_) | (refine ImpS.sl_eq ?_) | (refine ImpS.expl rfl ?_)) | (refine row_snoc' ?_) | (apply row_upd) | exact cimp_none | exact cimp_same | exact List.not_mem_nil | exact DImp.refl _) | exact rfl | (refine And.intro ?_ ?_) | exact ImpS.refl _); done)); (conv => whnf))
          · have e : r = _ := hr.h ▸ ct3 h1 h2 hw (i := i) (j := j) (by omega) (by omega) (by omega) (by omega) (by assumption)
            (repeat' first | (refine Edge.fast ?_) | ((conv => whnf); first | exact True.intro | (refine And.intro ?_ ?_) | exact rfl | exact Nat.le_of_eq (Nat.zero_add _) | exact ImpS.refl _ | ((conv => arg 1; whnf); first | exact ImpS.refl _ | (refine ImpS.nil_eq ?_) | (refine ImpS.vnil_eq ?_) | (refine ImpS.row ?_) | (refine ImpS.rowN ?_ ?_) | (refine ImpS.sl_eq ?_) | (refine ImpS.expl rfl ?_)) | (refine row_snoc' ?_) | (apply row_upd) | exact cimp_none | exact cimp_same | exact List.not_mem_nil | exact DImp.refl _) | exact rfl | (refine And.intro ?_ ?_) | exact ImpS.refl _)
            all_goals try first | (simp only [e]; done) | assumption | omega | (simp [e, *]; done) | (simp_all [e]; done)
          · refine ⟨rfl, ⟨j + 1, by omega, by omega, fun k hk hkj => if e : k = j then e ▸ (by assumption) else hj k hk (by omega)⟩, ?_, ?_⟩
            · (conv => whnf)
              all_goals (repeat' first | (refine Edge.fast ?_) | ((conv => whnf); first | exact True.intro | (refine And.intro ?_ ?_) | exact rfl | exact Nat.le_of_eq (Nat.zero_add _) | exact ImpS.refl _ | ((conv => arg 1; whnf); first | exact ImpS.refl _ | (refine ImpS.nil_eq ?_) | (refine ImpS.vnil_eq ?_) | (refine ImpS.row ?_) | (refine ImpS.rowN ?_ ?_) | (refine ImpS.sl_eq ?_) | (refine ImpS.expl rfl ?_)) | (refine row_snoc' ?_) | (apply row_upd) | exact cimp_none | exact cimp_same | exact List.not_mem_nil | exact DImp.refl _) | exact rfl | (refine And.intro ?_ ?_) | exact ImpS.refl _)
              all_goals try first | assumption | (simp only []; done) | omega | (simp [*]; done)
            · simp only; omega
          · have hi1 : i + 1 ≤ t.length := by omega
            refine ⟨rfl, ⟨i + 1, by omega, hi1, fun k hk hki q hq hql => if e : k = i then e ▸ hj q hq (by omega) else hinv k hk (by omega) q hq hql⟩, ?_, ?_⟩
            · (conv => whnf)
              all_goals (repeat' first | (refine Edge.fast ?_) | ((conv => whnf); first | exact True.intro | (refine And.intro ?_ ?_) | exact rfl | exact Nat.le_of_eq (Nat.zero_add _) | exact ImpS.refl _ | ((conv => arg 1; whnf); first | exact ImpS.refl _ | (refine ImpS.nil_eq ?_) | (refine ImpS.vnil_eq ?_) | (refine ImpS.row ?_) | (refine ImpS.rowN ?_ ?_) | (refine ImpS.sl_eq ?_) | (refine ImpS.expl rfl ?_)) | (refine row_snoc' ?_) | (apply row_upd) | exact cimp_none | exact cimp_same | exact List.not_mem_nil | exact DImp.refl _) | exact rfl | (refine And.intro ?_ ?_) | exact ImpS.refl _)
              all_goals try first | assumption | (simp only []; done) | omega | (simp [*]; done)
            · simp only; omega
        · conv => whnf
          all_goals (repeat' first | (refine Edge.fast ?_) | ((conv => whnf); first | exact True.intro | (refine And.intro ?_ ?_) | exact rfl | exact Nat.le_of_eq (Nat.zero_add _) | exact ImpS.refl _ | ((conv => arg 1; whnf); first | exact ImpS.refl _ | (refine ImpS.nil_eq ?_) | (refine ImpS.vnil_eq ?_) | (refine ImpS.row ?_) | (refine ImpS.rowN ?_ ?_) | (refine ImpS.sl_eq ?_) | (refine ImpS.expl rfl ?_)) | (refine row_snoc' ?_) | (apply row_upd) | exact cimp_none | exact cimp_same | exact List.not_mem_nil | exact DImp.refl _) | exact rfl | (refine And.intro ?_ ?_) | exact ImpS.refl _)
          all_goals try first | assumption | omega | (simp only [IntKind.bits]; omega) | (simp [*]; done) | (rw [Bool.eq_iff_iff]; simp; omega) | (simp_all []; done) | (simp_all []; omega)
      · have hrange : Range t := by
          intro x hx y hy
          obtain ⟨k, hk, rfl⟩ := List.getElem_of_mem hx
          obtain ⟨q, hq, rfl⟩ := List.getElem_of_mem hy
          have h3 := hw _ (List.getElem_mem hk)
          have := hinv k (by omega) (by omega) q (by omega) (by omega)
          unfold at2 at this
          rw [Int.toNat_natCast, Int.toNat_natCast, List.getD_eq_getElem?_getD (l := t), List.getElem?_eq_getElem hk, List.getD_eq_getElem?_getD, Option.getD_some, List.getElem?_eq_getElem hq] at this
          exact this
        refine Lp.go 153 {i : Int // 0 ≤ i ∧ i ≤ m.hours.length ∧ ∀ j : Int, 0 ≤ j → j < i → ∀ k : Int, 0 ≤ k → k ≤ m.limit → CellOk m t j k}
          (fun ⟨i, _⟩ => ⟨1, [(1, .d (tableD t)), (2, .ref 0 0), (6, .d (int m.hours.length)), (10, .d (int i))], [(0, .cs true 5 fun j => .d ((millL m).getD j .top))], some 0⟩)
          (fun p => (m.hours.length - p.1).toNat) ⟨0, by omega, by omega, fun j _ _ => by omega⟩ ?_ ?_ rfl (fun _ => rfl)
        · rintro ⟨i, hi0, hil, hinv⟩
          conv => whnf
          repeat' first
            | (refine Ob.tt True.intro ?_; conv => whnf)
            | (refine Ob.tt rfl ?_; conv => whnf)
            | (refine Ob.tt (And.intro True.intro (And.intro True.intro True.intro)) ?_; conv => whnf)
            | (refine Ob.tt (And.intro True.intro (And.intro True.intro (And.intro True.intro True.intro))) ?_; conv => whnf)
            | (refine Ob.tt (And.intro True.intro True.intro) ?_; conv => whnf)
            | (refine Ob.tt (Nat.le_of_ble_eq_true rfl) ?_; conv => whnf)
            | (refine Ob.inR (fun _ => ?_) ?_; rotate_left; (try first | assumption | omega | exact ImpS.refl _ | (simp only [inR]; omega) | (simp only [IntKind.bits]; omega) | (refine ⟨?_, ?_⟩ <;> omega)); rotate_right); (conv => whnf)
            | (refine Ob.go (fun _ => ?_) (And.intro True.intro (And.intro ?_ List.not_mem_nil)); rotate_left; (try first | assumption | omega | exact ImpS.refl _ | (simp only [inR]; omega) | (simp only [IntKind.bits]; omega) | (refine ⟨?_, ?_⟩ <;> omega)); rotate_right); (conv => whnf)
            | (refine Ob.and (fun _ => ?_) ?_; rotate_left; (try first | assumption | omega | exact ImpS.refl _ | (simp only [inR]; omega) | (simp only [IntKind.bits]; omega) | (refine ⟨?_, ?_⟩ <;> omega)); rotate_right); (conv => whnf)
            | (refine Ob.ltN (fun _ => ?_) ?_; rotate_left; (try first | assumption | omega | exact ImpS.refl _ | (simp only [inR]; omega) | (simp only [IntKind.bits]; omega) | (refine ⟨?_, ?_⟩ <;> omega)); rotate_right); (conv => whnf)
            | (refine Ob.leN (fun _ => ?_) ?_; rotate_left; (try first | assumption | omega | exact ImpS.refl _ | (simp only [inR]; omega) | (simp only [IntKind.bits]; omega) | (refine ⟨?_, ?_⟩ <;> omega)); rotate_right); (conv => whnf)
            | (refine Sp.tt ?_; conv => whnf)
            | (refine Sp.ff ?_; conv => whnf)
            | (refine Sp.dec (fun hc => ?_) (fun hc => ?_) <;> (conv => whnf))
            | (refine Sp.ndec (fun hc => ?_) (fun hc => ?_) <;> (conv => whnf))
            | (refine Sp.mk (fun hc => ?_) (fun hc => ?_) <;> (conv => whnf))
            | (refine Fi.mk ?_ ?_; (focus ((repeat' first | (refine Edge.fast ?_) | ((conv => whnf); first | exact True.intro | (refine And.intro ?_ ?_) | exact rfl | exact Nat.le_of_eq (Nat.zero_add _) | exact ImpS.refl _ | ((conv => arg 1; whnf); first | exact ImpS.refl _ | (refine ImpS.nil_eq ?_) | (refine ImpS.vnil_eq ?_) | (refine ImpS.row ?_) | (refine ImpS.rowN ?_ ?_) | (refine ImpS.sl_eq ?_) | (refine ImpS.expl rfl ?_)) | (refine row_snoc' ?_) | (apply row_upd) | exact cimp_none | exact cimp_same | exact List.not_mem_nil | exact DImp.refl _) | exact rfl | (refine And.intro ?_ ?_) | exact ImpS.refl _); done)); (conv => whnf))
          · have hHr := hhours (hourAt m i) (getD_mem (by omega) default)
            refine Lp.go 153 {j : Int // 0 ≤ j ∧ j ≤ m.limit + 1 ∧ ∀ k : Int, 0 ≤ k → k < j → CellOk m t i k}
              (fun ⟨j, _⟩ => ⟨1, [(1, .d (tableD t)), (2, .ref 0 0), (6, .d (int m.hours.length)), (10, .d (int i)), (11, .d (int j))], [(0, .cs true 5 fun j => .d ((millL m).getD j .top))], some 0⟩)
              (fun p => (m.limit + 1 - p.1).toNat) ⟨0, by omega, by omega, fun k _ _ => by omega⟩ ?_ ?_ rfl (fun _ => rfl)
            · rintro ⟨j, hj0, hjl, hj⟩
              conv => whnf
              have hl0 := hlen i (by omega) (by omega)
              have hl1 := hlen (i + 1) (by omega) (by omega)
              have ha0 : 0 ≤ after m j (m.hours.getD i.toNat default).hi 0 := after_nn hj0 hHr.2.1.1 (by omega)
              have ha1 : 0 ≤ after m j (m.hours.getD i.toNat default).hi 1 := after_nn hj0 hHr.2.1.1 (by omega)
              have hs := (range_sm hrange (i + 1) (after m j (m.hours.getD i.toNat default).hi 1)).1
              have hs' := (range_sm hrange (i + 1) (after m j (m.hours.getD i.toNat default).hi 1)).2
              have hHi := hHr.2.1.1
              have hHi' := hHr.2.1.2
              unfold hourAt at hHi hHi'
              have hp := hHr.2.2.1
              have hp' := hHr.2.2.2
              unfold at2 at hs hs'
              unfold hourAt at hp hp'
              have hA : Sm 1000000000 j ∧ Sm 1000000000 (m.hours.getD i.toNat default).hi ∧ Sm 1000 m.gain ∧ Sm 1000 m.fall := by
                refine ⟨⟨?_, ?_⟩, ⟨?_, ?_⟩, ⟨?_, ?_⟩, ?_, ?_⟩ <;> omega
              have hce : CellOk m t i j ↔ ((after m j (m.hours.getD i.toNat default).hi 0 ≤ m.limit → (t.getD (i + 1).toNat []).getD (after m j (m.hours.getD i.toNat default).hi 0).toNat 0 ≤ (t.getD i.toNat []).getD j.toNat 0) ∧
                (after m j (m.hours.getD i.toNat default).hi 1 ≤ m.limit → (m.hours.getD i.toNat default).pounds + (t.getD (i + 1).toNat []).getD (after m j (m.hours.getD i.toNat default).hi 1).toNat 0 ≤ (t.getD i.toNat []).getD j.toNat 0)) := Iff.rfl
              repeat' first
                | (refine Ob.tt True.intro ?_; conv => whnf)
                | (refine Ob.tt rfl ?_; conv => whnf)
                | (refine Ob.tt (And.intro True.intro (And.intro True.intro True.intro)) ?_; conv => whnf)
                | (refine Ob.tt (And.intro True.intro (And.intro True.intro (And.intro True.intro True.intro))) ?_; conv => whnf)
                | (refine Ob.tt (And.intro True.intro True.intro) ?_; conv => whnf)
                | (refine Ob.tt (Nat.le_of_ble_eq_true rfl) ?_; conv => whnf)
                | (refine Ob.inR (fun _ => ?_) ?_; rotate_left; (try first | assumption | omega | exact ImpS.refl _ | (simp only [inR]; omega) | (simp only [IntKind.bits]; omega) | (refine ⟨?_, ?_⟩ <;> omega)); rotate_right); (conv => whnf)
                | (apply Cl.go; (conv => whnf); (refine Ob.fn ?_ ?_ ?_ (After_spec m j (m.hours.getD i.toNat default).hi 0 hA); rotate_left; (focus ((repeat' first | (refine Edge.fast ?_) | ((conv => whnf); first | exact True.intro | (refine And.intro ?_ ?_) | exact rfl | exact Nat.le_of_eq (Nat.zero_add _) | exact ImpS.refl _ | ((conv => arg 1; whnf); first | exact ImpS.refl _ | (refine ImpS.nil_eq ?_) | (refine ImpS.vnil_eq ?_) | (refine ImpS.row ?_) | (refine ImpS.rowN ?_ ?_) | (refine ImpS.sl_eq ?_) | (refine ImpS.expl rfl ?_)) | (refine row_snoc' ?_) | (apply row_upd) | exact cimp_none | exact cimp_same | exact List.not_mem_nil | exact DImp.refl _) | exact rfl | (refine And.intro ?_ ?_) | exact ImpS.refl _); done)); (focus ((repeat' first | (refine Edge.fast ?_) | ((conv => whnf); first | exact True.intro | (refine And.intro ?_ ?_) | exact rfl | exact Nat.le_of_eq (Nat.zero_add _) | exact ImpS.refl _ | ((conv => arg 1; whnf); first | exact ImpS.refl _ | (refine ImpS.nil_eq ?_) | (refine ImpS.vnil_eq ?_) | (refine ImpS.row ?_) | (refine ImpS.rowN ?_ ?_) | (refine ImpS.sl_eq ?_) | (refine ImpS.expl rfl ?_)) | (refine row_snoc' ?_) | (apply row_upd) | exact cimp_none | exact cimp_same | exact List.not_mem_nil | exact DImp.refl _) | exact rfl | (refine And.intro ?_ ?_) | exact ImpS.refl _); done)); rotate_right); (conv => whnf))
                | (apply Cl.go; (conv => whnf); (refine Ob.fn ?_ ?_ ?_ (After_spec m j (m.hours.getD i.toNat default).hi 1 hA); rotate_left; (focus ((repeat' first | (refine Edge.fast ?_) | ((conv => whnf); first | exact True.intro | (refine And.intro ?_ ?_) | exact rfl | exact Nat.le_of_eq (Nat.zero_add _) | exact ImpS.refl _ | ((conv => arg 1; whnf); first | exact ImpS.refl _ | (refine ImpS.nil_eq ?_) | (refine ImpS.vnil_eq ?_) | (refine ImpS.row ?_) | (refine ImpS.rowN ?_ ?_) | (refine ImpS.sl_eq ?_) | (refine ImpS.expl rfl ?_)) | (refine row_snoc' ?_) | (apply row_upd) | exact cimp_none | exact cimp_same | exact List.not_mem_nil | exact DImp.refl _) | exact rfl | (refine And.intro ?_ ?_) | exact ImpS.refl _); done)); (focus ((repeat' first | (refine Edge.fast ?_) | ((conv => whnf); first | exact True.intro | (refine And.intro ?_ ?_) | exact rfl | exact Nat.le_of_eq (Nat.zero_add _) | exact ImpS.refl _ | ((conv => arg 1; whnf); first | exact ImpS.refl _ | (refine ImpS.nil_eq ?_) | (refine ImpS.vnil_eq ?_) | (refine ImpS.row ?_) | (refine ImpS.rowN ?_ ?_) | (refine ImpS.sl_eq ?_) | (refine ImpS.expl rfl ?_)) | (refine row_snoc' ?_) | (apply row_upd) | exact cimp_none | exact cimp_same | exact List.not_mem_nil | exact DImp.refl _) | exact rfl | (refine And.intro ?_ ?_) | exact ImpS.refl _); done)); rotate_right); (conv => whnf))
                | (refine Ob.go (fun _ => ?_) (And.intro True.intro (And.intro ?_ List.not_mem_nil)); rotate_left; (try first | assumption | omega | exact ImpS.refl _ | (simp only [inR]; omega) | (simp only [IntKind.bits]; omega) | (refine ⟨?_, ?_⟩ <;> omega)); rotate_right); (conv => whnf)
                | (refine Ob.and (fun _ => ?_) ?_; rotate_left; (try first | assumption | omega | exact ImpS.refl _ | (simp only [inR]; omega) | (simp only [IntKind.bits]; omega) | (refine ⟨?_, ?_⟩ <;> omega)); rotate_right); (conv => whnf)
                | (refine Ob.ltN (fun _ => ?_) ?_; rotate_left; (try first | assumption | omega | exact ImpS.refl _ | (simp only [inR]; omega) | (simp only [IntKind.bits]; omega) | (refine ⟨?_, ?_⟩ <;> omega)); rotate_right); (conv => whnf)
                | (refine Ob.leN (fun _ => ?_) ?_; rotate_left; (try first | assumption | omega | exact ImpS.refl _ | (simp only [inR]; omega) | (simp only [IntKind.bits]; omega) | (refine ⟨?_, ?_⟩ <;> omega)); rotate_right); (conv => whnf)
                | (refine Sp.tt ?_; conv => whnf)
                | (refine Sp.ff ?_; conv => whnf)
                | (refine Sp.dec (fun hc => ?_) (fun hc => ?_) <;> (conv => whnf))
                | (refine Sp.ndec (fun hc => ?_) (fun hc => ?_) <;> (conv => whnf))
                | (refine Sp.mk (fun hc => ?_) (fun hc => ?_) <;> (conv => whnf))
                | (refine Fi.mk ?_ ?_; (focus ((repeat' first | (refine Edge.fast ?_) | ((conv => whnf); first | exact True.intro | (refine And.intro ?_ ?_) | exact rfl | exact Nat.le_of_eq (Nat.zero_add _) | exact ImpS.refl _ | ((conv => arg 1; whnf); first | exact ImpS.refl _ | (refine ImpS.nil_eq ?_) | (refine ImpS.vnil_eq ?_) | (refine ImpS.row ?_) | (refine ImpS.rowN ?_ ?_) | (refine ImpS.sl_eq ?_) | (refine ImpS.expl rfl ?_)) | (refine row_snoc' ?_) | (apply row_upd) | exact cimp_none | exact cimp_same | exact List.not_mem_nil | exact DImp.refl _) | exact rfl | (refine And.intro ?_ ?_) | exact ImpS.refl _); done)); (conv => whnf))
              · have e : r = _ := hr.h ▸ ct4 h1 h2 hw hrange (i := i) (j := j) (by omega) (by omega) (by omega) (by omega) (fun h => absurd ((hce.1 h).1 (by assumption)) (by omega))
                (repeat' first | (refine Edge.fast ?_) | ((conv => whnf); first | exact True.intro | (refine And.intro ?_ ?_) | exact rfl | exact Nat.le_of_eq (Nat.zero_add _) | exact ImpS.refl _ | ((conv => arg 1; whnf); first | exact ImpS.refl _ | (refine ImpS.nil_eq ?_) | (refine ImpS.vnil_eq ?_) | (refine ImpS.row ?_) | (refine ImpS.rowN ?_ ?_) | (refine ImpS.sl_eq ?_) | (refine ImpS.expl rfl ?_)) | (refine row_snoc' ?_) | (apply row_upd) | exact cimp_none | exact cimp_same | exact List.not_mem_nil | exact DImp.refl _) | exact rfl | (refine And.intro ?_ ?_) | exact ImpS.refl _)
                all_goals try first | (simp only [e]; done) | assumption | omega | (simp [e, *]; done) | (simp_all [e]; done)
              · have e : r = _ := hr.h ▸ ct4 h1 h2 hw hrange (i := i) (j := j) (by omega) (by omega) (by omega) (by omega) (fun h => absurd ((hce.1 h).2 (by assumption)) (by omega))
                (repeat' first | (refine Edge.fast ?_) | ((conv => whnf); first | exact True.intro | (refine And.intro ?_ ?_) | exact rfl | exact Nat.le_of_eq (Nat.zero_add _) | exact ImpS.refl _ | ((conv => arg 1; whnf); first | exact ImpS.refl _ | (refine ImpS.nil_eq ?_) | (refine ImpS.vnil_eq ?_) | (refine ImpS.row ?_) | (refine ImpS.rowN ?_ ?_) | (refine ImpS.sl_eq ?_) | (refine ImpS.expl rfl ?_)) | (refine row_snoc' ?_) | (apply row_upd) | exact cimp_none | exact cimp_same | exact List.not_mem_nil | exact DImp.refl _) | exact rfl | (refine And.intro ?_ ?_) | exact ImpS.refl _)
                all_goals try first | (simp only [e]; done) | assumption | omega | (simp [e, *]; done) | (simp_all [e]; done)
              · have hcl : CellOk m t i j := hce.2 ⟨fun _ => by omega, fun _ => by omega⟩
                refine ⟨rfl, ⟨j + 1, by omega, by omega, fun k hk hkj => if e : k = j then e ▸ hcl else hj k hk (by omega)⟩, ?_, ?_⟩
                · (conv => whnf)
                  all_goals (repeat' first | (refine Edge.fast ?_) | ((conv => whnf); first | exact True.intro | (refine And.intro ?_ ?_) | exact rfl | exact Nat.le_of_eq (Nat.zero_add _) | exact ImpS.refl _ | ((conv => arg 1; whnf); first | exact ImpS.refl _ | (refine ImpS.nil_eq ?_) | (refine ImpS.vnil_eq ?_) | (refine ImpS.row ?_) | (refine ImpS.rowN ?_ ?_) | (refine ImpS.sl_eq ?_) | (refine ImpS.expl rfl ?_)) | (refine row_snoc' ?_) | (apply row_upd) | exact cimp_none | exact cimp_same | exact List.not_mem_nil | exact DImp.refl _) | exact rfl | (refine And.intro ?_ ?_) | exact ImpS.refl _)
                  all_goals try first | assumption | (simp only []; done) | omega | (simp [*]; done)
                · simp only; omega
              · have hcl : CellOk m t i j := hce.2 ⟨fun _ => by omega, fun _ => by omega⟩
                refine ⟨rfl, ⟨j + 1, by omega, by omega, fun k hk hkj => if e : k = j then e ▸ hcl else hj k hk (by omega)⟩, ?_, ?_⟩
                · (conv => whnf)
                  all_goals (repeat' first | (refine Edge.fast ?_) | ((conv => whnf); first | exact True.intro | (refine And.intro ?_ ?_) | exact rfl | exact Nat.le_of_eq (Nat.zero_add _) | exact ImpS.refl _ | ((conv => arg 1; whnf); first | exact ImpS.refl _ | (refine ImpS.nil_eq ?_) | (refine ImpS.vnil_eq ?_) | (refine ImpS.row ?_) | (refine ImpS.rowN ?_ ?_) | (refine ImpS.sl_eq ?_) | (refine ImpS.expl rfl ?_)) | (refine row_snoc' ?_) | (apply row_upd) | exact cimp_none | exact cimp_same | exact List.not_mem_nil | exact DImp.refl _) | exact rfl | (refine And.intro ?_ ?_) | exact ImpS.refl _)
                  all_goals try first | assumption | (simp only []; done) | omega | (simp [*]; done)
                · simp only; omega
              · have e : r = _ := hr.h ▸ ct4 h1 h2 hw hrange (i := i) (j := j) (by omega) (by omega) (by omega) (by omega) (fun h => absurd ((hce.1 h).2 (by assumption)) (by omega))
                (repeat' first | (refine Edge.fast ?_) | ((conv => whnf); first | exact True.intro | (refine And.intro ?_ ?_) | exact rfl | exact Nat.le_of_eq (Nat.zero_add _) | exact ImpS.refl _ | ((conv => arg 1; whnf); first | exact ImpS.refl _ | (refine ImpS.nil_eq ?_) | (refine ImpS.vnil_eq ?_) | (refine ImpS.row ?_) | (refine ImpS.rowN ?_ ?_) | (refine ImpS.sl_eq ?_) | (refine ImpS.expl rfl ?_)) | (refine row_snoc' ?_) | (apply row_upd) | exact cimp_none | exact cimp_same | exact List.not_mem_nil | exact DImp.refl _) | exact rfl | (refine And.intro ?_ ?_) | exact ImpS.refl _)
                all_goals try first | (simp only [e]; done) | assumption | omega | (simp [e, *]; done) | (simp_all [e]; done)
              · have hcl : CellOk m t i j := hce.2 ⟨fun _ => by omega, fun _ => by omega⟩
                refine ⟨rfl, ⟨j + 1, by omega, by omega, fun k hk hkj => if e : k = j then e ▸ hcl else hj k hk (by omega)⟩, ?_, ?_⟩
                · (conv => whnf)
                  all_goals (repeat' first | (refine Edge.fast ?_) | ((conv => whnf); first | exact True.intro | (refine And.intro ?_ ?_) | exact rfl | exact Nat.le_of_eq (Nat.zero_add _) | exact ImpS.refl _ | ((conv => arg 1; whnf); first | exact ImpS.refl _ | (refine ImpS.nil_eq ?_) | (refine ImpS.vnil_eq ?_) | (refine ImpS.row ?_) | (refine ImpS.rowN ?_ ?_) | (refine ImpS.sl_eq ?_) | (refine ImpS.expl rfl ?_)) | (refine row_snoc' ?_) | (apply row_upd) | exact cimp_none | exact cimp_same | exact List.not_mem_nil | exact DImp.refl _) | exact rfl | (refine And.intro ?_ ?_) | exact ImpS.refl _)
                  all_goals try first | assumption | (simp only []; done) | omega | (simp [*]; done)
                · simp only; omega
              · have hcl : CellOk m t i j := hce.2 ⟨fun _ => by omega, fun _ => by omega⟩
                refine ⟨rfl, ⟨j + 1, by omega, by omega, fun k hk hkj => if e : k = j then e ▸ hcl else hj k hk (by omega)⟩, ?_, ?_⟩
                · (conv => whnf)
                  all_goals (repeat' first | (refine Edge.fast ?_) | ((conv => whnf); first | exact True.intro | (refine And.intro ?_ ?_) | exact rfl | exact Nat.le_of_eq (Nat.zero_add _) | exact ImpS.refl _ | ((conv => arg 1; whnf); first | exact ImpS.refl _ | (refine ImpS.nil_eq ?_) | (refine ImpS.vnil_eq ?_) | (refine ImpS.row ?_) | (refine ImpS.rowN ?_ ?_) | (refine ImpS.sl_eq ?_) | (refine ImpS.expl rfl ?_)) | (refine row_snoc' ?_) | (apply row_upd) | exact cimp_none | exact cimp_same | exact List.not_mem_nil | exact DImp.refl _) | exact rfl | (refine And.intro ?_ ?_) | exact ImpS.refl _)
                  all_goals try first | assumption | (simp only []; done) | omega | (simp [*]; done)
                · simp only; omega
              · refine ⟨rfl, ⟨i + 1, by omega, by omega, fun k hk hki q hq hql => if e : k = i then e ▸ hj q hq (by omega) else hinv k hk (by omega) q hq hql⟩, ?_, ?_⟩
                · (conv => whnf)
                  all_goals (repeat' first | (refine Edge.fast ?_) | ((conv => whnf); first | exact True.intro | (refine And.intro ?_ ?_) | exact rfl | exact Nat.le_of_eq (Nat.zero_add _) | exact ImpS.refl _ | ((conv => arg 1; whnf); first | exact ImpS.refl _ | (refine ImpS.nil_eq ?_) | (refine ImpS.vnil_eq ?_) | (refine ImpS.row ?_) | (refine ImpS.rowN ?_ ?_) | (refine ImpS.sl_eq ?_) | (refine ImpS.expl rfl ?_)) | (refine row_snoc' ?_) | (apply row_upd) | exact cimp_none | exact cimp_same | exact List.not_mem_nil | exact DImp.refl _) | exact rfl | (refine And.intro ?_ ?_) | exact ImpS.refl _)
                  all_goals try first | assumption | (simp only []; done) | omega | (simp [*]; done)
                · simp only; omega
            · conv => whnf
              all_goals (repeat' first | (refine Edge.fast ?_) | ((conv => whnf); first | exact True.intro | (refine And.intro ?_ ?_) | exact rfl | exact Nat.le_of_eq (Nat.zero_add _) | exact ImpS.refl _ | ((conv => arg 1; whnf); first | exact ImpS.refl _ | (refine ImpS.nil_eq ?_) | (refine ImpS.vnil_eq ?_) | (refine ImpS.row ?_) | (refine ImpS.rowN ?_ ?_) | (refine ImpS.sl_eq ?_) | (refine ImpS.expl rfl ?_)) | (refine row_snoc' ?_) | (apply row_upd) | exact cimp_none | exact cimp_same | exact List.not_mem_nil | exact DImp.refl _) | exact rfl | (refine And.intro ?_ ?_) | exact ImpS.refl _)
              all_goals try first | assumption | omega | (simp only [IntKind.bits]; omega) | (simp [*]; done) | (rw [Bool.eq_iff_iff]; simp; omega) | (simp_all []; done) | (simp_all []; omega)
          · have hpr : Proves m t := fun a b ha hb => hinv a (by omega) (by omega) b (by omega) (by omega)
            have e0 : r = (at2 t 0 m.start, 0) := hr.h ▸ ct5 h1 h2 hw hrange hpr
            have e : r = ((t.getD (Int.toNat 0) []).getD m.start.toNat 0, 0) := e0
            (repeat' first | (refine Edge.fast ?_) | ((conv => whnf); first | exact True.intro | (refine And.intro ?_ ?_) | exact rfl | exact Nat.le_of_eq (Nat.zero_add _) | exact ImpS.refl _ | ((conv => arg 1; whnf); first | exact ImpS.refl _ | (refine ImpS.nil_eq ?_) | (refine ImpS.vnil_eq ?_) | (refine ImpS.row ?_) | (refine ImpS.rowN ?_ ?_) | (refine ImpS.sl_eq ?_) | (refine ImpS.expl rfl ?_)) | (refine row_snoc' ?_) | (apply row_upd) | exact cimp_none | exact cimp_same | exact List.not_mem_nil | exact DImp.refl _) | exact rfl | (refine And.intro ?_ ?_) | exact ImpS.refl _)
            all_goals try first | (simp only [e]; done) | assumption | omega | (simp [e, *]; done) | (simp_all [e]; done)
          · have h0 := hlen 0 (by omega) (by omega)
            exact ⟨by omega, by omega⟩
        · conv => whnf
          all_goals (repeat' first | (refine Edge.fast ?_) | ((conv => whnf); first | exact True.intro | (refine And.intro ?_ ?_) | exact rfl | exact Nat.le_of_eq (Nat.zero_add _) | exact ImpS.refl _ | ((conv => arg 1; whnf); first | exact ImpS.refl _ | (refine ImpS.nil_eq ?_) | (refine ImpS.vnil_eq ?_) | (refine ImpS.row ?_) | (refine ImpS.rowN ?_ ?_) | (refine ImpS.sl_eq ?_) | (refine ImpS.expl rfl ?_)) | (refine row_snoc' ?_) | (apply row_upd) | exact cimp_none | exact cimp_same | exact List.not_mem_nil | exact DImp.refl _) | exact rfl | (refine And.intro ?_ ?_) | exact ImpS.refl _)
          all_goals try first | assumption | omega | (simp only [IntKind.bits]; omega) | (simp [*]; done) | (rw [Bool.eq_iff_iff]; simp; omega) | (simp_all []; done) | (simp_all []; omega)
    · conv => whnf
      all_goals (repeat' first | (refine Edge.fast ?_) | ((conv => whnf); first | exact True.intro | (refine And.intro ?_ ?_) | exact rfl | exact Nat.le_of_eq (Nat.zero_add _) | exact ImpS.refl _ | ((conv => arg 1; whnf); first | exact ImpS.refl _ | (refine ImpS.nil_eq ?_) | (refine ImpS.vnil_eq ?_) | (refine ImpS.row ?_) | (refine ImpS.rowN ?_ ?_) | (refine ImpS.sl_eq ?_) | (refine ImpS.expl rfl ?_)) | (refine row_snoc' ?_) | (apply row_upd) | exact cimp_none | exact cimp_same | exact List.not_mem_nil | exact DImp.refl _) | exact rfl | (refine And.intro ?_ ?_) | exact ImpS.refl _)
      all_goals try first | assumption | omega | (simp only [IntKind.bits]; omega) | (simp [*]; done) | (rw [Bool.eq_iff_iff]; simp; omega) | (simp_all []; done) | (simp_all []; omega)
  · conv => whnf
    all_goals (repeat' first | (refine Edge.fast ?_) | ((conv => whnf); first | exact True.intro | (refine And.intro ?_ ?_) | exact rfl | exact Nat.le_of_eq (Nat.zero_add _) | exact ImpS.refl _ | ((conv => arg 1; whnf); first | exact ImpS.refl _ | (refine ImpS.nil_eq ?_) | (refine ImpS.vnil_eq ?_) | (refine ImpS.row ?_) | (refine ImpS.rowN ?_ ?_) | (refine ImpS.sl_eq ?_) | (refine ImpS.expl rfl ?_)) | (refine row_snoc' ?_) | (apply row_upd) | exact cimp_none | exact cimp_same | exact List.not_mem_nil | exact DImp.refl _) | exact rfl | (refine And.intro ?_ ?_) | exact ImpS.refl _)
    all_goals try first | assumption | omega | (simp only [IntKind.bits]; omega) | (simp [*]; done) | (rw [Bool.eq_iff_iff]; simp; omega) | (simp_all []; done) | (simp_all []; omega)
end Go.Px.Try

/-! Ref9 -/
namespace Go.Px.Try
open Go Go.Proofs Go.Px

/-- A warmer room; one that is so up to an hour. -/
def upTo (r : List Int) (w : Int) (i : Nat) : List Int := (List.range r.length).map fun j => if j < i then r.getD j 0 + w else r.getD j 0
def up (r : List Int) (w : Int) : List Int := r.map (· + w)
theorem upTo_length (r : List Int) (w : Int) (i : Nat) : (upTo r w i).length = r.length := by simp [upTo]
theorem upTo_getD (r : List Int) (w : Int) (i j : Nat) (h : j < r.length) : (upTo r w i).getD j 0 = if j < i then r.getD j 0 + w else r.getD j 0 := by
  rw [List.getD_eq_getElem?_getD, upTo, List.getElem?_map, List.getElem?_range h]; rfl
theorem upTo_zero (r : List Int) (w : Int) : upTo r w 0 = r := by
  apply List.ext_getElem?
  intro j
  by_cases h : j < r.length
  · simp only [upTo, List.getElem?_map, List.getElem?_range h, Option.map_some, Nat.not_lt_zero, if_false]
    rw [List.getD_eq_getElem?_getD, List.getElem?_eq_getElem h]; rfl
  · rw [List.getElem?_eq_none (by rw [upTo_length]; omega), List.getElem?_eq_none (by omega)]
theorem upTo_all (r : List Int) (w : Int) : upTo r w r.length = up r w := by
  apply List.ext_getElem?
  intro j
  by_cases h : j < r.length
  · simp only [upTo, up, List.getElem?_map, List.getElem?_range h, Option.map_some, h, if_true]
    rw [List.getD_eq_getElem?_getD, List.getElem?_eq_getElem h]; rfl
  · rw [List.getElem?_eq_none (by rw [upTo_length]; omega), List.getElem?_eq_none (by simp [up]; omega)]

theorem foldl_max_ge (l : List Int) : ∀ (a : Int), a ≤ l.foldl max a ∧ ∀ x ∈ l, x ≤ l.foldl max a := by
  induction l with
  | nil => intro a; simp
  | cons y l ih =>
    intro a
    obtain ⟨h1, h2⟩ := ih (max a y)
    refine ⟨by simp only [List.foldl_cons]; omega, fun x hx => ?_⟩
    simp only [List.foldl_cons]
    rcases List.mem_cons.1 hx with rfl | hx
    · omega
    · exact h2 x hx
theorem foldl_max_le (l : List Int) : ∀ (a b : Int), a ≤ b → (∀ x ∈ l, x ≤ b) → l.foldl max a ≤ b := by
  induction l with
  | nil => intro a b h _; simpa using h
  | cons y l ih =>
    intro a b h hx
    simp only [List.foldl_cons]
    exact ih _ _ (by have := hx y (by simp); omega) fun x hx' => hx x (by simp [hx'])
theorem greatest_le {l : List Int} {b : Int} (hb : 0 ≤ b) : greatest l ≤ b ↔ ∀ x ∈ l, x ≤ b :=
  ⟨fun h x hx => Int.le_trans ((foldl_max_ge l 0).2 x hx) h, fun h => foldl_max_le l 0 b hb h⟩
theorem greatest_nn (l : List Int) : 0 ≤ greatest l := (foldl_max_ge l 0).1

theorem after_ge {m : Mill} {heat rm g : Int} (h : 1 ≤ m.gain) : rm ≤ after m heat rm g := by
  unfold after
  split <;> omega

/-- How much warmer the rooms may be. -/
def warmGo (m : Mill) (plan : List Int) : Nat → Nat → Nat
  | 0, w => w
  | f + 1, w => if is m plan (up (room m) ((w : Int) + 1)) then warmGo m plan f (w + 1) else w
def sparesR (m : Mill) (plan : List Int) : Int × Int × Int :=
  if (checkPlanR m plan).2 ≠ 0 then (0, 0, (checkPlanR m plan).2) else (m.limit - greatest (heatsOf m plan true), warmGo m plan 41 0, 0)

theorem checkPlanR_zero {m : Mill} {plan : List Int} (h : (checkPlanR m plan).2 = 0) : planError m plan = 0 ∧ is m plan (room m) := by
  unfold checkPlanR at h
  split at h
  · rename_i h1; exact absurd h h1
  · rename_i h1
    split at h
    · rename_i h2; exact ⟨Decidable.of_not_not h1, h2⟩
    · cases h

theorem up_head {m : Mill} {plan : List Int} (h : PlanOk m plan) {w : Int} (hi : is m plan (up (room m) w)) : w ≤ 40 := by
  have hn : plan.length = (plan.length - 1) + 1 := by have := h.len; have := h.n1; omega
  unfold is at hi
  obtain ⟨⟨hl0, hl1⟩, _, ⟨hg, _⟩, _⟩ := h.head
  rw [greatest_le hl0, hn] at hi
  have h1 := hi (after m m.start ((up (room m) w).getD 0 0) (plan.getD 0 0)) (by simp [heatsGo])
  have h2 := after_ge (m := m) (heat := m.start) (rm := (up (room m) w).getD 0 0) (g := plan.getD 0 0) hg
  have h3 : (up (room m) w).getD 0 0 = (m.hours.getD 0 default).hi + w := by
    have hh : 0 < m.hours.length := h.n1
    unfold up room roomOf
    rw [List.getD_eq_getElem?_getD, List.getElem?_map, List.getElem?_map, List.getElem?_eq_getElem hh, List.getD_eq_getElem?_getD, List.getElem?_eq_getElem hh]
    rfl
  have h4 := h.hours _ (getD_mem h.n1 default)
  have h5 := h4.2.1.1
  omega

theorem Is3 (m : Mill) (plan : List Int) (h : PlanOk m plan) (w : Int) (hw : 0 ≤ w ∧ w ≤ 100) (i : Int) (hi : (room m).length ≤ i) (hi2 : i ≤ (room m).length) : Fn Try.prog 41 [millD m, ints plan, ints (upTo (room m) w i.toNat)] (bool (decide (is m plan (up (room m) w)))) := by
  rw [show i.toNat = (room m).length by omega, upTo_all]
  refine Is_spec m plan (up (room m) w) h.sm h.st ?_ (by simp [up, room, room_len, h.len]) h.l1
  intro x hx
  obtain ⟨y, hy, rfl⟩ := List.mem_map.1 hx
  obtain ⟨z, hz, rfl⟩ := List.mem_map.1 hy
  obtain ⟨⟨_, _⟩, ⟨_, _⟩, _, _⟩ := h.hours z hz
  constructor <;> simp only [if_true] <;> omega

theorem room_bound {m : Mill} (h : ∀ x ∈ m.hours, HourOk x) (j : Nat) : 0 ≤ (room m).getD j 0 ∧ (room m).getD j 0 ≤ 40 := by
  by_cases hj : j < (room m).length
  · have := getD_mem hj 0
    obtain ⟨y, hy, e⟩ := List.mem_map.1 this
    rw [← e]
    obtain ⟨⟨_, _⟩, ⟨_, _⟩, _, _⟩ := h y hy
    simp only [if_true]; omega
  · rw [List.getD_eq_getElem?_getD, List.getElem?_eq_none (by omega)]; simp

theorem heatsOf_room (m : Mill) (plan : List Int) : heatsOf m plan true = heatsGo m plan (room m) plan.length 0 m.start := rfl

set_option maxHeartbeats 16000000 in
theorem Spares_spec (m : Mill) (plan : List Int) (hl : m.hours.length < 1000000) (hp : plan.length < 1000000) : Fn Try.prog 36 [millD m, ints plan] (tpl [int (sparesR m plan).1, int (sparesR m plan).2.1, int (sparesR m plan).2.2]) := by
  refine Fn.hide (D := fun r : Int × Int × Int => tpl [int r.1, int r.2.1, int r.2.2]) fun r hr => ?_
  by_cases h1 : (checkPlanR m plan).2 = 0
  case neg =>
    have e : r = (0, 0, (checkPlanR m plan).2) := hr.h ▸ if_pos h1
    refine Fn.of_ex (cuts := []) tys hM Try.func36 rfl Try.call36 rfl ?_
    show exC Try.prog T [] _ false none 0 (entry 61 [millD m, ints plan]) (finQ T [ResultVar.tmp 4, ResultVar.tmp 5, ResultVar.tmp 6] _)
    conv => whnf
    repeat' first
      | (refine Ob.tt True.intro ?_; conv => whnf)
      | (refine Ob.tt rfl ?_; conv => whnf)
      | (refine Ob.tt (And.intro True.intro (And.intro True.intro True.intro)) ?_; conv => whnf)
      | (refine Ob.tt (And.intro True.intro (And.intro True.intro (And.intro True.intro True.intro))) ?_; conv => whnf)
      | (refine Ob.tt (And.intro True.intro True.intro) ?_; conv => whnf)
      | (refine Ob.tt (Nat.le_of_ble_eq_true rfl) ?_; conv => whnf)
      | (refine Ob.inR (fun _ => ?_) ?_; rotate_left; (try first | assumption | omega | exact ImpS.refl _ | (simp only [inR]; omega) | (simp only [IntKind.bits]; omega) | (refine ⟨?_, ?_⟩ <;> omega)); rotate_right); (conv => whnf)
      | (apply Cl.go; (conv => whnf); (refine Ob.fn ?_ ?_ ?_ (CheckPlan_spec m plan hl hp); rotate_left; (focus ((repeat' first | (refine Edge.fast ?_) | ((conv => whnf); first | exact True.intro | (refine And.intro ?_ ?_) | exact rfl | exact Nat.le_of_eq (Nat.zero_add _) | exact ImpS.refl _ | ((conv => arg 1; whnf); first | exact ImpS.refl _ | (refine ImpS.nil_eq ?_) | (refine ImpS.vnil_eq ?_) | (refine ImpS.row ?_) | (refine ImpS.rowN ?_ ?_) | (refine ImpS.sl_eq ?_) | (refine ImpS.expl rfl ?_)) | (refine row_snoc' ?_) | (apply row_upd) | exact cimp_none | exact cimp_same | exact List.not_mem_nil | exact DImp.refl _) | exact rfl | (refine And.intro ?_ ?_) | exact ImpS.refl _); done)); (focus ((repeat' first | (refine Edge.fast ?_) | ((conv => whnf); first | exact True.intro | (refine And.intro ?_ ?_) | exact rfl | exact Nat.le_of_eq (Nat.zero_add _) | exact ImpS.refl _ | ((conv => arg 1; whnf); first | exact ImpS.refl _ | (refine ImpS.nil_eq ?_) | (refine ImpS.vnil_eq ?_) | (refine ImpS.row ?_) | (refine ImpS.rowN ?_ ?_) | (refine ImpS.sl_eq ?_) | (refine ImpS.expl rfl ?_)) | (refine row_snoc' ?_) | (apply row_upd) | exact cimp_none | exact cimp_same | exact List.not_mem_nil | exact DImp.refl _) | exact rfl | (refine And.intro ?_ ?_) | exact ImpS.refl _); done)); rotate_right); (conv => whnf))
      | (refine Ob.go (fun _ => ?_) (And.intro True.intro (And.intro ?_ List.not_mem_nil)); rotate_left; (try first | assumption | omega | exact ImpS.refl _ | (simp only [inR]; omega) | (simp only [IntKind.bits]; omega) | (refine ⟨?_, ?_⟩ <;> omega)); rotate_right); (conv => whnf)
      | (refine Ob.and (fun _ => ?_) ?_; rotate_left; (try first | assumption | omega | exact ImpS.refl _ | (simp only [inR]; omega) | (simp only [IntKind.bits]; omega) | (refine ⟨?_, ?_⟩ <;> omega)); rotate_right); (conv => whnf)
      | (refine Ob.ltN (fun _ => ?_) ?_; rotate_left; (try first | assumption | omega | exact ImpS.refl _ | (simp only [inR]; omega) | (simp only [IntKind.bits]; omega) | (refine ⟨?_, ?_⟩ <;> omega)); rotate_right); (conv => whnf)
      | (refine Ob.leN (fun _ => ?_) ?_; rotate_left; (try first | assumption | omega | exact ImpS.refl _ | (simp only [inR]; omega) | (simp only [IntKind.bits]; omega) | (refine ⟨?_, ?_⟩ <;> omega)); rotate_right); (conv => whnf)
      | (refine Sp.tt ?_; conv => whnf)
      | (refine Sp.ff ?_; conv => whnf)
      | (refine Sp.dec (fun hc => ?_) (fun hc => ?_) <;> (conv => whnf))
      | (refine Sp.ndec (fun hc => ?_) (fun hc => ?_) <;> (conv => whnf))
      | (refine Sp.mk (fun hc => ?_) (fun hc => ?_) <;> (conv => whnf))
      | (refine Fi.mk ?_ ?_; (focus ((repeat' first | (refine Edge.fast ?_) | ((conv => whnf); first | exact True.intro | (refine And.intro ?_ ?_) | exact rfl | exact Nat.le_of_eq (Nat.zero_add _) | exact ImpS.refl _ | ((conv => arg 1; whnf); first | exact ImpS.refl _ | (refine ImpS.nil_eq ?_) | (refine ImpS.vnil_eq ?_) | (refine ImpS.row ?_) | (refine ImpS.rowN ?_ ?_) | (refine ImpS.sl_eq ?_) | (refine ImpS.expl rfl ?_)) | (refine row_snoc' ?_) | (apply row_upd) | exact cimp_none | exact cimp_same | exact List.not_mem_nil | exact DImp.refl _) | exact rfl | (refine And.intro ?_ ?_) | exact ImpS.refl _); done)); (conv => whnf))
    all_goals first | contradiction | skip
    (repeat' first | (refine Edge.fast ?_) | ((conv => whnf); first | exact True.intro | (refine And.intro ?_ ?_) | exact rfl | exact Nat.le_of_eq (Nat.zero_add _) | exact ImpS.refl _ | ((conv => arg 1; whnf); first | exact ImpS.refl _ | (refine ImpS.nil_eq ?_) | (refine ImpS.vnil_eq ?_) | (refine ImpS.row ?_) | (refine ImpS.rowN ?_ ?_) | (refine ImpS.sl_eq ?_) | (refine ImpS.expl rfl ?_)) | (refine row_snoc' ?_) | (apply row_upd) | exact cimp_none | exact cimp_same | exact List.not_mem_nil | exact DImp.refl _) | exact rfl | (refine And.intro ?_ ?_) | exact ImpS.refl _)
    all_goals try first | (simp only [e]; done) | assumption | omega | (simp [e, *]; done) | (simp_all [e]; done)
  obtain ⟨h2, h3⟩ := checkPlanR_zero h1
  have hok := planOk h2
  have hrb := room_bound hok.hours
  have hrl : (room m).length = plan.length := by rw [room, room_len, hok.len]
  have hlen := hok.len
  have hn12 := hok.n12
  obtain ⟨⟨_, _⟩, _⟩ := hok.head
  have hgl : 0 ≤ greatest (heatsOf m plan true) := greatest_nn _
  have hgu : greatest (heatsOf m plan true) ≤ m.limit := h3
  have he : r = (m.limit - greatest (heatsOf m plan true), (warmGo m plan 41 0 : Int), 0) := hr.h ▸ if_neg (by rw [h1]; simp)
  have hgh := Greatest_spec (heatsOf m plan true) (by rw [heatsOf_room, heatsGo_length]; omega)
  have hho := HeatsOf' m plan h2 true
  generalize heatsOf m plan true = hs at *
  refine Fn.of_ex (cuts := []) tys hM Try.func36 rfl Try.call36 rfl ?_
  show exC Try.prog T [] _ false none 0 (entry 61 [millD m, ints plan]) (finQ T [ResultVar.tmp 4, ResultVar.tmp 5, ResultVar.tmp 6] _)
  conv => whnf
  repeat' first
    | (refine Ob.tt True.intro ?_; conv => whnf)
    | (refine Ob.tt rfl ?_; conv => whnf)
    | (refine Ob.tt (And.intro True.intro (And.intro True.intro True.intro)) ?_; conv => whnf)
    | (refine Ob.tt (And.intro True.intro (And.intro True.intro (And.intro True.intro True.intro))) ?_; conv => whnf)
    | (refine Ob.tt (And.intro True.intro True.intro) ?_; conv => whnf)
    | (refine Ob.tt (Nat.le_of_ble_eq_true rfl) ?_; conv => whnf)
    | (refine Ob.inR (fun _ => ?_) ?_; rotate_left; (try first | assumption | omega | exact ImpS.refl _ | (simp only [inR]; omega) | (simp only [IntKind.bits]; omega) | (refine ⟨?_, ?_⟩ <;> omega)); rotate_right); (conv => whnf)
    | (apply Cl.go; (conv => whnf); (refine Ob.fn ?_ ?_ ?_ (CheckPlan_spec m plan hl hp); rotate_left; (focus ((repeat' first | (refine Edge.fast ?_) | ((conv => whnf); first | exact True.intro | (refine And.intro ?_ ?_) | exact rfl | exact Nat.le_of_eq (Nat.zero_add _) | exact ImpS.refl _ | ((conv => arg 1; whnf); first | exact ImpS.refl _ | (refine ImpS.nil_eq ?_) | (refine ImpS.vnil_eq ?_) | (refine ImpS.row ?_) | (refine ImpS.rowN ?_ ?_) | (refine ImpS.sl_eq ?_) | (refine ImpS.expl rfl ?_)) | (refine row_snoc' ?_) | (apply row_upd) | exact cimp_none | exact cimp_same | exact List.not_mem_nil | exact DImp.refl _) | exact rfl | (refine And.intro ?_ ?_) | exact ImpS.refl _); done)); (focus ((repeat' first | (refine Edge.fast ?_) | ((conv => whnf); first | exact True.intro | (refine And.intro ?_ ?_) | exact rfl | exact Nat.le_of_eq (Nat.zero_add _) | exact ImpS.refl _ | ((conv => arg 1; whnf); first | exact ImpS.refl _ | (refine ImpS.nil_eq ?_) | (refine ImpS.vnil_eq ?_) | (refine ImpS.row ?_) | (refine ImpS.rowN ?_ ?_) | (refine ImpS.sl_eq ?_) | (refine ImpS.expl rfl ?_)) | (refine row_snoc' ?_) | (apply row_upd) | exact cimp_none | exact cimp_same | exact List.not_mem_nil | exact DImp.refl _) | exact rfl | (refine And.intro ?_ ?_) | exact ImpS.refl _); done)); rotate_right); (conv => whnf))
    | (apply Cl.go; (conv => whnf); (refine Ob.fn ?_ ?_ ?_ (Room' m plan h2 true); rotate_left; (focus ((repeat' first | (refine Edge.fast ?_) | ((conv => whnf); first | exact True.intro | (refine And.intro ?_ ?_) | exact rfl | exact Nat.le_of_eq (Nat.zero_add _) | exact ImpS.refl _ | ((conv => arg 1; whnf); first | exact ImpS.refl _ | (refine ImpS.nil_eq ?_) | (refine ImpS.vnil_eq ?_) | (refine ImpS.row ?_) | (refine ImpS.rowN ?_ ?_) | (refine ImpS.sl_eq ?_) | (refine ImpS.expl rfl ?_)) | (refine row_snoc' ?_) | (apply row_upd) | exact cimp_none | exact cimp_same | exact List.not_mem_nil | exact DImp.refl _) | exact rfl | (refine And.intro ?_ ?_) | exact ImpS.refl _); done)); (focus ((repeat' first | (refine Edge.fast ?_) | ((conv => whnf); first | exact True.intro | (refine And.intro ?_ ?_) | exact rfl | exact Nat.le_of_eq (Nat.zero_add _) | exact ImpS.refl _ | ((conv => arg 1; whnf); first | exact ImpS.refl _ | (refine ImpS.nil_eq ?_) | (refine ImpS.vnil_eq ?_) | (refine ImpS.row ?_) | (refine ImpS.rowN ?_ ?_) | (refine ImpS.sl_eq ?_) | (refine ImpS.expl rfl ?_)) | (refine row_snoc' ?_) | (apply row_upd) | exact cimp_none | exact cimp_same | exact List.not_mem_nil | exact DImp.refl _) | exact rfl | (refine And.intro ?_ ?_) | exact ImpS.refl _); done)); rotate_right); (conv => whnf))
    | (apply Cl.go; (conv => whnf); (refine Ob.fn ?_ ?_ ?_ (hho); rotate_left; (focus ((repeat' first | (refine Edge.fast ?_) | ((conv => whnf); first | exact True.intro | (refine And.intro ?_ ?_) | exact rfl | exact Nat.le_of_eq (Nat.zero_add _) | exact ImpS.refl _ | ((conv => arg 1; whnf); first | exact ImpS.refl _ | (refine ImpS.nil_eq ?_) | (refine ImpS.vnil_eq ?_) | (refine ImpS.row ?_) | (refine ImpS.rowN ?_ ?_) | (refine ImpS.sl_eq ?_) | (refine ImpS.expl rfl ?_)) | (refine row_snoc' ?_) | (apply row_upd) | exact cimp_none | exact cimp_same | exact List.not_mem_nil | exact DImp.refl _) | exact rfl | (refine And.intro ?_ ?_) | exact ImpS.refl _); done)); (focus ((repeat' first | (refine Edge.fast ?_) | ((conv => whnf); first | exact True.intro | (refine And.intro ?_ ?_) | exact rfl | exact Nat.le_of_eq (Nat.zero_add _) | exact ImpS.refl _ | ((conv => arg 1; whnf); first | exact ImpS.refl _ | (refine ImpS.nil_eq ?_) | (refine ImpS.vnil_eq ?_) | (refine ImpS.row ?_) | (refine ImpS.rowN ?_ ?_) | (refine ImpS.sl_eq ?_) | (refine ImpS.expl rfl ?_)) | (refine row_snoc' ?_) | (apply row_upd) | exact cimp_none | exact cimp_same | exact List.not_mem_nil | exact DImp.refl _) | exact rfl | (refine And.intro ?_ ?_) | exact ImpS.refl _); done)); rotate_right); (conv => whnf))
    | (apply Cl.go; (conv => whnf); (refine Ob.fn ?_ ?_ ?_ (hgh); rotate_left; (focus ((repeat' first | (refine Edge.fast ?_) | ((conv => whnf); first | exact True.intro | (refine And.intro ?_ ?_) | exact rfl | exact Nat.le_of_eq (Nat.zero_add _) | exact ImpS.refl _ | ((conv => arg 1; whnf); first | exact ImpS.refl _ | (refine ImpS.nil_eq ?_) | (refine ImpS.vnil_eq ?_) | (refine ImpS.row ?_) | (refine ImpS.rowN ?_ ?_) | (refine ImpS.sl_eq ?_) | (refine ImpS.expl rfl ?_)) | (refine row_snoc' ?_) | (apply row_upd) | exact cimp_none | exact cimp_same | exact List.not_mem_nil | exact DImp.refl _) | exact rfl | (refine And.intro ?_ ?_) | exact ImpS.refl _); done)); (focus ((repeat' first | (refine Edge.fast ?_) | ((conv => whnf); first | exact True.intro | (refine And.intro ?_ ?_) | exact rfl | exact Nat.le_of_eq (Nat.zero_add _) | exact ImpS.refl _ | ((conv => arg 1; whnf); first | exact ImpS.refl _ | (refine ImpS.nil_eq ?_) | (refine ImpS.vnil_eq ?_) | (refine ImpS.row ?_) | (refine ImpS.rowN ?_ ?_) | (refine ImpS.sl_eq ?_) | (refine ImpS.expl rfl ?_)) | (refine row_snoc' ?_) | (apply row_upd) | exact cimp_none | exact cimp_same | exact List.not_mem_nil | exact DImp.refl _) | exact rfl | (refine And.intro ?_ ?_) | exact ImpS.refl _); done)); rotate_right); (conv => whnf))
    | (refine Ob.go (fun _ => ?_) (And.intro True.intro (And.intro ?_ List.not_mem_nil)); rotate_left; (try first | assumption | omega | exact ImpS.refl _ | (simp only [inR]; omega) | (simp only [IntKind.bits]; omega) | (refine ⟨?_, ?_⟩ <;> omega)); rotate_right); (conv => whnf)
    | (refine Ob.and (fun _ => ?_) ?_; rotate_left; (try first | assumption | omega | exact ImpS.refl _ | (simp only [inR]; omega) | (simp only [IntKind.bits]; omega) | (refine ⟨?_, ?_⟩ <;> omega)); rotate_right); (conv => whnf)
    | (refine Ob.ltN (fun _ => ?_) ?_; rotate_left; (try first | assumption | omega | exact ImpS.refl _ | (simp only [inR]; omega) | (simp only [IntKind.bits]; omega) | (refine ⟨?_, ?_⟩ <;> omega)); rotate_right); (conv => whnf)
    | (refine Ob.leN (fun _ => ?_) ?_; rotate_left; (try first | assumption | omega | exact ImpS.refl _ | (simp only [inR]; omega) | (simp only [IntKind.bits]; omega) | (refine ⟨?_, ?_⟩ <;> omega)); rotate_right); (conv => whnf)
    | (refine Sp.tt ?_; conv => whnf)
    | (refine Sp.ff ?_; conv => whnf)
    | (refine Sp.dec (fun hc => ?_) (fun hc => ?_) <;> (conv => whnf))
    | (refine Sp.ndec (fun hc => ?_) (fun hc => ?_) <;> (conv => whnf))
    | (refine Sp.mk (fun hc => ?_) (fun hc => ?_) <;> (conv => whnf))
    | (refine Fi.mk ?_ ?_; (focus ((repeat' first | (refine Edge.fast ?_) | ((conv => whnf); first | exact True.intro | (refine And.intro ?_ ?_) | exact rfl | exact Nat.le_of_eq (Nat.zero_add _) | exact ImpS.refl _ | ((conv => arg 1; whnf); first | exact ImpS.refl _ | (refine ImpS.nil_eq ?_) | (refine ImpS.vnil_eq ?_) | (refine ImpS.row ?_) | (refine ImpS.rowN ?_ ?_) | (refine ImpS.sl_eq ?_) | (refine ImpS.expl rfl ?_)) | (refine row_snoc' ?_) | (apply row_upd) | exact cimp_none | exact cimp_same | exact List.not_mem_nil | exact DImp.refl _) | exact rfl | (refine And.intro ?_ ?_) | exact ImpS.refl _); done)); (conv => whnf))
  · contradiction
  refine Lp.go 61 {w : Nat // w ≤ 40 ∧ warmGo m plan (41 - w) w = warmGo m plan 41 0}
    (fun ⟨w, _⟩ => ⟨1, [(1, .d (ints plan)), (2, .ref 0 0), (9, .d (ints (room m))), (10, .d (int (m.limit - greatest hs))), (11, .d (int w))], [(0, .cs true 5 fun j => .d ((millL m).getD j .top))], some 0⟩)
    (fun p => 40 - p.1) ⟨0, by omega, rfl⟩ ?_ ?_ rfl (fun _ => rfl)
  · rintro ⟨w, hw, hinv⟩
    have hstep : is m plan (up (room m) ((w : Int) + 1)) → warmGo m plan (41 - (w + 1)) (w + 1) = warmGo m plan 41 0 := by
      intro h
      rw [← hinv, show 41 - w = (41 - (w + 1)) + 1 by omega, warmGo, if_pos h]
    have hlast : ¬ is m plan (up (room m) ((w : Int) + 1)) → r = (m.limit - greatest hs, (w : Int), 0) := by
      intro h
      rw [he, ← hinv, show 41 - w = (40 - w) + 1 by omega, warmGo, if_neg h]
    have hup : is m plan (up (room m) ((w : Int) + 1)) → w + 1 ≤ 40 := fun h => by have := up_head hok h; omega
    conv => whnf
    repeat' first
      | (refine Ob.tt True.intro ?_; conv => whnf)
      | (refine Ob.tt rfl ?_; conv => whnf)
      | (refine Ob.tt (And.intro True.intro (And.intro True.intro True.intro)) ?_; conv => whnf)
      | (refine Ob.tt (And.intro True.intro (And.intro True.intro (And.intro True.intro True.intro))) ?_; conv => whnf)
      | (refine Ob.tt (And.intro True.intro True.intro) ?_; conv => whnf)
      | (refine Ob.tt (Nat.le_of_ble_eq_true rfl) ?_; conv => whnf)
      | (refine Ob.inR (fun _ => ?_) ?_; rotate_left; (try first | assumption | omega | exact ImpS.refl _ | (simp only [inR]; omega) | (simp only [IntKind.bits]; omega) | (refine ⟨?_, ?_⟩ <;> omega)); rotate_right); (conv => whnf)
      | (refine Ob.go (fun _ => ?_) (And.intro True.intro (And.intro ?_ List.not_mem_nil)); rotate_left; (try first | assumption | omega | exact ImpS.refl _ | (simp only [inR]; omega) | (simp only [IntKind.bits]; omega) | (refine ⟨?_, ?_⟩ <;> omega)); rotate_right); (conv => whnf)
      | (refine Ob.and (fun _ => ?_) ?_; rotate_left; (try first | assumption | omega | exact ImpS.refl _ | (simp only [inR]; omega) | (simp only [IntKind.bits]; omega) | (refine ⟨?_, ?_⟩ <;> omega)); rotate_right); (conv => whnf)
      | (refine Ob.ltN (fun _ => ?_) ?_; rotate_left; (try first | assumption | omega | exact ImpS.refl _ | (simp only [inR]; omega) | (simp only [IntKind.bits]; omega) | (refine ⟨?_, ?_⟩ <;> omega)); rotate_right); (conv => whnf)
      | (refine Ob.leN (fun _ => ?_) ?_; rotate_left; (try first | assumption | omega | exact ImpS.refl _ | (simp only [inR]; omega) | (simp only [IntKind.bits]; omega) | (refine ⟨?_, ?_⟩ <;> omega)); rotate_right); (conv => whnf)
      | (refine Sp.tt ?_; conv => whnf)
      | (refine Sp.ff ?_; conv => whnf)
      | (refine Sp.dec (fun hc => ?_) (fun hc => ?_) <;> (conv => whnf))
      | (refine Sp.ndec (fun hc => ?_) (fun hc => ?_) <;> (conv => whnf))
      | (refine Sp.mk (fun hc => ?_) (fun hc => ?_) <;> (conv => whnf))
      | (refine Fi.mk ?_ ?_; (focus ((repeat' first | (refine Edge.fast ?_) | ((conv => whnf); first | exact True.intro | (refine And.intro ?_ ?_) | exact rfl | exact Nat.le_of_eq (Nat.zero_add _) | exact ImpS.refl _ | ((conv => arg 1; whnf); first | exact ImpS.refl _ | (refine ImpS.nil_eq ?_) | (refine ImpS.vnil_eq ?_) | (refine ImpS.row ?_) | (refine ImpS.rowN ?_ ?_) | (refine ImpS.sl_eq ?_) | (refine ImpS.expl rfl ?_)) | (refine row_snoc' ?_) | (apply row_upd) | exact cimp_none | exact cimp_same | exact List.not_mem_nil | exact DImp.refl _) | exact rfl | (refine And.intro ?_ ?_) | exact ImpS.refl _); done)); (conv => whnf))
    rotate_left
    · exact ⟨fun _ _ => rfl, rfl, by omega⟩
    refine Lp.go 61 {i : Int // 0 ≤ i ∧ i ≤ (room m).length}
      (fun ⟨i, _⟩ => ⟨2, [(1, .d (ints plan)), (2, .ref 0 0), (9, .d (ints (room m))), (10, .d (int (m.limit - greatest hs))), (11, .d (int w)), (12, .ms 1 1 0 (upTo (room m) ((w : Int) + 1) i.toNat).length), (13, .d (int i))],
        [(0, .cs true 5 fun j => .d ((millL m).getD j .top)), (1, .row true 2 1 (upTo (room m) ((w : Int) + 1) i.toNat).length (rowOf int 0 (upTo (room m) ((w : Int) + 1) i.toNat)))], some 0⟩)
      (fun p => ((room m).length - p.1).toNat) ⟨0, by omega, by omega⟩ ?_ ?_ rfl (fun _ => rfl)
    · rintro ⟨i, hi0, hi⟩
      have hv : i < (room m).length → (upTo (room m) ((w : Int) + 1) i.toNat).getD (0 + i.toNat) 0 = (room m).getD i.toNat 0 := by
        intro h
        rw [Nat.zero_add, upTo_getD _ _ _ _ (by omega), if_neg (by omega)]
      have hb := hrb i.toNat
      have hul := upTo_length (room m) ((w : Int) + 1) i.toNat
      have hul' := upTo_length (room m) ((w : Int) + 1) (i + 1).toNat
      have hbig : i < (room m).length → Sm 1000 ((upTo (room m) ((w : Int) + 1) i.toNat).getD (0 + i.toNat) 0) := by
        intro h
        rw [hv h]
        constructor <;> omega
      have hnew : i < (room m).length → ∀ j, j < (upTo (room m) ((w : Int) + 1) (i + 1).toNat).length → (upTo (room m) ((w : Int) + 1) (i + 1).toNat).getD j 0 = if j = 0 + i.toNat then (upTo (room m) ((w : Int) + 1) i.toNat).getD (0 + i.toNat) 0 + ((w : Int) + 1) else (upTo (room m) ((w : Int) + 1) i.toNat).getD j 0 := by
        intro h j hj
        rw [hul'] at hj
        rw [hv h, upTo_getD _ _ _ _ hj, upTo_getD _ _ _ _ hj]
        by_cases e : j = i.toNat
        · subst e
          rw [if_pos (by omega), if_pos (by omega)]
        · by_cases e2 : j < i.toNat
          · rw [if_pos (by omega), if_neg (by omega), if_pos e2]
          · rw [if_neg (by omega), if_neg (by omega), if_neg e2]
      conv => whnf
      repeat' first
        | (refine Ob.tt True.intro ?_; conv => whnf)
        | (refine Ob.tt rfl ?_; conv => whnf)
        | (refine Ob.tt (And.intro True.intro (And.intro True.intro True.intro)) ?_; conv => whnf)
        | (refine Ob.tt (And.intro True.intro (And.intro True.intro (And.intro True.intro True.intro))) ?_; conv => whnf)
        | (refine Ob.tt (And.intro True.intro True.intro) ?_; conv => whnf)
        | (refine Ob.tt (Nat.le_of_ble_eq_true rfl) ?_; conv => whnf)
        | (refine Ob.inR (fun _ => ?_) ?_; rotate_left; (try first | assumption | omega | exact ImpS.refl _ | (simp only [inR]; omega) | (simp only [IntKind.bits]; omega) | (refine ⟨?_, ?_⟩ <;> omega)); rotate_right); (conv => whnf)
        | (apply Cl.go; (conv => whnf); (refine Ob.fn ?_ ?_ ?_ (Is3 m plan hok ((w : Int) + 1) ⟨by omega, by omega⟩ i ?_ hi); rotate_left; (focus ((repeat' first | (refine Edge.fast ?_) | ((conv => whnf); first | exact True.intro | (refine And.intro ?_ ?_) | exact rfl | exact Nat.le_of_eq (Nat.zero_add _) | exact ImpS.refl _ | ((conv => arg 1; whnf); first | exact ImpS.refl _ | (refine ImpS.nil_eq ?_) | (refine ImpS.vnil_eq ?_) | (refine ImpS.row ?_) | (refine ImpS.rowN ?_ ?_) | (refine ImpS.sl_eq ?_) | (refine ImpS.expl rfl ?_)) | (refine row_snoc' ?_) | (apply row_upd) | exact cimp_none | exact cimp_same | exact List.not_mem_nil | exact DImp.refl _) | exact rfl | (refine And.intro ?_ ?_) | exact ImpS.refl _); done)); (focus ((repeat' first | (refine Edge.fast ?_) | ((conv => whnf); first | exact True.intro | (refine And.intro ?_ ?_) | exact rfl | exact Nat.le_of_eq (Nat.zero_add _) | exact ImpS.refl _ | ((conv => arg 1; whnf); first | exact ImpS.refl _ | (refine ImpS.nil_eq ?_) | (refine ImpS.vnil_eq ?_) | (refine ImpS.row ?_) | (refine ImpS.rowN ?_ ?_) | (refine ImpS.sl_eq ?_) | (refine ImpS.expl rfl ?_)) | (refine row_snoc' ?_) | (apply row_upd) | exact cimp_none | exact cimp_same | exact List.not_mem_nil | exact DImp.refl _) | exact rfl | (refine And.intro ?_ ?_) | exact ImpS.refl _); done)); rotate_right); (conv => whnf))
        | (refine Ob.go (fun _ => ?_) (And.intro True.intro (And.intro ?_ List.not_mem_nil)); rotate_left; (try first | assumption | omega | exact ImpS.refl _ | (simp only [inR]; omega) | (simp only [IntKind.bits]; omega) | (refine ⟨?_, ?_⟩ <;> omega)); rotate_right); (conv => whnf)
        | (refine Ob.and (fun _ => ?_) ?_; rotate_left; (try first | assumption | omega | exact ImpS.refl _ | (simp only [inR]; omega) | (simp only [IntKind.bits]; omega) | (refine ⟨?_, ?_⟩ <;> omega)); rotate_right); (conv => whnf)
        | (refine Ob.ltN (fun _ => ?_) ?_; rotate_left; (try first | assumption | omega | exact ImpS.refl _ | (simp only [inR]; omega) | (simp only [IntKind.bits]; omega) | (refine ⟨?_, ?_⟩ <;> omega)); rotate_right); (conv => whnf)
        | (refine Ob.leN (fun _ => ?_) ?_; rotate_left; (try first | assumption | omega | exact ImpS.refl _ | (simp only [inR]; omega) | (simp only [IntKind.bits]; omega) | (refine ⟨?_, ?_⟩ <;> omega)); rotate_right); (conv => whnf)
        | (refine Sp.tt ?_; conv => whnf)
        | (refine Sp.ff ?_; conv => whnf)
        | (refine Sp.dec (fun hc => ?_) (fun hc => ?_) <;> (conv => whnf))
        | (refine Sp.ndec (fun hc => ?_) (fun hc => ?_) <;> (conv => whnf))
        | (refine Sp.mk (fun hc => ?_) (fun hc => ?_) <;> (conv => whnf))
        | (refine Fi.mk ?_ ?_; (focus ((repeat' first | (refine Edge.fast ?_) | ((conv => whnf); first | exact True.intro | (refine And.intro ?_ ?_) | exact rfl | exact Nat.le_of_eq (Nat.zero_add _) | exact ImpS.refl _ | ((conv => arg 1; whnf); first | exact ImpS.refl _ | (refine ImpS.nil_eq ?_) | (refine ImpS.vnil_eq ?_) | (refine ImpS.row ?_) | (refine ImpS.rowN ?_ ?_) | (refine ImpS.sl_eq ?_) | (refine ImpS.expl rfl ?_)) | (refine row_snoc' ?_) | (apply row_upd) | exact cimp_none | exact cimp_same | exact List.not_mem_nil | exact DImp.refl _) | exact rfl | (refine And.intro ?_ ?_) | exact ImpS.refl _); done)); (conv => whnf))
      · have hn := hnew (by omega)
        refine ⟨rfl, ⟨i + 1, by omega, by omega⟩, ?_, ?_⟩
        · (conv => whnf)
          all_goals (repeat' first | (refine Edge.fast ?_) | ((conv => whnf); first | exact True.intro | (refine And.intro ?_ ?_) | exact rfl | exact Nat.le_of_eq (Nat.zero_add _) | exact ImpS.refl _ | ((conv => arg 1; whnf); first | exact ImpS.refl _ | (refine ImpS.nil_eq ?_) | (refine ImpS.vnil_eq ?_) | (refine ImpS.row ?_) | (refine ImpS.rowN ?_ ?_) | (refine ImpS.sl_eq ?_) | (refine ImpS.expl rfl ?_)) | (refine row_snoc' ?_) | (apply row_upd) | exact cimp_none | exact cimp_same | exact List.not_mem_nil | exact DImp.refl _) | exact rfl | (refine And.intro ?_ ?_) | exact ImpS.refl _)
          all_goals try first | assumption | (simp only []; done) | omega | (simp [*]; done)
        · simp only; omega
      · have e := hlast hc
        (repeat' first | (refine Edge.fast ?_) | ((conv => whnf); first | exact True.intro | (refine And.intro ?_ ?_) | exact rfl | exact Nat.le_of_eq (Nat.zero_add _) | exact ImpS.refl _ | ((conv => arg 1; whnf); first | exact ImpS.refl _ | (refine ImpS.nil_eq ?_) | (refine ImpS.vnil_eq ?_) | (refine ImpS.row ?_) | (refine ImpS.rowN ?_ ?_) | (refine ImpS.sl_eq ?_) | (refine ImpS.expl rfl ?_)) | (refine row_snoc' ?_) | (apply row_upd) | exact cimp_none | exact cimp_same | exact List.not_mem_nil | exact DImp.refl _) | exact rfl | (refine And.intro ?_ ?_) | exact ImpS.refl _)
        all_goals try first | (simp only [e]; done) | assumption | omega | (simp [e, *]; done) | (simp_all [e]; done)
      · have e := hstep hc
        have hw1 := hup hc
        refine ⟨rfl, ⟨w + 1, hw1, e⟩, ?_, ?_⟩
        · (conv => whnf)
          all_goals (repeat' first | (refine Edge.fast ?_) | ((conv => whnf); first | exact True.intro | (refine And.intro ?_ ?_) | exact rfl | exact Nat.le_of_eq (Nat.zero_add _) | exact ImpS.refl _ | ((conv => arg 1; whnf); first | exact ImpS.refl _ | (refine ImpS.nil_eq ?_) | (refine ImpS.vnil_eq ?_) | (refine ImpS.row ?_) | (refine ImpS.rowN ?_ ?_) | (refine ImpS.sl_eq ?_) | (refine ImpS.expl rfl ?_)) | (refine row_snoc' ?_) | (apply row_upd) | exact cimp_none | exact cimp_same | exact List.not_mem_nil | exact DImp.refl _) | exact rfl | (refine And.intro ?_ ?_) | exact ImpS.refl _)
          all_goals try first | assumption | (simp only []; done) | omega | (simp [*]; done)
        · simp only; omega
      · omega
    · conv => whnf
      all_goals (repeat' first | (refine Edge.fast ?_) | ((conv => whnf); first | exact True.intro | (refine And.intro ?_ ?_) | exact rfl | exact Nat.le_of_eq (Nat.zero_add _) | exact ImpS.refl _ | ((conv => arg 1; whnf); first | exact ImpS.refl _ | (refine ImpS.nil_eq ?_) | (refine ImpS.vnil_eq ?_) | (refine ImpS.row ?_) | (refine ImpS.rowN ?_ ?_) | (refine ImpS.sl_eq ?_) | (refine ImpS.expl rfl ?_)) | (refine row_snoc' ?_) | (apply row_upd) | exact cimp_none | exact cimp_same | exact List.not_mem_nil | exact DImp.refl _) | exact rfl | (refine And.intro ?_ ?_) | exact ImpS.refl _)
      all_goals try first | assumption | omega | (simp only [IntKind.bits]; omega) | (simp [upTo_length, *]; done) | (rw [Bool.eq_iff_iff]; simp; omega) | (simp_all [upTo_length]; done) | (simp_all [upTo_length]; omega)
      intro j hj
      have h0 : upTo (room m) ((w : Int) + 1) (Int.toNat 0) = room m := upTo_zero _ _
      rw [h0]
      unfold apd
      rw [if_neg (Nat.not_lt_zero j)]
      exact CImp.refl _
  · conv => whnf
    all_goals (repeat' first | (refine Edge.fast ?_) | ((conv => whnf); first | exact True.intro | (refine And.intro ?_ ?_) | exact rfl | exact Nat.le_of_eq (Nat.zero_add _) | exact ImpS.refl _ | ((conv => arg 1; whnf); first | exact ImpS.refl _ | (refine ImpS.nil_eq ?_) | (refine ImpS.vnil_eq ?_) | (refine ImpS.row ?_) | (refine ImpS.rowN ?_ ?_) | (refine ImpS.sl_eq ?_) | (refine ImpS.expl rfl ?_)) | (refine row_snoc' ?_) | (apply row_upd) | exact cimp_none | exact cimp_same | exact List.not_mem_nil | exact DImp.refl _) | exact rfl | (refine And.intro ?_ ?_) | exact ImpS.refl _)
    all_goals try first | assumption | omega | (simp only [IntKind.bits]; omega) | (simp [*]; done) | (rw [Bool.eq_iff_iff]; simp; omega) | (simp_all []; done) | (simp_all []; omega)
end Go.Px.Try

/-! Ref10 -/
namespace Go.Px.Try
open Go Go.Proofs Go.Px

/-- Is the rest of a plan safe, from an hour and a heat on? -/
def restOk (m : Mill) (plan : List Int) (i : Nat) (heat : Int) : Prop := greatest (heatsGo m plan (room m) (plan.length - i) i heat) ≤ m.limit
instance (m : Mill) (plan : List Int) (i : Nat) (heat : Int) : Decidable (restOk m plan i heat) := by unfold restOk; exact inferInstance
def latTo (m : Mill) (plan : List Int) (i : Nat) : Nat → Int
  | 0 => 0
  | k + 1 => if restOk m plan i k then k else latTo m plan i k
def latestAt (m : Mill) (plan : List Int) (i : Nat) : Int := latTo m plan i (m.limit + 1).toNat
def latestTo (m : Mill) (plan : List Int) : Nat → List Int
  | 0 => []
  | k + 1 => latestTo m plan k ++ [latestAt m plan k]
def latestR (m : Mill) (plan : List Int) : List Int × Int := if (checkPlanR m plan).2 ≠ 0 then ([], (checkPlanR m plan).2) else (latestTo m plan plan.length, 0)
theorem latestTo_length (m : Mill) (plan : List Int) : ∀ k, (latestTo m plan k).length = k
  | 0 => rfl
  | k + 1 => by simp [latestTo, latestTo_length m plan k]

theorem HeatsAt (m : Mill) (plan : List Int) (h : PlanOk m plan) (heat : Int) (hh : 0 ≤ heat ∧ heat ≤ 100) (i : Nat) : Fn Try.prog 58 [millD m, ints plan, ints (roomOf m true), int heat, int i] (ints (heatsGo m plan (room m) (plan.length - i) i heat)) :=
  HeatsOf_spec m plan (room m) heat i h.sm ⟨by omega, by omega⟩ (h.rm true) (h.le true) h.l1
theorem GreatAt (m : Mill) (plan : List Int) (h : PlanOk m plan) (heat : Int) (i : Nat) : Fn Try.prog 74 [ints (heatsGo m plan (room m) (plan.length - i) i heat)] (int (greatest (heatsGo m plan (room m) (plan.length - i) i heat))) :=
  Greatest_spec _ (by rw [heatsGo_length]; have := h.l1; omega)

set_option maxHeartbeats 16000000 in
theorem Latest_spec (m : Mill) (plan : List Int) (hl : m.hours.length < 1000000) (hp : plan.length < 1000000) : Fn Try.prog 38 [millD m, ints plan] (tpl [ints (latestR m plan).1, int (latestR m plan).2]) := by
  refine Fn.hide (D := fun r : List Int × Int => tpl [ints r.1, int r.2]) fun r hr => ?_
  by_cases h1 : (checkPlanR m plan).2 = 0
  case neg =>
    have e : r = ([], (checkPlanR m plan).2) := hr.h ▸ if_pos h1
    refine Fn.of_ex (cuts := []) tys hM Try.func38 rfl Try.call38 rfl ?_
    show exC Try.prog T [] _ false none 0 (entry 50 [millD m, ints plan]) (finQ T [ResultVar.tmp 4, ResultVar.tmp 5] _)
    conv => whnf
    repeat' first
      | (refine Ob.tt True.intro ?_; conv => whnf)
      | (refine Ob.tt rfl ?_; conv => whnf)
      | (refine Ob.tt (And.intro True.intro (And.intro True.intro True.intro)) ?_; conv => whnf)
      | (refine Ob.tt (And.intro True.intro (And.intro True.intro (And.intro True.intro True.intro))) ?_; conv => whnf)
      | (refine Ob.tt (And.intro True.intro True.intro) ?_; conv => whnf)
      | (refine Ob.tt (Nat.le_of_ble_eq_true rfl) ?_; conv => whnf)
      | (refine Ob.inR (fun _ => ?_) ?_; rotate_left; (try first | assumption | omega | exact ImpS.refl _ | (simp only [inR]; omega) | (simp only [IntKind.bits]; omega) | (refine ⟨?_, ?_⟩ <;> omega)); rotate_right); (conv => whnf)
      | (apply Cl.go; (conv => whnf); (refine Ob.fn ?_ ?_ ?_ (CheckPlan_spec m plan hl hp); rotate_left; (focus ((repeat' first | (refine Edge.fast ?_) | ((conv => whnf); first | exact True.intro | (refine And.intro ?_ ?_) | exact rfl | exact Nat.le_of_eq (Nat.zero_add _) | exact ImpS.refl _ | ((conv => arg 1; whnf); first | exact ImpS.refl _ | (refine ImpS.nil_eq ?_) | (refine ImpS.vnil_eq ?_) | (refine ImpS.row ?_) | (refine ImpS.rowN ?_ ?_) | (refine ImpS.sl_eq ?_) | (refine ImpS.expl rfl ?_)) | (refine row_snoc' ?_) | (apply row_upd) | exact cimp_none | exact cimp_same | exact List.not_mem_nil | exact DImp.refl _) | exact rfl | (refine And.intro ?_ ?_) | exact ImpS.refl _); done)); (focus ((repeat' first | (refine Edge.fast ?_) | ((conv => whnf); first | exact True.intro | (refine And.intro ?_ ?_) | exact rfl | exact Nat.le_of_eq (Nat.zero_add _) | exact ImpS.refl _ | ((conv => arg 1; whnf); first | exact ImpS.refl _ | (refine ImpS.nil_eq ?_) | (refine ImpS.vnil_eq ?_) | (refine ImpS.row ?_) | (refine ImpS.rowN ?_ ?_) | (refine ImpS.sl_eq ?_) | (refine ImpS.expl rfl ?_)) | (refine row_snoc' ?_) | (apply row_upd) | exact cimp_none | exact cimp_same | exact List.not_mem_nil | exact DImp.refl _) | exact rfl | (refine And.intro ?_ ?_) | exact ImpS.refl _); done)); rotate_right); (conv => whnf))
      | (refine Ob.go (fun _ => ?_) (And.intro True.intro (And.intro ?_ List.not_mem_nil)); rotate_left; (try first | assumption | omega | exact ImpS.refl _ | (simp only [inR]; omega) | (simp only [IntKind.bits]; omega) | (refine ⟨?_, ?_⟩ <;> omega)); rotate_right); (conv => whnf)
      | (refine Ob.and (fun _ => ?_) ?_; rotate_left; (try first | assumption | omega | exact ImpS.refl _ | (simp only [inR]; omega) | (simp only [IntKind.bits]; omega) | (refine ⟨?_, ?_⟩ <;> omega)); rotate_right); (conv => whnf)
      | (refine Ob.ltN (fun _ => ?_) ?_; rotate_left; (try first | assumption | omega | exact ImpS.refl _ | (simp only [inR]; omega) | (simp only [IntKind.bits]; omega) | (refine ⟨?_, ?_⟩ <;> omega)); rotate_right); (conv => whnf)
      | (refine Ob.leN (fun _ => ?_) ?_; rotate_left; (try first | assumption | omega | exact ImpS.refl _ | (simp only [inR]; omega) | (simp only [IntKind.bits]; omega) | (refine ⟨?_, ?_⟩ <;> omega)); rotate_right); (conv => whnf)
      | (refine Sp.tt ?_; conv => whnf)
      | (refine Sp.ff ?_; conv => whnf)
      | (refine Sp.dec (fun hc => ?_) (fun hc => ?_) <;> (conv => whnf))
      | (refine Sp.ndec (fun hc => ?_) (fun hc => ?_) <;> (conv => whnf))
      | (refine Sp.mk (fun hc => ?_) (fun hc => ?_) <;> (conv => whnf))
      | (refine Fi.mk ?_ ?_; (focus ((repeat' first | (refine Edge.fast ?_) | ((conv => whnf); first | exact True.intro | (refine And.intro ?_ ?_) | exact rfl | exact Nat.le_of_eq (Nat.zero_add _) | exact ImpS.refl _ | ((conv => arg 1; whnf); first | exact ImpS.refl _ | (refine ImpS.nil_eq ?_) | (refine ImpS.vnil_eq ?_) | (refine ImpS.row ?_) | (refine ImpS.rowN ?_ ?_) | (refine ImpS.sl_eq ?_) | (refine ImpS.expl rfl ?_)) | (refine row_snoc' ?_) | (apply row_upd) | exact cimp_none | exact cimp_same | exact List.not_mem_nil | exact DImp.refl _) | exact rfl | (refine And.intro ?_ ?_) | exact ImpS.refl _); done)); (conv => whnf))
    all_goals first | contradiction | skip
    (repeat' first | (refine Edge.fast ?_) | ((conv => whnf); first | exact True.intro | (refine And.intro ?_ ?_) | exact rfl | exact Nat.le_of_eq (Nat.zero_add _) | exact ImpS.refl _ | ((conv => arg 1; whnf); first | exact ImpS.refl _ | (refine ImpS.nil_eq ?_) | (refine ImpS.vnil_eq ?_) | (refine ImpS.row ?_) | (refine ImpS.rowN ?_ ?_) | (refine ImpS.sl_eq ?_) | (refine ImpS.expl rfl ?_)) | (refine row_snoc' ?_) | (apply row_upd) | exact cimp_none | exact cimp_same | exact List.not_mem_nil | exact DImp.refl _) | exact rfl | (refine And.intro ?_ ?_) | exact ImpS.refl _)
    all_goals try first | (simp only [e]; done) | assumption | omega | (simp [e, *]; done) | (simp_all [e]; done)
  obtain ⟨h2, h3⟩ := checkPlanR_zero h1
  have hok := planOk h2
  have hlen := hok.len
  have hn12 := hok.n12
  obtain ⟨⟨_, _⟩, _⟩ := hok.head
  have he : r = (latestTo m plan plan.length, 0) := hr.h ▸ if_neg (by rw [h1]; simp)
  refine Fn.of_ex (cuts := []) tys hM Try.func38 rfl Try.call38 rfl ?_
  show exC Try.prog T [] _ false none 0 (entry 50 [millD m, ints plan]) (finQ T [ResultVar.tmp 4, ResultVar.tmp 5] _)
  conv => whnf
  repeat' first
    | (refine Ob.tt True.intro ?_; conv => whnf)
    | (refine Ob.tt rfl ?_; conv => whnf)
    | (refine Ob.tt (And.intro True.intro (And.intro True.intro True.intro)) ?_; conv => whnf)
    | (refine Ob.tt (And.intro True.intro (And.intro True.intro (And.intro True.intro True.intro))) ?_; conv => whnf)
    | (refine Ob.tt (And.intro True.intro True.intro) ?_; conv => whnf)
    | (refine Ob.tt (Nat.le_of_ble_eq_true rfl) ?_; conv => whnf)
    | (refine Ob.inR (fun _ => ?_) ?_; rotate_left; (try first | assumption | omega | exact ImpS.refl _ | (simp only [inR]; omega) | (simp only [IntKind.bits]; omega) | (refine ⟨?_, ?_⟩ <;> omega)); rotate_right); (conv => whnf)
    | (apply Cl.go; (conv => whnf); (refine Ob.fn ?_ ?_ ?_ (CheckPlan_spec m plan hl hp); rotate_left; (focus ((repeat' first | (refine Edge.fast ?_) | ((conv => whnf); first | exact True.intro | (refine And.intro ?_ ?_) | exact rfl | exact Nat.le_of_eq (Nat.zero_add _) | exact ImpS.refl _ | ((conv => arg 1; whnf); first | exact ImpS.refl _ | (refine ImpS.nil_eq ?_) | (refine ImpS.vnil_eq ?_) | (refine ImpS.row ?_) | (refine ImpS.rowN ?_ ?_) | (refine ImpS.sl_eq ?_) | (refine ImpS.expl rfl ?_)) | (refine row_snoc' ?_) | (apply row_upd) | exact cimp_none | exact cimp_same | exact List.not_mem_nil | exact DImp.refl _) | exact rfl | (refine And.intro ?_ ?_) | exact ImpS.refl _); done)); (focus ((repeat' first | (refine Edge.fast ?_) | ((conv => whnf); first | exact True.intro | (refine And.intro ?_ ?_) | exact rfl | exact Nat.le_of_eq (Nat.zero_add _) | exact ImpS.refl _ | ((conv => arg 1; whnf); first | exact ImpS.refl _ | (refine ImpS.nil_eq ?_) | (refine ImpS.vnil_eq ?_) | (refine ImpS.row ?_) | (refine ImpS.rowN ?_ ?_) | (refine ImpS.sl_eq ?_) | (refine ImpS.expl rfl ?_)) | (refine row_snoc' ?_) | (apply row_upd) | exact cimp_none | exact cimp_same | exact List.not_mem_nil | exact DImp.refl _) | exact rfl | (refine And.intro ?_ ?_) | exact ImpS.refl _); done)); rotate_right); (conv => whnf))
    | (refine Ob.go (fun _ => ?_) (And.intro True.intro (And.intro ?_ List.not_mem_nil)); rotate_left; (try first | assumption | omega | exact ImpS.refl _ | (simp only [inR]; omega) | (simp only [IntKind.bits]; omega) | (refine ⟨?_, ?_⟩ <;> omega)); rotate_right); (conv => whnf)
    | (refine Ob.and (fun _ => ?_) ?_; rotate_left; (try first | assumption | omega | exact ImpS.refl _ | (simp only [inR]; omega) | (simp only [IntKind.bits]; omega) | (refine ⟨?_, ?_⟩ <;> omega)); rotate_right); (conv => whnf)
    | (refine Ob.ltN (fun _ => ?_) ?_; rotate_left; (try first | assumption | omega | exact ImpS.refl _ | (simp only [inR]; omega) | (simp only [IntKind.bits]; omega) | (refine ⟨?_, ?_⟩ <;> omega)); rotate_right); (conv => whnf)
    | (refine Ob.leN (fun _ => ?_) ?_; rotate_left; (try first | assumption | omega | exact ImpS.refl _ | (simp only [inR]; omega) | (simp only [IntKind.bits]; omega) | (refine ⟨?_, ?_⟩ <;> omega)); rotate_right); (conv => whnf)
    | (refine Sp.tt ?_; conv => whnf)
    | (refine Sp.ff ?_; conv => whnf)
    | (refine Sp.dec (fun hc => ?_) (fun hc => ?_) <;> (conv => whnf))
    | (refine Sp.ndec (fun hc => ?_) (fun hc => ?_) <;> (conv => whnf))
    | (refine Sp.mk (fun hc => ?_) (fun hc => ?_) <;> (conv => whnf))
    | (refine Fi.mk ?_ ?_; (focus ((repeat' first | (refine Edge.fast ?_) | ((conv => whnf); first | exact True.intro | (refine And.intro ?_ ?_) | exact rfl | exact Nat.le_of_eq (Nat.zero_add _) | exact ImpS.refl _ | ((conv => arg 1; whnf); first | exact ImpS.refl _ | (refine ImpS.nil_eq ?_) | (refine ImpS.vnil_eq ?_) | (refine ImpS.row ?_) | (refine ImpS.rowN ?_ ?_) | (refine ImpS.sl_eq ?_) | (refine ImpS.expl rfl ?_)) | (refine row_snoc' ?_) | (apply row_upd) | exact cimp_none | exact cimp_same | exact List.not_mem_nil | exact DImp.refl _) | exact rfl | (refine And.intro ?_ ?_) | exact ImpS.refl _); done)); (conv => whnf))
  · contradiction
  refine Lp.go 50 {i : Nat // i ≤ plan.length}
    (fun ⟨i, _⟩ => ⟨2, [(1, .d (ints plan)), (2, .ref 0 0), (8, .ms 1 1 0 (latestTo m plan i).length), (9, .d (int i))],
      [(0, .cs true 5 fun j => .d ((millL m).getD j .top)), (1, .row true 2 1 (latestTo m plan i).length (rowOf int 0 (latestTo m plan i)))], some 0⟩)
    (fun p => plan.length - p.1) ⟨0, by omega⟩ ?_ ?_ rfl (fun _ => rfl)
  · rintro ⟨i, hi⟩
    have hll := latestTo_length m plan i
    have hll' := latestTo_length m plan (i + 1)
    have hla : latestTo m plan (i + 1) = latestTo m plan i ++ [latestAt m plan i] := rfl
    conv => whnf
    repeat' first
      | (refine Ob.tt True.intro ?_; conv => whnf)
      | (refine Ob.tt rfl ?_; conv => whnf)
      | (refine Ob.tt (And.intro True.intro (And.intro True.intro True.intro)) ?_; conv => whnf)
      | (refine Ob.tt (And.intro True.intro (And.intro True.intro (And.intro True.intro True.intro))) ?_; conv => whnf)
      | (refine Ob.tt (And.intro True.intro True.intro) ?_; conv => whnf)
      | (refine Ob.tt (Nat.le_of_ble_eq_true rfl) ?_; conv => whnf)
      | (refine Ob.inR (fun _ => ?_) ?_; rotate_left; (try first | assumption | omega | exact ImpS.refl _ | (simp only [inR]; omega) | (simp only [IntKind.bits]; omega) | (refine ⟨?_, ?_⟩ <;> omega)); rotate_right); (conv => whnf)
      | (refine Ob.go (fun _ => ?_) (And.intro True.intro (And.intro ?_ List.not_mem_nil)); rotate_left; (try first | assumption | omega | exact ImpS.refl _ | (simp only [inR]; omega) | (simp only [IntKind.bits]; omega) | (refine ⟨?_, ?_⟩ <;> omega)); rotate_right); (conv => whnf)
      | (refine Ob.and (fun _ => ?_) ?_; rotate_left; (try first | assumption | omega | exact ImpS.refl _ | (simp only [inR]; omega) | (simp only [IntKind.bits]; omega) | (refine ⟨?_, ?_⟩ <;> omega)); rotate_right); (conv => whnf)
      | (refine Ob.ltN (fun _ => ?_) ?_; rotate_left; (try first | assumption | omega | exact ImpS.refl _ | (simp only [inR]; omega) | (simp only [IntKind.bits]; omega) | (refine ⟨?_, ?_⟩ <;> omega)); rotate_right); (conv => whnf)
      | (refine Ob.leN (fun _ => ?_) ?_; rotate_left; (try first | assumption | omega | exact ImpS.refl _ | (simp only [inR]; omega) | (simp only [IntKind.bits]; omega) | (refine ⟨?_, ?_⟩ <;> omega)); rotate_right); (conv => whnf)
      | (refine Sp.tt ?_; conv => whnf)
      | (refine Sp.ff ?_; conv => whnf)
      | (refine Sp.dec (fun hc => ?_) (fun hc => ?_) <;> (conv => whnf))
      | (refine Sp.ndec (fun hc => ?_) (fun hc => ?_) <;> (conv => whnf))
      | (refine Sp.mk (fun hc => ?_) (fun hc => ?_) <;> (conv => whnf))
      | (refine Fi.mk ?_ ?_; (focus ((repeat' first | (refine Edge.fast ?_) | ((conv => whnf); first | exact True.intro | (refine And.intro ?_ ?_) | exact rfl | exact Nat.le_of_eq (Nat.zero_add _) | exact ImpS.refl _ | ((conv => arg 1; whnf); first | exact ImpS.refl _ | (refine ImpS.nil_eq ?_) | (refine ImpS.vnil_eq ?_) | (refine ImpS.row ?_) | (refine ImpS.rowN ?_ ?_) | (refine ImpS.sl_eq ?_) | (refine ImpS.expl rfl ?_)) | (refine row_snoc' ?_) | (apply row_upd) | exact cimp_none | exact cimp_same | exact List.not_mem_nil | exact DImp.refl _) | exact rfl | (refine And.intro ?_ ?_) | exact ImpS.refl _); done)); (conv => whnf))
    · refine Lp.go 50 {k : Nat // k ≤ (m.limit + 1).toNat}
        (fun ⟨k, _⟩ => ⟨2, [(1, .d (ints plan)), (2, .ref 0 0), (8, .ms 1 1 0 (latestTo m plan i).length), (9, .d (int i)), (10, .d (int (latTo m plan i k))), (11, .d (int k))],
          [(0, .cs true 5 fun j => .d ((millL m).getD j .top)), (1, .row true 2 1 (latestTo m plan i).length (rowOf int 0 (latestTo m plan i)))], some 0⟩)
        (fun p => (m.limit + 1).toNat - p.1) ⟨0, by omega⟩ ?_ ?_ rfl (fun _ => rfl)
      · rintro ⟨k, hk⟩
        have hs1 : greatest (heatsGo m plan (room m) (plan.length - i) i k) ≤ m.limit → latTo m plan i (k + 1) = k := fun h => if_pos h
        have hs2 : ¬ greatest (heatsGo m plan (room m) (plan.length - i) i k) ≤ m.limit → latTo m plan i (k + 1) = latTo m plan i k := fun h => if_neg h
        conv => whnf
        have hend : ¬ (k : Int) ≤ m.limit → latTo m plan i k = latestAt m plan i := fun h => by
          unfold latestAt
          rw [show (m.limit + 1).toNat = k by omega]
        repeat' first
          | (refine Ob.tt True.intro ?_; conv => whnf)
          | (refine Ob.tt rfl ?_; conv => whnf)
          | (refine Ob.tt (And.intro True.intro (And.intro True.intro True.intro)) ?_; conv => whnf)
          | (refine Ob.tt (And.intro True.intro (And.intro True.intro (And.intro True.intro True.intro))) ?_; conv => whnf)
          | (refine Ob.tt (And.intro True.intro True.intro) ?_; conv => whnf)
          | (refine Ob.tt (Nat.le_of_ble_eq_true rfl) ?_; conv => whnf)
          | (refine Ob.inR (fun _ => ?_) ?_; rotate_left; (try first | assumption | omega | exact ImpS.refl _ | (simp only [inR]; omega) | (simp only [IntKind.bits]; omega) | (refine ⟨?_, ?_⟩ <;> omega)); rotate_right); (conv => whnf)
          | (apply Cl.go; (conv => whnf); (refine Ob.fn ?_ ?_ ?_ (Room' m plan h2 true); rotate_left; (focus ((repeat' first | (refine Edge.fast ?_) | ((conv => whnf); first | exact True.intro | (refine And.intro ?_ ?_) | exact rfl | exact Nat.le_of_eq (Nat.zero_add _) | exact ImpS.refl _ | ((conv => arg 1; whnf); first | exact ImpS.refl _ | (refine ImpS.nil_eq ?_) | (refine ImpS.vnil_eq ?_) | (refine ImpS.row ?_) | (refine ImpS.rowN ?_ ?_) | (refine ImpS.sl_eq ?_) | (refine ImpS.expl rfl ?_)) | (refine row_snoc' ?_) | (apply row_upd) | exact cimp_none | exact cimp_same | exact List.not_mem_nil | exact DImp.refl _) | exact rfl | (refine And.intro ?_ ?_) | exact ImpS.refl _); done)); (focus ((repeat' first | (refine Edge.fast ?_) | ((conv => whnf); first | exact True.intro | (refine And.intro ?_ ?_) | exact rfl | exact Nat.le_of_eq (Nat.zero_add _) | exact ImpS.refl _ | ((conv => arg 1; whnf); first | exact ImpS.refl _ | (refine ImpS.nil_eq ?_) | (refine ImpS.vnil_eq ?_) | (refine ImpS.row ?_) | (refine ImpS.rowN ?_ ?_) | (refine ImpS.sl_eq ?_) | (refine ImpS.expl rfl ?_)) | (refine row_snoc' ?_) | (apply row_upd) | exact cimp_none | exact cimp_same | exact List.not_mem_nil | exact DImp.refl _) | exact rfl | (refine And.intro ?_ ?_) | exact ImpS.refl _); done)); rotate_right); (conv => whnf))
          | (apply Cl.go; (conv => whnf); (refine Ob.fn ?_ ?_ ?_ (HeatsAt m plan hok k ⟨by omega, by omega⟩ i); rotate_left; (focus ((repeat' first | (refine Edge.fast ?_) | ((conv => whnf); first | exact True.intro | (refine And.intro ?_ ?_) | exact rfl | exact Nat.le_of_eq (Nat.zero_add _) | exact ImpS.refl _ | ((conv => arg 1; whnf); first | exact ImpS.refl _ | (refine ImpS.nil_eq ?_) | (refine ImpS.vnil_eq ?_) | (refine ImpS.row ?_) | (refine ImpS.rowN ?_ ?_) | (refine ImpS.sl_eq ?_) | (refine ImpS.expl rfl ?_)) | (refine row_snoc' ?_) | (apply row_upd) | exact cimp_none | exact cimp_same | exact List.not_mem_nil | exact DImp.refl _) | exact rfl | (refine And.intro ?_ ?_) | exact ImpS.refl _); done)); (focus ((repeat' first | (refine Edge.fast ?_) | ((conv => whnf); first | exact True.intro | (refine And.intro ?_ ?_) | exact rfl | exact Nat.le_of_eq (Nat.zero_add _) | exact ImpS.refl _ | ((conv => arg 1; whnf); first | exact ImpS.refl _ | (refine ImpS.nil_eq ?_) | (refine ImpS.vnil_eq ?_) | (refine ImpS.row ?_) | (refine ImpS.rowN ?_ ?_) | (refine ImpS.sl_eq ?_) | (refine ImpS.expl rfl ?_)) | (refine row_snoc' ?_) | (apply row_upd) | exact cimp_none | exact cimp_same | exact List.not_mem_nil | exact DImp.refl _) | exact rfl | (refine And.intro ?_ ?_) | exact ImpS.refl _); done)); rotate_right); (conv => whnf))
          | (apply Cl.go; (conv => whnf); (refine Ob.fn ?_ ?_ ?_ (GreatAt m plan hok k i); rotate_left; (focus ((repeat' first | (refine Edge.fast ?_) | ((conv => whnf); first | exact True.intro | (refine And.intro ?_ ?_) | exact rfl | exact Nat.le_of_eq (Nat.zero_add _) | exact ImpS.refl _ | ((conv => arg 1; whnf); first | exact ImpS.refl _ | (refine ImpS.nil_eq ?_) | (refine ImpS.vnil_eq ?_) | (refine ImpS.row ?_) | (refine ImpS.rowN ?_ ?_) | (refine ImpS.sl_eq ?_) | (refine ImpS.expl rfl ?_)) | (refine row_snoc' ?_) | (apply row_upd) | exact cimp_none | exact cimp_same | exact List.not_mem_nil | exact DImp.refl _) | exact rfl | (refine And.intro ?_ ?_) | exact ImpS.refl _); done)); (focus ((repeat' first | (refine Edge.fast ?_) | ((conv => whnf); first | exact True.intro | (refine And.intro ?_ ?_) | exact rfl | exact Nat.le_of_eq (Nat.zero_add _) | exact ImpS.refl _ | ((conv => arg 1; whnf); first | exact ImpS.refl _ | (refine ImpS.nil_eq ?_) | (refine ImpS.vnil_eq ?_) | (refine ImpS.row ?_) | (refine ImpS.rowN ?_ ?_) | (refine ImpS.sl_eq ?_) | (refine ImpS.expl rfl ?_)) | (refine row_snoc' ?_) | (apply row_upd) | exact cimp_none | exact cimp_same | exact List.not_mem_nil | exact DImp.refl _) | exact rfl | (refine And.intro ?_ ?_) | exact ImpS.refl _); done)); rotate_right); (conv => whnf))
          | (refine Ob.go (fun _ => ?_) (And.intro True.intro (And.intro ?_ List.not_mem_nil)); rotate_left; (try first | assumption | omega | exact ImpS.refl _ | (simp only [inR]; omega) | (simp only [IntKind.bits]; omega) | (refine ⟨?_, ?_⟩ <;> omega)); rotate_right); (conv => whnf)
          | (refine Ob.and (fun _ => ?_) ?_; rotate_left; (try first | assumption | omega | exact ImpS.refl _ | (simp only [inR]; omega) | (simp only [IntKind.bits]; omega) | (refine ⟨?_, ?_⟩ <;> omega)); rotate_right); (conv => whnf)
          | (refine Ob.ltN (fun _ => ?_) ?_; rotate_left; (try first | assumption | omega | exact ImpS.refl _ | (simp only [inR]; omega) | (simp only [IntKind.bits]; omega) | (refine ⟨?_, ?_⟩ <;> omega)); rotate_right); (conv => whnf)
          | (refine Ob.leN (fun _ => ?_) ?_; rotate_left; (try first | assumption | omega | exact ImpS.refl _ | (simp only [inR]; omega) | (simp only [IntKind.bits]; omega) | (refine ⟨?_, ?_⟩ <;> omega)); rotate_right); (conv => whnf)
          | (refine Sp.tt ?_; conv => whnf)
          | (refine Sp.ff ?_; conv => whnf)
          | (refine Sp.dec (fun hc => ?_) (fun hc => ?_) <;> (conv => whnf))
          | (refine Sp.ndec (fun hc => ?_) (fun hc => ?_) <;> (conv => whnf))
          | (refine Sp.mk (fun hc => ?_) (fun hc => ?_) <;> (conv => whnf))
          | (refine Fi.mk ?_ ?_; (focus ((repeat' first | (refine Edge.fast ?_) | ((conv => whnf); first | exact True.intro | (refine And.intro ?_ ?_) | exact rfl | exact Nat.le_of_eq (Nat.zero_add _) | exact ImpS.refl _ | ((conv => arg 1; whnf); first | exact ImpS.refl _ | (refine ImpS.nil_eq ?_) | (refine ImpS.vnil_eq ?_) | (refine ImpS.row ?_) | (refine ImpS.rowN ?_ ?_) | (refine ImpS.sl_eq ?_) | (refine ImpS.expl rfl ?_)) | (refine row_snoc' ?_) | (apply row_upd) | exact cimp_none | exact cimp_same | exact List.not_mem_nil | exact DImp.refl _) | exact rfl | (refine And.intro ?_ ?_) | exact ImpS.refl _); done)); (conv => whnf))
        · have e := hs1 hc
          refine ⟨rfl, ⟨k + 1, by omega⟩, ?_, ?_⟩
          · (conv => whnf)
            all_goals (repeat' first | (refine Edge.fast ?_) | ((conv => whnf); first | exact True.intro | (refine And.intro ?_ ?_) | exact rfl | exact Nat.le_of_eq (Nat.zero_add _) | exact ImpS.refl _ | ((conv => arg 1; whnf); first | exact ImpS.refl _ | (refine ImpS.nil_eq ?_) | (refine ImpS.vnil_eq ?_) | (refine ImpS.row ?_) | (refine ImpS.rowN ?_ ?_) | (refine ImpS.sl_eq ?_) | (refine ImpS.expl rfl ?_)) | (refine row_snoc' ?_) | (apply row_upd) | exact cimp_none | exact cimp_same | exact List.not_mem_nil | exact DImp.refl _) | exact rfl | (refine And.intro ?_ ?_) | exact ImpS.refl _)
            all_goals try first | assumption | (simp only [e]; done) | omega | (simp [e, *]; done)
          · simp only; omega
        · have e := hs2 hc
          refine ⟨rfl, ⟨k + 1, by omega⟩, ?_, ?_⟩
          · (conv => whnf)
            all_goals (repeat' first | (refine Edge.fast ?_) | ((conv => whnf); first | exact True.intro | (refine And.intro ?_ ?_) | exact rfl | exact Nat.le_of_eq (Nat.zero_add _) | exact ImpS.refl _ | ((conv => arg 1; whnf); first | exact ImpS.refl _ | (refine ImpS.nil_eq ?_) | (refine ImpS.vnil_eq ?_) | (refine ImpS.row ?_) | (refine ImpS.rowN ?_ ?_) | (refine ImpS.sl_eq ?_) | (refine ImpS.expl rfl ?_)) | (refine row_snoc' ?_) | (apply row_upd) | exact cimp_none | exact cimp_same | exact List.not_mem_nil | exact DImp.refl _) | exact rfl | (refine And.intro ?_ ?_) | exact ImpS.refl _)
            all_goals try first | assumption | (simp only [e]; done) | omega | (simp [e, *]; done)
          · simp only; omega
        · have e := hend hc
          refine ⟨rfl, ⟨i + 1, by omega⟩, ?_, ?_⟩
          · (conv => whnf)
            all_goals (repeat' first | (refine Edge.fast ?_) | ((conv => whnf); first | exact True.intro | (refine And.intro ?_ ?_) | exact rfl | exact Nat.le_of_eq (Nat.zero_add _) | exact ImpS.refl _ | ((conv => arg 1; whnf); first | exact ImpS.refl _ | (refine ImpS.nil_eq ?_) | (refine ImpS.vnil_eq ?_) | (refine ImpS.row ?_) | (refine ImpS.rowN ?_ ?_) | (refine ImpS.sl_eq ?_) | (refine ImpS.expl rfl ?_)) | (refine row_snoc' ?_) | (apply row_upd) | exact cimp_none | exact cimp_same | exact List.not_mem_nil | exact DImp.refl _) | exact rfl | (refine And.intro ?_ ?_) | exact ImpS.refl _)
            all_goals try first | assumption | (simp only [e]; done) | omega | (simp [e, *]; done)
          · simp only; omega
      · conv => whnf
        all_goals (repeat' first | (refine Edge.fast ?_) | ((conv => whnf); first | exact True.intro | (refine And.intro ?_ ?_) | exact rfl | exact Nat.le_of_eq (Nat.zero_add _) | exact ImpS.refl _ | ((conv => arg 1; whnf); first | exact ImpS.refl _ | (refine ImpS.nil_eq ?_) | (refine ImpS.vnil_eq ?_) | (refine ImpS.row ?_) | (refine ImpS.rowN ?_ ?_) | (refine ImpS.sl_eq ?_) | (refine ImpS.expl rfl ?_)) | (refine row_snoc' ?_) | (apply row_upd) | exact cimp_none | exact cimp_same | exact List.not_mem_nil | exact DImp.refl _) | exact rfl | (refine And.intro ?_ ?_) | exact ImpS.refl _)
        all_goals try first | assumption | omega | (simp only [IntKind.bits]; omega) | (simp [*]; done) | (rw [Bool.eq_iff_iff]; simp; omega) | (simp_all []; done) | (simp_all []; omega)
    · have hie : latestTo m plan i = latestTo m plan plan.length := by rw [show i = plan.length by omega]
      have e : r = (latestTo m plan i, 0) := by rw [he, hie]
      (repeat' first | (refine Edge.fast ?_) | ((conv => whnf); first | exact True.intro | (refine And.intro ?_ ?_) | exact rfl | exact Nat.le_of_eq (Nat.zero_add _) | exact ImpS.refl _ | ((conv => arg 1; whnf); first | exact ImpS.refl _ | (refine ImpS.nil_eq ?_) | (refine ImpS.vnil_eq ?_) | (refine ImpS.row ?_) | (refine ImpS.rowN ?_ ?_) | (refine ImpS.sl_eq ?_) | (refine ImpS.expl rfl ?_)) | (refine row_snoc' ?_) | (apply row_upd) | exact cimp_none | exact cimp_same | exact List.not_mem_nil | exact DImp.refl _) | exact rfl | (refine And.intro ?_ ?_) | exact ImpS.refl _)
      all_goals try first | (simp only [e]; done) | assumption | omega | (simp [e, *]; done) | (simp_all [e]; done)
  · conv => whnf
    all_goals (repeat' first | (refine Edge.fast ?_) | ((conv => whnf); first | exact True.intro | (refine And.intro ?_ ?_) | exact rfl | exact Nat.le_of_eq (Nat.zero_add _) | exact ImpS.refl _ | ((conv => arg 1; whnf); first | exact ImpS.refl _ | (refine ImpS.nil_eq ?_) | (refine ImpS.vnil_eq ?_) | (refine ImpS.row ?_) | (refine ImpS.rowN ?_ ?_) | (refine ImpS.sl_eq ?_) | (refine ImpS.expl rfl ?_)) | (refine row_snoc' ?_) | (apply row_upd) | exact cimp_none | exact cimp_same | exact List.not_mem_nil | exact DImp.refl _) | exact rfl | (refine And.intro ?_ ?_) | exact ImpS.refl _)
    all_goals try first | assumption | omega | (simp only [IntKind.bits]; omega) | (simp [*]; done) | (rw [Bool.eq_iff_iff]; simp; omega) | (simp_all []; done) | (simp_all []; omega)
end Go.Px.Try
