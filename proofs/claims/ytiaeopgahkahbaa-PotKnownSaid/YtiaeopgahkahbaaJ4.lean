/- Texts of this proof, joined (Ty, Pm1, Pm2, Pm3, Pm4, Pm5, Pm6, Rf1, Rf2, Rf3, Rf4, Rf5, Rf6, Rf7): a small program logic over the model, and what functions of the program give. No statement of the seat is proved here. -/
import Derived.Test.YtiaeopgahkahbaaRows
import Derived.Test.YtiaeopgahkahbaaJ3
set_option linter.unusedVariables false
set_option linter.unusedSimpArgs false

/-! Ty -/
namespace Go.Px.Try
open Go Go.Proofs Go.Px
theorem TsOk.nil (P : Program) : TsOk P (fun _ => none) := fun _ _ h => by cases h
theorem TsOk.cons {P : Program} {t : Nat} {ti : TI} {f : Nat → Option TI} (h : TOk P ti t) (hl : TsOk P f) : TsOk P (fun j => bif Nat.beq t j then some ti else f j) := by
  intro t' ti' ht
  simp only at ht
  cases hb : Nat.beq t t' with
  | true => rw [hb] at ht; obtain rfl := Nat.eq_of_beq_eq_true hb; cases ht; exact h
  | false => rw [hb] at ht; exact hl t' ti' ht
theorem info_of {P : Program} {t : Nat} {i : TypeInfo} (h : P.types[t]? = some i) : P.info? t = some i := by
  unfold Tables.info?
  rw [if_pos (Array.getElem?_eq_some_iff.1 h).1]; exact h
theorem oneAll {cs : Array Value} (h : (cs.toList.all Value.oneCell') = true) : ∀ u ∈ cs, u.oneCell' = true := fun u hu => List.all_eq_true.1 h u (Array.mem_toList_iff.2 hu)
def ti25 : TI := ⟨TypeDesc.struct #[{ name := "Pots", type := 3, offset := 0, embedded := false, tag := "", pkgPath := "", byteOffset := 0 }, { name := "Lots", type := 22, offset := 1, embedded := false, tag := "", pkgPath := "", byteOffset := 8 }, { name := "Weak", type := 23, offset := 2, embedded := false, tag := "", pkgPath := "", byteOffset := 32 }], Value.agg #[Value.int IntKind.i64 0, Value.slice none 0 0, Value.slice none 0 0], 3, 56, none, none⟩
def ti23 : TI := ⟨TypeDesc.slice 3, Value.slice none 0 0, 1, 24, none, none⟩
def ti3 : TI := ⟨TypeDesc.int IntKind.i64, Value.int IntKind.i64 0, 1, 8, none, none⟩
def ti22 : TI := ⟨TypeDesc.slice 51, Value.slice none 0 0, 1, 24, none, none⟩
def ti4 : TI := ⟨TypeDesc.bool, Value.bool false, 1, 1, none, none⟩
def ti51 : TI := ⟨TypeDesc.struct #[{ name := "Lo", type := 2, offset := 0, embedded := false, tag := "", pkgPath := "", byteOffset := 0 }, { name := "Hi", type := 2, offset := 1, embedded := false, tag := "", pkgPath := "", byteOffset := 8 }], Value.agg #[Value.int IntKind.i64 0, Value.int IntKind.i64 0], 2, 16, none, none⟩
def ti60 : TI := ⟨TypeDesc.pointer 99, Value.pointer none, 1, 8, none, none⟩
def ti87 : TI := ⟨TypeDesc.array 13 3, Value.agg #[Value.int IntKind.i64 0, Value.int IntKind.i64 0, Value.int IntKind.i64 0, Value.int IntKind.i64 0, Value.int IntKind.i64 0, Value.int IntKind.i64 0, Value.int IntKind.i64 0, Value.int IntKind.i64 0, Value.int IntKind.i64 0, Value.int IntKind.i64 0, Value.int IntKind.i64 0, Value.int IntKind.i64 0, Value.int IntKind.i64 0], 13, 104, some 13, none⟩
def ti29 : TI := ⟨TypeDesc.int IntKind.i64, Value.int IntKind.i64 0, 1, 8, none, none⟩
def ti2 : TI := ⟨TypeDesc.int IntKind.i64, Value.int IntKind.i64 0, 1, 8, none, none⟩
def ti79 : TI := ⟨TypeDesc.array 10 3, Value.agg #[Value.int IntKind.i64 0, Value.int IntKind.i64 0, Value.int IntKind.i64 0, Value.int IntKind.i64 0, Value.int IntKind.i64 0, Value.int IntKind.i64 0, Value.int IntKind.i64 0, Value.int IntKind.i64 0, Value.int IntKind.i64 0, Value.int IntKind.i64 0], 10, 80, none, none⟩
def ti76 : TI := ⟨TypeDesc.slice 23, Value.slice none 0 0, 1, 24, none, none⟩
def ti118 : TI := ⟨TypeDesc.int IntKind.u64, Value.int IntKind.u64 0, 1, 8, none, none⟩
def ti42 : TI := ⟨TypeDesc.slice 5, Value.slice none 0 0, 1, 24, none, none⟩
def ti5 : TI := ⟨TypeDesc.int IntKind.u8, Value.int IntKind.u8 0, 1, 1, none, none⟩
def ti122 : TI := ⟨TypeDesc.pointer 3, Value.pointer none, 1, 8, none, none⟩
def ti99 : TI := ⟨TypeDesc.struct #[{ name := "PotRow", type := 25, offset := 0, embedded := true, tag := "", pkgPath := "", byteOffset := 0 }], Value.agg #[Value.int IntKind.i64 0, Value.slice none 0 0, Value.slice none 0 0], 3, 56, none, none⟩
def ti83 : TI := ⟨TypeDesc.struct #[{ name := "pot", type := 3, offset := 0, embedded := false, tag := "", pkgPath := "senvy/pot", byteOffset := 0 }], Value.agg #[Value.int IntKind.i64 0], 1, 8, none, none⟩
def ti105 : TI := ⟨TypeDesc.int IntKind.u64, Value.int IntKind.u64 0, 1, 8, none, none⟩
def ti65 : TI := ⟨TypeDesc.func #[3] #[4] false, Value.nilFunc, 1, 8, none, none⟩
def ti66 : TI := ⟨TypeDesc.func #[3] #[3] false, Value.nilFunc, 1, 8, none, none⟩
def ti69 : TI := ⟨TypeDesc.func #[65] #[] false, Value.nilFunc, 1, 8, none, none⟩
def ti81 : TI := ⟨TypeDesc.map 83 3, Value.map none, 1, 8, none, some ⟨true, 1⟩⟩
def ti71 : TI := ⟨TypeDesc.func #[51] #[4] false, Value.nilFunc, 1, 8, none, none⟩
def ti117 : TI := ⟨TypeDesc.int IntKind.u64, Value.int IntKind.u64 0, 1, 8, none, none⟩
def ti115 : TI := ⟨TypeDesc.int IntKind.u32, Value.int IntKind.u32 0, 1, 4, none, none⟩
def ti9 : TI := ⟨TypeDesc.string, Value.string { data := #[] }, 1, 16, none, none⟩
def ti64 : TI := ⟨TypeDesc.func #[3, 3] #[4] false, Value.nilFunc, 1, 8, none, none⟩
def ti108 : TI := ⟨TypeDesc.int IntKind.i64, Value.int IntKind.i64 0, 1, 8, none, none⟩
def ti124 : TI := ⟨TypeDesc.pointer 118, Value.pointer none, 1, 8, none, none⟩
def ti47 : TI := ⟨TypeDesc.int IntKind.u16, Value.int IntKind.u16 0, 1, 2, none, none⟩
theorem tok25 : TOk Try.prog ti25 25 := ⟨Try.underlying25, by rw [info_of Try.type25]; rfl, rfl, oneAll rfl, nofun, nofun, nofun⟩
theorem tok23 : TOk Try.prog ti23 23 := ⟨Try.underlying23, by rw [info_of Try.type23]; rfl, rfl, oneAll rfl, fun _ => ⟨rfl, rfl⟩, nofun, nofun⟩
theorem tok3 : TOk Try.prog ti3 3 := ⟨Try.underlying3, by rw [info_of Try.type3]; rfl, rfl, oneAll rfl, fun _ => ⟨rfl, rfl⟩, nofun, nofun⟩
theorem tok22 : TOk Try.prog ti22 22 := ⟨Try.underlying22, by rw [info_of Try.type22]; rfl, rfl, oneAll rfl, fun _ => ⟨rfl, rfl⟩, nofun, nofun⟩
theorem tok4 : TOk Try.prog ti4 4 := ⟨Try.underlying4, by rw [info_of Try.type4]; rfl, rfl, oneAll rfl, fun _ => ⟨rfl, rfl⟩, nofun, nofun⟩
theorem tok51 : TOk Try.prog ti51 51 := ⟨Try.underlying51, by rw [info_of Try.type51]; rfl, rfl, oneAll rfl, nofun, nofun, nofun⟩
theorem tok60 : TOk Try.prog ti60 60 := ⟨Try.underlying60, by rw [info_of Try.type60]; rfl, rfl, oneAll rfl, fun _ => ⟨rfl, rfl⟩, nofun, nofun⟩
theorem tok87 : TOk Try.prog ti87 87 := ⟨Try.underlying87, by rw [info_of Try.type87]; rfl, rfl, oneAll rfl, nofun, fun _ h => by cases h; exact eqT_array Try.underlying87 Try.eqGuardType87 Try.underlying3 (info_of Try.type3) rfl, nofun⟩
theorem tok29 : TOk Try.prog ti29 29 := ⟨Try.underlying29, by rw [info_of Try.type29]; rfl, rfl, oneAll rfl, fun _ => ⟨rfl, rfl⟩, nofun, nofun⟩
theorem tok2 : TOk Try.prog ti2 2 := ⟨Try.underlying2, by rw [info_of Try.type2]; rfl, rfl, oneAll rfl, fun _ => ⟨rfl, rfl⟩, nofun, nofun⟩
theorem tok79 : TOk Try.prog ti79 79 := ⟨Try.underlying79, by rw [info_of Try.type79]; rfl, rfl, oneAll rfl, nofun, nofun, nofun⟩
theorem tok76 : TOk Try.prog ti76 76 := ⟨Try.underlying76, by rw [info_of Try.type76]; rfl, rfl, oneAll rfl, fun _ => ⟨rfl, rfl⟩, nofun, nofun⟩
theorem tok118 : TOk Try.prog ti118 118 := ⟨Try.underlying118, by rw [info_of Try.type118]; rfl, rfl, oneAll rfl, fun _ => ⟨rfl, rfl⟩, nofun, nofun⟩
theorem tok42 : TOk Try.prog ti42 42 := ⟨Try.underlying42, by rw [info_of Try.type42]; rfl, rfl, oneAll rfl, fun _ => ⟨rfl, rfl⟩, nofun, nofun⟩
theorem tok5 : TOk Try.prog ti5 5 := ⟨Try.underlying5, by rw [info_of Try.type5]; rfl, rfl, oneAll rfl, fun _ => ⟨rfl, rfl⟩, nofun, nofun⟩
theorem tok122 : TOk Try.prog ti122 122 := ⟨Try.underlying122, by rw [info_of Try.type122]; rfl, rfl, oneAll rfl, fun _ => ⟨rfl, rfl⟩, nofun, nofun⟩
theorem tok99 : TOk Try.prog ti99 99 := ⟨Try.underlying99, by rw [info_of Try.type99]; rfl, rfl, oneAll rfl, nofun, nofun, nofun⟩
theorem tok83 : TOk Try.prog ti83 83 := ⟨Try.underlying83, by rw [info_of Try.type83]; rfl, rfl, oneAll rfl, nofun, nofun, nofun⟩
theorem tok105 : TOk Try.prog ti105 105 := ⟨Try.underlying105, by rw [info_of Try.type105]; rfl, rfl, oneAll rfl, fun _ => ⟨rfl, rfl⟩, nofun, nofun⟩
theorem tok65 : TOk Try.prog ti65 65 := ⟨Try.underlying65, by rw [info_of Try.type65]; rfl, rfl, oneAll rfl, fun _ => ⟨rfl, rfl⟩, nofun, nofun⟩
theorem tok66 : TOk Try.prog ti66 66 := ⟨Try.underlying66, by rw [info_of Try.type66]; rfl, rfl, oneAll rfl, fun _ => ⟨rfl, rfl⟩, nofun, nofun⟩
theorem tok69 : TOk Try.prog ti69 69 := ⟨Try.underlying69, by rw [info_of Try.type69]; rfl, rfl, oneAll rfl, fun _ => ⟨rfl, rfl⟩, nofun, nofun⟩
theorem tok81 : TOk Try.prog ti81 81 := ⟨Try.underlying81, by rw [info_of Try.type81]; rfl, rfl, oneAll rfl, fun _ => ⟨rfl, rfl⟩, nofun, fun _ h => by cases h; exact mapT Try.underlying81 (keyOk_struct Try.underlying83 Try.stoodInHeld83 Try.eqGuardType83 ⟨by decide, rfl, Try.underlying3, trivial⟩) fun w => Try.zeroValue3 w⟩
theorem tok71 : TOk Try.prog ti71 71 := ⟨Try.underlying71, by rw [info_of Try.type71]; rfl, rfl, oneAll rfl, fun _ => ⟨rfl, rfl⟩, nofun, nofun⟩
theorem tok117 : TOk Try.prog ti117 117 := ⟨Try.underlying117, by rw [info_of Try.type117]; rfl, rfl, oneAll rfl, fun _ => ⟨rfl, rfl⟩, nofun, nofun⟩
theorem tok115 : TOk Try.prog ti115 115 := ⟨Try.underlying115, by rw [info_of Try.type115]; rfl, rfl, oneAll rfl, fun _ => ⟨rfl, rfl⟩, nofun, nofun⟩
theorem tok9 : TOk Try.prog ti9 9 := ⟨Try.underlying9, by rw [info_of Try.type9]; rfl, rfl, oneAll rfl, fun _ => ⟨rfl, rfl⟩, nofun, nofun⟩
theorem tok64 : TOk Try.prog ti64 64 := ⟨Try.underlying64, by rw [info_of Try.type64]; rfl, rfl, oneAll rfl, fun _ => ⟨rfl, rfl⟩, nofun, nofun⟩
theorem tok108 : TOk Try.prog ti108 108 := ⟨Try.underlying108, by rw [info_of Try.type108]; rfl, rfl, oneAll rfl, fun _ => ⟨rfl, rfl⟩, nofun, nofun⟩
theorem tok124 : TOk Try.prog ti124 124 := ⟨Try.underlying124, by rw [info_of Try.type124]; rfl, rfl, oneAll rfl, fun _ => ⟨rfl, rfl⟩, nofun, nofun⟩
theorem tok47 : TOk Try.prog ti47 47 := ⟨Try.underlying47, by rw [info_of Try.type47]; rfl, rfl, oneAll rfl, fun _ => ⟨rfl, rfl⟩, nofun, nofun⟩
def T (j : Nat) : Option TI :=
  bif Nat.beq 25 j then some ti25 else
  bif Nat.beq 23 j then some ti23 else
  bif Nat.beq 3 j then some ti3 else
  bif Nat.beq 22 j then some ti22 else
  bif Nat.beq 4 j then some ti4 else
  bif Nat.beq 51 j then some ti51 else
  bif Nat.beq 60 j then some ti60 else
  bif Nat.beq 87 j then some ti87 else
  bif Nat.beq 29 j then some ti29 else
  bif Nat.beq 2 j then some ti2 else
  bif Nat.beq 79 j then some ti79 else
  bif Nat.beq 76 j then some ti76 else
  bif Nat.beq 118 j then some ti118 else
  bif Nat.beq 42 j then some ti42 else
  bif Nat.beq 5 j then some ti5 else
  bif Nat.beq 122 j then some ti122 else
  bif Nat.beq 99 j then some ti99 else
  bif Nat.beq 83 j then some ti83 else
  bif Nat.beq 105 j then some ti105 else
  bif Nat.beq 65 j then some ti65 else
  bif Nat.beq 66 j then some ti66 else
  bif Nat.beq 69 j then some ti69 else
  bif Nat.beq 81 j then some ti81 else
  bif Nat.beq 71 j then some ti71 else
  bif Nat.beq 117 j then some ti117 else
  bif Nat.beq 115 j then some ti115 else
  bif Nat.beq 9 j then some ti9 else
  bif Nat.beq 64 j then some ti64 else
  bif Nat.beq 108 j then some ti108 else
  bif Nat.beq 124 j then some ti124 else
  bif Nat.beq 47 j then some ti47 else
  none
theorem tys : TsOk Try.prog T := TsOk.cons tok25 (TsOk.cons tok23 (TsOk.cons tok3 (TsOk.cons tok22 (TsOk.cons tok4 (TsOk.cons tok51 (TsOk.cons tok60 (TsOk.cons tok87 (TsOk.cons tok29 (TsOk.cons tok2 (TsOk.cons tok79 (TsOk.cons tok76 (TsOk.cons tok118 (TsOk.cons tok42 (TsOk.cons tok5 (TsOk.cons tok122 (TsOk.cons tok99 (TsOk.cons tok83 (TsOk.cons tok105 (TsOk.cons tok65 (TsOk.cons tok66 (TsOk.cons tok69 (TsOk.cons tok81 (TsOk.cons tok71 (TsOk.cons tok117 (TsOk.cons tok115 (TsOk.cons tok9 (TsOk.cons tok64 (TsOk.cons tok108 (TsOk.cons tok124 (TsOk.cons tok47 (TsOk.nil _)))))))))))))))))))))))))))))))
end Go.Px.Try

/-! Pm1 -/
namespace Go.Px.Try
open Go Go.Proofs Go.Px
/-! ### Sums over sets of the numbers below n -/
def tot (z : Nat → Int) (S : Nat → Bool) : Nat → Int
  | 0 => 0
  | n + 1 => tot z S n + (if S n then z n else 0)
theorem tot_congr {z : Nat → Int} {S S' : Nat → Bool} : ∀ {n : Nat}, (∀ i, i < n → S i = S' i) → tot z S n = tot z S' n
  | 0, _ => rfl
  | n + 1, h => by rw [tot, tot, tot_congr fun i hi => h i (by omega), h n (by omega)]
theorem tot_nn {z : Nat → Int} (hz : ∀ i, 0 ≤ z i) (S : Nat → Bool) : ∀ n, 0 ≤ tot z S n
  | 0 => Int.le_refl _
  | n + 1 => by
    have := tot_nn hz S n
    have := hz n
    rw [tot]; split <;> omega
theorem tot_mono {z : Nat → Int} (hz : ∀ i, 0 ≤ z i) {S S' : Nat → Bool} : ∀ {n : Nat}, (∀ i, i < n → S i = true → S' i = true) → tot z S n ≤ tot z S' n
  | 0, _ => Int.le_refl _
  | n + 1, h => by
    have h1 := tot_mono hz (n := n) fun i hi => h i (by omega)
    have h2 := h n (by omega)
    have := hz n
    rw [tot, tot]
    cases hs : S n with
    | true => rw [h2 hs]; simpa using h1
    | false =>
      simp only [Bool.false_eq_true, if_false]
      split <;> omega
def adj (S : Nat → Bool) (i : Nat) : Nat → Bool := fun j => if j = i then true else S j
def del (S : Nat → Bool) (i : Nat) : Nat → Bool := fun j => if j = i then false else S j
theorem tot_del {z : Nat → Int} {S : Nat → Bool} {i : Nat} (hs : S i = true) : ∀ {n : Nat}, i < n → tot z (del S i) n = tot z S n - z i
  | n + 1, hi => by
    rw [tot, tot]
    by_cases e : i = n
    · subst e
      have : tot z (del S i) i = tot z S i := tot_congr fun j hj => if_neg (by omega)
      rw [this, hs]
      have : del S i i = false := if_pos rfl
      rw [this]
      simp
    · rw [tot_del hs (by omega)]
      have : del S i n = S n := if_neg (by omega)
      rw [this]; omega
theorem tot_adj {z : Nat → Int} {S : Nat → Bool} {i : Nat} (hs : S i = false) : ∀ {n : Nat}, i < n → tot z (adj S i) n = tot z S n + z i
  | n + 1, hi => by
    rw [tot, tot]
    by_cases e : i = n
    · subst e
      have : tot z (adj S i) i = tot z S i := tot_congr fun j hj => if_neg (by omega)
      rw [this, hs]
      have : adj S i i = true := if_pos rfl
      rw [this]
      simp
    · rw [tot_adj hs (by omega)]
      have : adj S i n = S n := if_neg (by omega)
      rw [this]; omega
theorem tot_adj_le {z : Nat → Int} (hz : ∀ i, 0 ≤ z i) {S : Nat → Bool} {i n : Nat} (hi : i < n) : tot z (adj S i) n ≤ tot z S n + z i := by
  cases hs : S i with
  | false => rw [tot_adj hs hi]; exact Int.le_refl _
  | true =>
    have : tot z (adj S i) n = tot z S n := tot_congr fun j _ => by
      unfold adj; split
      · rename_i e; subst e; exact hs.symm
      · rfl
    have := hz i
    omega
/-! ### The cheapest lots that have the first weak pots -/
section
variable (n : Nat) (lo hi z : Nat → Int) (W : Nat → Int) (ok : Nat → Bool)
def cov (i : Nat) (p : Int) : Prop := lo i ≤ p ∧ p ≤ hi i
instance (i : Nat) (p : Int) : Decidable (cov lo hi i p) := by unfold cov; exact inferInstance
/-- From which weak pot on up to k a lot has all. -/
def fst (i : Nat) : Nat → Nat
  | 0 => 0
  | f + 1 => if cov lo hi i (W f) then fst i f else f + 1
def bestI (l : List Int) (k : Nat) : Nat → Option Int
  | 0 => none
  | i + 1 => if ok i = true ∧ cov lo hi i (W k) then
      (match bestI l k i with
      | none => some (l.getD (fst lo hi W i k) 0 + z i)
      | some b => if l.getD (fst lo hi W i k) 0 + z i < b then some (l.getD (fst lo hi W i k) 0 + z i) else some b)
    else bestI l k i
def upL : Nat → Option (List Int)
  | 0 => some [0]
  | k + 1 => match upL k with
    | none => none
    | some l => match bestI lo hi z W ok l k n with
      | none => none
      | some v => some (l ++ [v])
/-- Lots that have the first k weak pots. -/
def Cov (k : Nat) (S : Nat → Bool) : Prop := ∀ j, j < k → ∃ i, i < n ∧ S i = true ∧ cov lo hi i (W j)
variable {n lo hi z W ok}
theorem fst_le (i : Nat) : ∀ k, fst lo hi W i k ≤ k
  | 0 => Nat.le_refl _
  | k + 1 => by rw [fst]; split; exact Nat.le_trans (fst_le i k) (by omega); exact Nat.le_refl _
theorem fst_all (i : Nat) : ∀ k j, fst lo hi W i k ≤ j → j < k → cov lo hi i (W j)
  | 0, j, _, h => by omega
  | k + 1, j, h1, h2 => by
    rw [fst] at h1
    split at h1
    · rename_i h
      by_cases e : j = k
      · subst e; exact h
      · exact fst_all i k j h1 (by omega)
    · omega
theorem fst_not (i : Nat) {K : Nat} (hW : ∀ a b, a < b → b < K → W a < W b) : ∀ k, k < K → cov lo hi i (W k) → ∀ j, j < fst lo hi W i k → ¬ cov lo hi i (W j)
  | 0, _, _, j, h => by rw [fst] at h; omega
  | k + 1, hkK, hk, j, h => by
    rw [fst] at h
    split at h
    · rename_i h1; exact fst_not i hW k (by omega) h1 j h
    · rename_i h1
      intro hc
      refine h1 ⟨?_, ?_⟩
      · rcases Nat.lt_or_ge j k with e | e
        · have := hW j k e (by omega); have := hc.1; omega
        · have : j = k := by omega
          subst this; exact hc.1
      · have := hW k (k + 1) (by omega) hkK; have := hk.2; omega
theorem fst_of (i : Nat) {K : Nat} (hW : ∀ a b, a < b → b < K → W a < W b) {k a : Nat} (hkK : k < K) (hk : cov lo hi i (W k)) (ha : a ≤ k) (h : ∀ j, a ≤ j → j ≤ k → cov lo hi i (W j)) : fst lo hi W i k ≤ a := by
  rcases Nat.lt_or_ge a (fst lo hi W i k) with e | e
  · exact absurd (h a (Nat.le_refl _) ha) (fst_not i hW k hkK hk a e)
  · exact e
theorem bestI_none (l : List Int) (k : Nat) : ∀ m, bestI lo hi z W ok l k m = none ↔ ∀ i, i < m → ¬ (ok i = true ∧ cov lo hi i (W k))
  | 0 => by simp [bestI]
  | m + 1 => by
    have ih := bestI_none l k m
    rw [bestI]
    by_cases h : ok m = true ∧ cov lo hi m (W k)
    · rw [if_pos h]
      constructor
      · intro e
        split at e
        · cases e
        · split at e <;> cases e
      · intro e; exact absurd h (e m (by omega))
    · rw [if_neg h, ih]
      constructor
      · intro e i hi
        by_cases hm : i = m
        · subst hm; exact h
        · exact e i (by omega)
      · intro e i hi; exact e i (by omega)
theorem bestI_some (l : List Int) (k : Nat) : ∀ m v, bestI lo hi z W ok l k m = some v →
    (∃ i, i < m ∧ ok i = true ∧ cov lo hi i (W k) ∧ v = l.getD (fst lo hi W i k) 0 + z i) ∧ ∀ i, i < m → ok i = true → cov lo hi i (W k) → v ≤ l.getD (fst lo hi W i k) 0 + z i
  | 0, v, h => by cases h
  | m + 1, v, h => by
    rw [bestI] at h
    by_cases hc : ok m = true ∧ cov lo hi m (W k)
    · rw [if_pos hc] at h
      split at h
      · rename_i hb
        rw [bestI_none] at hb
        cases h
        refine ⟨⟨m, by omega, hc.1, hc.2, rfl⟩, fun i hi h1 h2 => ?_⟩
        by_cases e : i = m
        · subst e; exact Int.le_refl _
        · exact absurd ⟨h1, h2⟩ (hb i (by omega))
      · rename_i b hb
        obtain ⟨⟨i0, a1, a2, a3, a4⟩, a5⟩ := bestI_some l k m b hb
        split at h
        · cases h
          refine ⟨⟨m, by omega, hc.1, hc.2, rfl⟩, fun i hi h1 h2 => ?_⟩
          by_cases e : i = m
          · subst e; exact Int.le_refl _
          · have := a5 i (by omega) h1 h2; omega
        · cases h
          refine ⟨⟨i0, by omega, a2, a3, a4⟩, fun i hi h1 h2 => ?_⟩
          by_cases e : i = m
          · subst e; omega
          · exact a5 i (by omega) h1 h2
    · rw [if_neg hc] at h
      obtain ⟨⟨i0, a1, a2, a3, a4⟩, a5⟩ := bestI_some l k m v h
      refine ⟨⟨i0, by omega, a2, a3, a4⟩, fun i hi h1 h2 => ?_⟩
      by_cases e : i = m
      · subst e; exact absurd ⟨h1, h2⟩ hc
      · exact a5 i (by omega) h1 h2
/-- What the list of costs says. -/
structure UpOk (n : Nat) (lo hi z W : Nat → Int) (ok : Nat → Bool) (k : Nat) (l : List Int) : Prop where
  len : l.length = k + 1
  low : ∀ m, m ≤ k → ∀ S : Nat → Bool, (∀ i, S i = true → ok i = true) → Cov n lo hi W m S → l.getD m 0 ≤ tot z S n
  att : ∀ m, m ≤ k → ∃ S : Nat → Bool, (∀ i, S i = true → ok i = true ∧ i < n) ∧ Cov n lo hi W m S ∧ tot z S n = l.getD m 0
theorem Cov.le {k m : Nat} {S : Nat → Bool} (h : Cov n lo hi W k S) (hm : m ≤ k) : Cov n lo hi W m S := fun j hj => h j (by omega)
theorem Cov.mono {k : Nat} {S S' : Nat → Bool} (h : Cov n lo hi W k S) (hs : ∀ i, S i = true → S' i = true) : Cov n lo hi W k S' := fun j hj => by
  obtain ⟨i, a, b, c⟩ := h j hj
  exact ⟨i, a, hs i b, c⟩
theorem getD_app {l : List Int} {v : Int} {m : Nat} (h : m < l.length) : (l ++ [v]).getD m 0 = l.getD m 0 := by
  rw [List.getD_eq_getElem?_getD, List.getD_eq_getElem?_getD, List.getElem?_append_left h]
theorem getD_end {l : List Int} {v : Int} : (l ++ [v]).getD l.length 0 = v := by
  rw [List.getD_eq_getElem?_getD, List.getElem?_append_right (Nat.le_refl _)]; simp
theorem upL_ok (hz : ∀ i, 0 ≤ z i) {K : Nat} (hW : ∀ a b, a < b → b < K → W a < W b) : ∀ k, k ≤ K →
    match upL n lo hi z W ok k with
    | some l => UpOk n lo hi z W ok k l
    | none => ∀ S : Nat → Bool, (∀ i, S i = true → ok i = true) → ¬ Cov n lo hi W k S
  | 0, _ => by
    show UpOk n lo hi z W ok 0 [0]
    refine ⟨rfl, fun m hm S _ _ => ?_, fun m hm => ⟨fun _ => false, (fun i h => by cases h), fun j hj => by omega, ?_⟩⟩
    · have : m = 0 := by omega
      subst this; exact tot_nn hz S n
    · have : m = 0 := by omega
      subst this
      have : ∀ q, tot z (fun _ => false) q = 0 := by
        intro q
        induction q with
        | zero => rfl
        | succ q ih => rw [tot, ih]; simp
      rw [this]; rfl
  | k + 1, hkK => by
    have ih := upL_ok hz hW k (by omega)
    rw [upL]
    cases hu : upL n lo hi z W ok k with
    | none =>
      rw [hu] at ih
      simp only at ih ⊢
      exact fun S hS hc => ih S hS (hc.le (by omega))
    | some l =>
      rw [hu] at ih
      simp only at ih ⊢
      obtain ⟨hl, hlow, hatt⟩ := ih
      cases hb : bestI lo hi z W ok l k n with
      | none =>
        rw [bestI_none] at hb
        simp only
        intro S hS hc
        obtain ⟨i, h1, h2, h3⟩ := hc k (by omega)
        exact hb i h1 ⟨hS i h2, h3⟩
      | some v =>
        simp only
        obtain ⟨⟨i0, a1, a2, a3, a4⟩, a5⟩ := bestI_some l k n v hb
        have low : ∀ S : Nat → Bool, (∀ i, S i = true → ok i = true) → Cov n lo hi W (k + 1) S → v ≤ tot z S n := by
          intro S hS hc
          obtain ⟨i, h1, h2, h3⟩ := hc k (by omega)
          have h4 := a5 i h1 (hS i h2) h3
          have h5 := hlow (fst lo hi W i k) (fst_le i k) (del S i) (fun j hj => by
            unfold del at hj; split at hj
            · cases hj
            · exact hS j hj) (fun j hj => by
            obtain ⟨i', b1, b2, b3⟩ := hc j (by have := fst_le (lo := lo) (hi := hi) (W := W) i k; omega)
            have hne : i' ≠ i := fun e => by subst e; exact fst_not i' hW k (by omega) h3 j hj b3
            exact ⟨i', b1, by unfold del; rw [if_neg hne]; exact b2, b3⟩)
          rw [tot_del h2 h1] at h5
          omega
        have e1 : ∀ m, m ≤ k → (l ++ [v]).getD m 0 = l.getD m 0 := fun m hm => getD_app (by omega)
        have e2 : (l ++ [v]).getD (k + 1) 0 = v := by rw [← hl]; exact getD_end
        refine ⟨by simp [hl], fun m hm S hS hc => ?_, fun m hm => ?_⟩
        · rcases Nat.lt_or_ge k m with e | e
          · have : m = k + 1 := by omega
            subst this
            rw [e2]; exact low S hS hc
          · rw [e1 m e]; exact hlow m e S hS hc
        · rcases Nat.lt_or_ge k m with e | e
          · have : m = k + 1 := by omega
            subst this
            rw [e2]
            obtain ⟨S, s1, s2, s3⟩ := hatt (fst lo hi W i0 k) (fst_le i0 k)
            have hc : Cov n lo hi W (k + 1) (adj S i0) := by
              intro j hj
              rcases Nat.lt_or_ge j (fst lo hi W i0 k) with e | e
              · obtain ⟨i, b1, b2, b3⟩ := s2 j e
                exact ⟨i, b1, by unfold adj; split <;> first | rfl | exact b2, b3⟩
              · refine ⟨i0, a1, if_pos rfl, ?_⟩
                by_cases hjk : j = k
                · subst hjk; exact a3
                · exact fst_all i0 k j e (by omega)
            have ho : ∀ i, adj S i0 i = true → ok i = true ∧ i < n := by
              intro i hi
              unfold adj at hi
              split at hi
              · rename_i e; subst e; exact ⟨a2, a1⟩
              · exact s1 i hi
            refine ⟨adj S i0, ho, hc, ?_⟩
            have h1 := low _ (fun i h => (ho i h).1) hc
            have h2 := tot_adj_le hz (S := S) a1
            omega
          · rw [e1 m e]; exact hatt m e
/-- One lot more has more. -/
theorem UpOk.step (hz : ∀ i, 0 ≤ z i) {k : Nat} {l : List Int} (h : UpOk n lo hi z W ok k l) {a b i : Nat} (hab : a ≤ b) (hb : b ≤ k) (hin : i < n) (hok : ok i = true) (hc : ∀ j, a ≤ j → j < b → cov lo hi i (W j)) : l.getD b 0 ≤ l.getD a 0 + z i := by
  obtain ⟨S, s1, s2, s3⟩ := h.att a (by omega)
  have h1 := h.low b hb (adj S i) (fun j hj => by
    unfold adj at hj; split at hj
    · rename_i e; subst e; exact hok
    · exact (s1 j hj).1) (fun j hj => by
    rcases Nat.lt_or_ge j a with e | e
    · obtain ⟨i', b1, b2, b3⟩ := s2 j e
      exact ⟨i', b1, by unfold adj; split <;> first | rfl | exact b2, b3⟩
    · exact ⟨i, hin, if_pos rfl, hc j e hj⟩)
  have h2 := tot_adj_le hz (S := S) hin
  omega
theorem UpOk.up {k : Nat} {l : List Int} (h : UpOk n lo hi z W ok k l) {a b : Nat} (hab : a ≤ b) (hb : b ≤ k) : l.getD a 0 ≤ l.getD b 0 := by
  obtain ⟨S, s1, s2, s3⟩ := h.att b hb
  rw [← s3]
  exact h.low a (by omega) S (fun i hi => (s1 i hi).1) (s2.le hab)
end
end Go.Px.Try

/-! Pm2 -/
namespace Go.Px.Try
open Go Go.Proofs Go.Px
structure Lot where
  lo : Int
  hi : Int
deriving DecidableEq
instance : Inhabited Lot := ⟨⟨0, 0⟩⟩
structure Row where
  pots : Int
  lots : List Lot
  weak : List Int
deriving DecidableEq
def Has (l : Lot) (p : Int) : Prop := l.lo ≤ p ∧ p ≤ l.hi
instance (l : Lot) (p : Int) : Decidable (Has l p) := by unfold Has; exact inferInstance
def lsize (l : Lot) : Int := l.hi - l.lo + 1
def lotN (r : Row) (i : Nat) : Lot := r.lots.getD i default
structure RowOk (r : Row) : Prop where
  p1 : 1 ≤ r.pots
  p40 : r.pots ≤ 40
  l10 : r.lots.length ≤ 10
  w12 : r.weak.length ≤ 12
  lots : ∀ l ∈ r.lots, 0 ≤ l.lo ∧ l.lo ≤ l.hi ∧ l.hi < r.pots
  rng : ∀ p ∈ r.weak, 0 ≤ p ∧ p < r.pots
  inc : r.weak.Pairwise (· < ·)
def zOf (r : Row) (i : Nat) : Int := lsize (lotN r i)
def totR (r : Row) (S : Nat → Bool) : Int := tot (zOf r) S r.lots.length
def E (r : Row) (S : Nat → Bool) : Prop := ∀ p ∈ r.weak, ∃ i, i < r.lots.length ∧ S i = true ∧ Has (lotN r i) p
theorem lotN_mem {r : Row} {i : Nat} (h : i < r.lots.length) : lotN r i ∈ r.lots := by
  unfold lotN; rw [List.getD_eq_getElem?_getD, List.getElem?_eq_getElem h]; exact List.getElem_mem h
theorem zOf_pos {r : Row} (h : RowOk r) (i : Nat) : 1 ≤ zOf r i := by
  by_cases hi : i < r.lots.length
  · have := h.lots _ (lotN_mem hi); unfold zOf lsize; omega
  · have : lotN r i = default := by unfold lotN; rw [List.getD_eq_getElem?_getD, List.getElem?_eq_none (by omega)]; rfl
    unfold zOf; rw [this]; decide
theorem zOf_le {r : Row} (h : RowOk r) (i : Nat) : zOf r i ≤ 40 := by
  by_cases hi : i < r.lots.length
  · have := h.lots _ (lotN_mem hi); have := h.p40; unfold zOf lsize; omega
  · have : lotN r i = default := by unfold lotN; rw [List.getD_eq_getElem?_getD, List.getElem?_eq_none (by omega)]; rfl
    unfold zOf; rw [this]; decide
/-- What explanations with the lots of A, without those of B, call back at the least. -/
structure IsMin (r : Row) (A B : Nat → Bool) (v : Int) : Prop where
  att : ∃ S : Nat → Bool, (∀ i, A i = true → S i = true) ∧ (∀ i, S i = true → B i = false ∧ i < r.lots.length) ∧ E r S ∧ totR r S = v
  low : ∀ S : Nat → Bool, (∀ i, A i = true → S i = true) → (∀ i, S i = true → B i = false) → E r S → v ≤ totR r S
theorem IsMin.uniq {r : Row} {A B : Nat → Bool} {v v' : Int} (h : IsMin r A B v) (h' : IsMin r A B v') : v = v' := by
  obtain ⟨S, a1, a2, a3, a4⟩ := h.att
  obtain ⟨S', b1, b2, b3, b4⟩ := h'.att
  have := h.low S' b1 (fun i hi => (b2 i hi).1) b3
  have := h'.low S a1 (fun i hi => (a2 i hi).1) a3
  omega
/-- Of these lots. -/
def inL (l : List Nat) : Nat → Bool := fun i => l.contains i
def minus (S A : Nat → Bool) : Nat → Bool := fun i => S i && !A i
def union (S A : Nat → Bool) : Nat → Bool := fun i => S i || A i
theorem tot_minus {z : Nat → Int} {S A : Nat → Bool} (h : ∀ i, A i = true → S i = true) : ∀ n, tot z S n = tot z A n + tot z (minus S A) n
  | 0 => rfl
  | n + 1 => by
    rw [tot, tot, tot, tot_minus h n]
    have := h n
    unfold minus
    cases hA : A n <;> cases hS : S n <;> simp_all <;> omega
theorem tot_union {z : Nat → Int} (hz : ∀ i, 0 ≤ z i) {S A : Nat → Bool} : ∀ n, tot z (union S A) n ≤ tot z S n + tot z A n
  | 0 => Int.le_refl _
  | n + 1 => by
    have ih := tot_union hz (S := S) (A := A) n
    have := hz n
    rw [tot, tot, tot]
    unfold union at ih ⊢
    cases hA : A n <;> cases hS : S n <;> simp <;> omega
def sumL (z : Nat → Int) : List Nat → Int
  | [] => 0
  | i :: l => z i + sumL z l
theorem sumL_tot {z : Nat → Int} {n : Nat} : ∀ {l : List Nat}, l.Nodup → (∀ i ∈ l, i < n) → sumL z l = tot z (inL l) n
  | [], _, _ => by
    have : ∀ q, tot z (inL []) q = 0 := by
      intro q
      induction q with
      | zero => rfl
      | succ q ih => rw [tot, ih]; simp [inL]
    rw [this]; rfl
  | i :: l, hn, hl => by
    rw [List.nodup_cons] at hn
    have e : tot z (inL (i :: l)) n = tot z (adj (inL l) i) n := tot_congr fun j _ => by
      unfold inL adj
      by_cases h : j = i <;> simp [h]
    rw [sumL, sumL_tot hn.2 (fun j hj => hl j (by simp [hj])), e, tot_adj (by simpa [inL] using hn.1) (hl i (by simp))]
    omega
def loN (r : Row) (i : Nat) : Int := (lotN r i).lo
def hiN (r : Row) (i : Nat) : Int := (lotN r i).hi
/-- The weak pots that some lots do not have. -/
def restW (r : Row) (wi : List Nat) : List Int := r.weak.filter fun p => !(wi.any fun i => decide (Has (lotN r i) p))
def uptoR (r : Row) (W : List Int) (B : Nat → Bool) : Option (List Int) := upL r.lots.length (loN r) (hiN r) (zOf r) (fun j => W.getD j 0) (fun i => !B i) W.length
def costP (r : Row) (wi : List Nat) (B : Nat → Bool) : Int × Bool :=
  match uptoR r (restW r wi) B with
  | some l => (sumL (zOf r) wi + l.getD (restW r wi).length 0, true)
  | none => (sumL (zOf r) wi, false)
theorem inc_getD {l : List Int} (h : l.Pairwise (· < ·)) : ∀ a b, a < b → b < l.length → l.getD a 0 < l.getD b 0 := by
  intro a b hab hb
  rw [List.pairwise_iff_getElem] at h
  rw [List.getD_eq_getElem?_getD, List.getD_eq_getElem?_getD, List.getElem?_eq_getElem hb, List.getElem?_eq_getElem (by omega)]
  exact h a b (by omega) hb hab
theorem restW_inc {r : Row} (h : RowOk r) (wi : List Nat) : (restW r wi).Pairwise (· < ·) := List.Pairwise.filter _ h.inc
theorem uptoR_ok {r : Row} (h : RowOk r) {W : List Int} (hW : W.Pairwise (· < ·)) (B : Nat → Bool) :
    match uptoR r W B with
    | some l => UpOk r.lots.length (loN r) (hiN r) (zOf r) (fun j => W.getD j 0) (fun i => !B i) W.length l
    | none => ∀ S : Nat → Bool, (∀ i, S i = true → (!B i) = true) → ¬ Cov r.lots.length (loN r) (hiN r) (fun j => W.getD j 0) W.length S :=
  upL_ok (K := W.length) (fun i => by have := zOf_pos h i; omega) (inc_getD hW) W.length (Nat.le_refl _)
theorem cov_iff {r : Row} {W : List Int} {S : Nat → Bool} : Cov r.lots.length (loN r) (hiN r) (fun j => W.getD j 0) W.length S ↔ ∀ p ∈ W, ∃ i, i < r.lots.length ∧ S i = true ∧ Has (lotN r i) p := by
  constructor
  · intro h p hp
    obtain ⟨j, hj, rfl⟩ := List.getElem_of_mem hp
    have := h j hj
    simp only [List.getD_eq_getElem?_getD, List.getElem?_eq_getElem hj] at this
    exact this
  · intro h j hj
    refine h _ ?_
    show W.getD j 0 ∈ W
    rw [List.getD_eq_getElem?_getD, List.getElem?_eq_getElem hj]; exact List.getElem_mem hj
theorem mem_restW {r : Row} {wi : List Nat} {p : Int} : p ∈ restW r wi ↔ p ∈ r.weak ∧ ∀ i ∈ wi, ¬ Has (lotN r i) p := by
  unfold restW; rw [List.mem_filter]; simp
theorem inL_iff {l : List Nat} {i : Nat} : inL l i = true ↔ i ∈ l := by simp [inL]
theorem cost_ok {r : Row} (h : RowOk r) {wi : List Nat} (hn : wi.Nodup) (hl : ∀ i ∈ wi, i < r.lots.length) {B : Nat → Bool} (hB : ∀ i ∈ wi, B i = false) :
    ((costP r wi B).2 = true → IsMin r (inL wi) B (costP r wi B).1) ∧ ((costP r wi B).2 = false → ∀ S : Nat → Bool, (∀ i, inL wi i = true → S i = true) → (∀ i, S i = true → B i = false) → ¬ E r S) := by
  have hu := uptoR_ok h (restW_inc h wi) B
  have hz : ∀ i, 0 ≤ zOf r i := fun i => by have := zOf_pos h i; omega
  have hs := sumL_tot (z := zOf r) hn hl
  -- what is left of a set without 'with' has the rest
  have key : ∀ S : Nat → Bool, E r S → ∀ p ∈ restW r wi, ∃ i, i < r.lots.length ∧ minus S (inL wi) i = true ∧ Has (lotN r i) p := by
    intro S hS p hp
    obtain ⟨h1, h2⟩ := mem_restW.1 hp
    obtain ⟨i, a, b, c⟩ := hS p h1
    refine ⟨i, a, ?_, c⟩
    have : inL wi i = false := by
      cases e : inL wi i with
      | false => rfl
      | true => exact absurd c (h2 i (inL_iff.1 e))
    simp [minus, b, this]
  unfold costP
  cases hu2 : uptoR r (restW r wi) B with
  | none =>
    rw [hu2] at hu
    simp only at hu
    refine ⟨fun e => (by cases e), fun _ S h1 h2 hE => ?_⟩
    refine hu (minus S (inL wi)) (fun i hi => ?_) (cov_iff.2 (key S hE))
    have : S i = true := by simp [minus] at hi; exact hi.1
    simp [h2 i this]
  | some l =>
    rw [hu2] at hu
    simp only at hu
    refine ⟨fun _ => ?_, fun e => (by cases e)⟩
    have low : ∀ S : Nat → Bool, (∀ i, inL wi i = true → S i = true) → (∀ i, S i = true → B i = false) → E r S → sumL (zOf r) wi + l.getD (restW r wi).length 0 ≤ totR r S := by
      intro S h1 h2 hE
      have := hu.low _ (Nat.le_refl _) (minus S (inL wi)) (fun i hi => by
        have : S i = true := by simp [minus] at hi; exact hi.1
        simp [h2 i this]) (cov_iff.2 (key S hE))
      unfold totR
      rw [tot_minus h1, hs]
      omega
    refine ⟨?_, low⟩
    obtain ⟨S, s1, s2, s3⟩ := hu.att _ (Nat.le_refl _)
    have hE : E r (union S (inL wi)) := by
      intro p hp
      by_cases hh : ∃ i ∈ wi, Has (lotN r i) p
      · obtain ⟨i, hi, hp'⟩ := hh
        exact ⟨i, hl i hi, by simp [union, inL_iff.2 hi], hp'⟩
      · obtain ⟨i, a, b, c⟩ := cov_iff.1 s2 p (mem_restW.2 ⟨hp, fun i hi hp' => hh ⟨i, hi, hp'⟩⟩)
        exact ⟨i, a, by simp [union, b], c⟩
    have hA : ∀ i, inL wi i = true → union S (inL wi) i = true := fun i hi => by simp [union, hi]
    have hBn : ∀ i, union S (inL wi) i = true → B i = false ∧ i < r.lots.length := fun i hi => by
      simp only [union, Bool.or_eq_true] at hi
      rcases hi with hi | hi
      · have := s1 i hi; simp at this; exact this
      · exact ⟨hB i (inL_iff.1 hi), hl i (inL_iff.1 hi)⟩
    refine ⟨_, hA, hBn, hE, ?_⟩
    have h1 := low _ hA (fun i hi => (hBn i hi).1) hE
    have h2 := tot_union hz (S := S) (A := inL wi) r.lots.length
    unfold totR at h1 ⊢
    simp only
    omega
end Go.Px.Try

/-! Pm3 -/
namespace Go.Px.Try
open Go Go.Proofs Go.Px
/-! ### Lists and sets -/
def lst (n : Nat) (S : Nat → Bool) : List Int := ((List.range n).filter S).map fun i : Nat => (i : Int)
theorem lst_succ (n : Nat) (S : Nat → Bool) : lst (n + 1) S = lst n S ++ (if S n then [(n : Int)] else []) := by
  unfold lst
  rw [List.range_succ, List.filter_append, List.map_append]
  congr 1
  cases h : S n <;> simp [h]
theorem mem_lst {n : Nat} {S : Nat → Bool} {x : Int} : x ∈ lst n S ↔ ∃ i, i < n ∧ S i = true ∧ x = (i : Int) := by
  unfold lst
  simp only [List.mem_map, List.mem_filter, List.mem_range]
  constructor
  · rintro ⟨i, ⟨h1, h2⟩, rfl⟩; exact ⟨i, h1, h2, rfl⟩
  · rintro ⟨i, h1, h2, rfl⟩; exact ⟨i, ⟨h1, h2⟩, rfl⟩
theorem mem_lst_nat {n : Nat} {S : Nat → Bool} {i : Nat} : (i : Int) ∈ lst n S ↔ i < n ∧ S i = true := by
  rw [mem_lst]
  constructor
  · rintro ⟨j, h1, h2, h3⟩
    have : i = j := by omega
    subst this; exact ⟨h1, h2⟩
  · rintro ⟨h1, h2⟩; exact ⟨i, h1, h2, rfl⟩
theorem lst_inc (n : Nat) (S : Nat → Bool) : (lst n S).Pairwise (· < ·) := by
  unfold lst
  rw [List.pairwise_map]
  refine (List.Pairwise.filter S (List.pairwise_lt_range)).imp ?_
  intro a b h; omega
theorem lst_congr {n : Nat} {S S' : Nat → Bool} (h : ∀ i, i < n → S i = S' i) : lst n S = lst n S' := by
  induction n with
  | zero => rfl
  | succ n ih => rw [lst_succ, lst_succ, ih fun i hi => h i (by omega), h n (by omega)]
theorem lst_inj {n : Nat} {S S' : Nat → Bool} (h : lst n S = lst n S') : ∀ i, i < n → S i = S' i := by
  intro i hi
  have h1 := mem_lst_nat (n := n) (S := S) (i := i)
  have h2 := mem_lst_nat (n := n) (S := S') (i := i)
  rw [h, h2] at h1
  cases hs : S i <;> cases hs' : S' i <;> simp_all
theorem lst_length_le (n : Nat) (S : Nat → Bool) : (lst n S).length ≤ n := by
  unfold lst; rw [List.length_map]
  exact Nat.le_trans (List.length_filter_le _ _) (by simp)
def explL (r : Row) (l : List Int) : Prop := ∀ p ∈ r.weak, ∃ i ∈ l, Has (lotN r i.toNat) p
instance (r : Row) (l : List Int) : Decidable (explL r l) := by unfold explL; exact inferInstance
def callsL (r : Row) : List Int → Int
  | [] => 0
  | i :: l => zOf r i.toNat + callsL r l
theorem callsL_append (r : Row) (l l' : List Int) : callsL r (l ++ l') = callsL r l + callsL r l' := by
  induction l with
  | nil => simp [callsL]
  | cons x l ih => simp only [List.cons_append, callsL, ih]; omega
theorem callsL_lst (r : Row) (S : Nat → Bool) : ∀ n, callsL r (lst n S) = tot (zOf r) S n
  | 0 => rfl
  | n + 1 => by
    rw [lst_succ, callsL_append, callsL_lst r S n, tot]
    cases h : S n <;> simp [callsL]
theorem explL_lst {r : Row} {S : Nat → Bool} : explL r (lst r.lots.length S) ↔ E r S := by
  constructor
  · intro h p hp
    obtain ⟨x, hx, hc⟩ := h p hp
    obtain ⟨i, h1, h2, rfl⟩ := mem_lst.1 hx
    exact ⟨i, h1, h2, by simpa using hc⟩
  · intro h p hp
    obtain ⟨i, h1, h2, h3⟩ := h p hp
    exact ⟨i, mem_lst.2 ⟨i, h1, h2, rfl⟩, by simpa using h3⟩
/-! ### Bits -/
def bset (b : Nat) : Nat → Bool := fun i => decide (b / 2 ^ i % 2 = 1)
def listed (b n : Nat) : List Int := lst n (bset b)
theorem bset_add {b n i : Nat} (hi : i < n) : bset (b + 2 ^ n) i = bset b i := by
  unfold bset
  obtain ⟨c, rfl⟩ : ∃ c, n = i + 1 + c := ⟨n - (i + 1), by omega⟩
  have : (b + 2 ^ (i + 1 + c)) / 2 ^ i % 2 = b / 2 ^ i % 2 := by
    rw [Nat.pow_add, Nat.pow_succ, Nat.mul_assoc, Nat.add_mul_div_left _ _ (Nat.two_pow_pos i), Nat.add_mul_mod_self_left]
  rw [this]
theorem bset_top {b n : Nat} (h : b < 2 ^ n) : bset b n = false ∧ bset (b + 2 ^ n) n = true := by
  unfold bset
  constructor
  · rw [Nat.div_eq_of_lt h]; rfl
  · rw [Nat.add_div_right _ (Nat.two_pow_pos n), Nat.div_eq_of_lt h]; rfl
theorem exists_bits (S : Nat → Bool) : ∀ n, ∃ b, b < 2 ^ n ∧ ∀ i, i < n → bset b i = S i
  | 0 => ⟨0, by simp, fun i hi => by omega⟩
  | n + 1 => by
    obtain ⟨b, h1, h2⟩ := exists_bits S n
    have hp : 2 ^ (n + 1) = 2 ^ n + 2 ^ n := by rw [Nat.pow_succ]; omega
    cases hs : S n with
    | false =>
      refine ⟨b, by omega, fun i hi => ?_⟩
      by_cases e : i = n
      · subst e; rw [hs]; exact (bset_top h1).1
      · exact h2 i (by omega)
    | true =>
      refine ⟨b + 2 ^ n, by omega, fun i hi => ?_⟩
      by_cases e : i = n
      · subst e; rw [hs]; exact (bset_top h1).2
      · rw [bset_add (by omega)]; exact h2 i (by omega)
theorem bset_full (n i : Nat) (h : i < n) : bset (2 ^ n - 1) i = true := by
  unfold bset
  have hp : 0 < 2 ^ i := Nat.two_pow_pos i
  obtain ⟨c, rfl⟩ : ∃ c, n = i + 1 + c := ⟨n - (i + 1), by omega⟩
  have hc : 0 < 2 ^ c := Nat.two_pow_pos c
  have e : 2 ^ (i + 1 + c) - 1 = 2 ^ i * (2 * 2 ^ c - 1) + (2 ^ i - 1) := by
    rw [Nat.pow_add, Nat.pow_succ, Nat.mul_sub, Nat.mul_assoc]
    have h3 : 2 ^ i ≤ 2 ^ i * (2 * 2 ^ c) := Nat.le_mul_of_pos_right _ (by omega)
    omega
  rw [e, Nat.mul_add_div hp, Nat.div_eq_of_lt (by omega)]
  simp only [Nat.add_zero, decide_eq_true_eq]
  omega
/-! ### Lexicographic order -/
def lessL : List Int → List Int → Bool
  | [], [] => false
  | [], _ :: _ => true
  | _ :: _, [] => false
  | x :: a, y :: b => if x ≠ y then decide (x < y) else lessL a b
theorem lessL_irr : ∀ a, lessL a a = false
  | [] => rfl
  | x :: a => by simp [lessL, lessL_irr a]
theorem lessL_tri : ∀ a b, a = b ∨ lessL a b = true ∨ lessL b a = true
  | [], [] => .inl rfl
  | [], _ :: _ => .inr (.inl rfl)
  | _ :: _, [] => .inr (.inr rfl)
  | x :: a, y :: b => by
    by_cases e : x = y
    · subst e
      rcases lessL_tri a b with h | h | h
      · exact .inl (by rw [h])
      · exact .inr (.inl (by simp [lessL, h]))
      · exact .inr (.inr (by simp [lessL, h]))
    · rcases Int.lt_trichotomy x y with h | h | h
      · exact .inr (.inl (by simp [lessL, e, h]))
      · exact absurd h e
      · exact .inr (.inr (by simp [lessL, Ne.symm e, h]))
theorem lessL_trans : ∀ a b c, lessL a b = true → lessL b c = true → lessL a c = true
  | [], [], _, h, _ => by cases h
  | [], _ :: _, [], _, h => by cases h
  | [], _ :: _, _ :: _, _, _ => rfl
  | _ :: _, [], _, h, _ => by cases h
  | _ :: _, _ :: _, [], _, h => by cases h
  | x :: a, y :: b, z :: c, h1, h2 => by
    unfold lessL at h1 h2 ⊢
    by_cases e1 : x = y
    · subst e1
      by_cases e2 : x = z
      · subst e2
        simp at h1 h2 ⊢
        exact lessL_trans a b c h1 h2
      · simpa [e2] using h2
    · by_cases e2 : y = z
      · subst e2
        simpa [e1] using h1
      · simp only [ne_eq, e1, e2, not_false_iff, if_true, decide_eq_true_eq] at h1 h2
        have : x ≠ z := by omega
        simp only [ne_eq, this, not_false_iff, if_true, decide_eq_true_eq]
        omega
theorem lessL_asymm {a b : List Int} (h : lessL a b = true) : lessL b a = false := by
  cases h2 : lessL b a with
  | false => rfl
  | true => have := lessL_trans a b a h h2; rw [lessL_irr] at this; cases this
/-- Lists that agree up to an element that only the one has, where the other one goes on. -/
theorem lessL_of : ∀ {l l' : List Int}, l.Pairwise (· < ·) → l'.Pairwise (· < ·) → ∀ x, x ∈ l → x ∉ l' → (∀ y, y < x → (y ∈ l ↔ y ∈ l')) → (∃ w ∈ l', x < w) → lessL l l' = true
  | [], _, _, _, x, h, _, _, _ => by cases h
  | _ :: _, [], _, _, _, _, _, _, ⟨_, h, _⟩ => by cases h
  | a :: t, b :: t', h1, h2, x, hx, hx', hag, ⟨w, hw, hxw⟩ => by
    rw [List.pairwise_cons] at h1 h2
    have hxa : a ≤ x := by
      rcases List.mem_cons.1 hx with rfl | h
      · exact Int.le_refl _
      · exact Int.le_of_lt (h1.1 x h)
    unfold lessL
    by_cases e : a = b
    · subst e
      rw [if_neg (by simp)]
      have hxa' : a < x := by
        rcases Int.lt_or_eq_of_le hxa with h | h
        · exact h
        · subst h; exact absurd (List.mem_cons_self ..) hx'
      have hxt : x ∈ t := by
        rcases List.mem_cons.1 hx with rfl | h
        · omega
        · exact h
      have hwt : w ∈ t' := by
        rcases List.mem_cons.1 hw with rfl | h
        · omega
        · exact h
      refine lessL_of h1.2 h2.2 x hxt (fun h => hx' (List.mem_cons_of_mem _ h)) (fun y hy => ?_) ⟨w, hwt, hxw⟩
      have := hag y hy
      constructor
      · intro hy'
        have hya : a < y := h1.1 y hy'
        rcases List.mem_cons.1 (this.1 (List.mem_cons_of_mem _ hy')) with rfl | h
        · omega
        · exact h
      · intro hy'
        have hya : a < y := h2.1 y hy'
        rcases List.mem_cons.1 (this.2 (List.mem_cons_of_mem _ hy')) with rfl | h
        · omega
        · exact h
    · rw [if_pos e]
      have : a < b := by
        rcases Int.lt_trichotomy a b with h | h | h
        · exact h
        · exact absurd h e
        · have hb := (hag b (by omega)).2 (List.mem_cons_self ..)
          rcases List.mem_cons.1 hb with rfl | hb
          · omega
          · have := h1.1 b hb; omega
      simpa using this
/-! ### The best explanations -/
def Opt (r : Row) (S : Nat → Bool) : Prop := E r S ∧ ∀ S', E r S' → totR r S ≤ totR r S'
/-- A list of a best explanation. -/
def OptL (r : Row) (l : List Int) : Prop := ∃ S, Opt r S ∧ l = lst r.lots.length S
theorem OptL.inc {r : Row} {l : List Int} (h : OptL r l) : l.Pairwise (· < ·) := by obtain ⟨S, _, rfl⟩ := h; exact lst_inc _ _
/-- Of two best explanations the one with the first lot that only it has comes first. -/
theorem opt_less {r : Row} (hr : RowOk r) {S T : Nat → Bool} (hS : Opt r S) (hT : Opt r T) {i : Nat} (hi : i < r.lots.length) (hag : ∀ j, j < i → S j = T j) (h1 : S i = true) (h2 : T i = false) :
    lessL (lst r.lots.length S) (lst r.lots.length T) = true := by
  refine lessL_of (lst_inc _ _) (lst_inc _ _) (i : Int) (mem_lst_nat.2 ⟨hi, h1⟩) (fun h => by rw [mem_lst_nat, h2] at h; cases h.2) (fun y hy => ?_) ?_
  · rw [mem_lst, mem_lst]
    constructor
    · rintro ⟨j, a, b, rfl⟩; exact ⟨j, a, by rw [← hag j (by omega)]; exact b, rfl⟩
    · rintro ⟨j, a, b, rfl⟩; exact ⟨j, a, by rw [hag j (by omega)]; exact b, rfl⟩
  · -- otherwise T is a part of S without i
    refine Classical.byContradiction fun hno => ?_
    have hsub : ∀ j, j < r.lots.length → T j = true → del S i j = true := by
      intro j hj ht
      rcases Nat.lt_trichotomy j i with h | h | h
      · unfold del; rw [if_neg (by omega), hag j h]; exact ht
      · subst h; rw [h2] at ht; cases ht
      · exact absurd ⟨(j : Int), mem_lst_nat.2 ⟨hj, ht⟩, by omega⟩ hno
    have h3 := tot_mono (z := zOf r) (fun i => by have := zOf_pos hr i; omega) hsub
    have h4 := tot_del (z := zOf r) h1 hi
    have h5 := hS.2 T hT.1
    have := zOf_pos hr i
    unfold totR at h5
    omega
end Go.Px.Try

/-! Pm4 -/
namespace Go.Px.Try
open Go Go.Proofs Go.Px
def bstep1 (r : Row) (out : List (List Int)) (l : List Int) : List (List Int) := if out ≠ [] ∧ callsL r l < callsL r (out.headD []) then [] else out
def bstepP (r : Row) (out : List (List Int)) (l : List Int) : List (List Int) :=
  if explL r l then (if bstep1 r out l = [] ∨ callsL r l = callsL r ((bstep1 r out l).headD []) then bstep1 r out l ++ [l] else bstep1 r out l) else out
def bestGo (r : Row) : Nat → List (List Int)
  | 0 => []
  | b + 1 => bstepP r (bestGo r b) (listed b r.lots.length)
/-- What is found of the first b lists. -/
structure BestInv (r : Row) (b : Nat) (out : List (List Int)) : Prop where
  sub : ∀ l ∈ out, (∃ c, c < b ∧ l = listed c r.lots.length) ∧ explL r l ∧ ∀ c, c < b → explL r (listed c r.lots.length) → callsL r l ≤ callsL r (listed c r.lots.length)
  all : ∀ c, c < b → explL r (listed c r.lots.length) → (∀ d, d < b → explL r (listed d r.lots.length) → callsL r (listed c r.lots.length) ≤ callsL r (listed d r.lots.length)) → listed c r.lots.length ∈ out
  ne : ∀ c, c < b → explL r (listed c r.lots.length) → out ≠ []
theorem headD_mem {α : Type} {l : List α} (h : l ≠ []) (d : α) : l.headD d ∈ l := by cases l with
  | nil => exact absurd rfl h
  | cons x l => simp
theorem bestGo_inv (r : Row) : ∀ b, BestInv r b (bestGo r b)
  | 0 => ⟨fun l h => (by cases h), fun c h => (by omega), fun c h => (by omega)⟩
  | b + 1 => by
    have ih := bestGo_inv r b
    show BestInv r (b + 1) (bstepP r (bestGo r b) (listed b r.lots.length))
    generalize bestGo r b = out at ih ⊢
    obtain ⟨hsub, hall, hne⟩ := ih
    unfold bstepP
    by_cases hex : explL r (listed b r.lots.length)
    case neg =>
      rw [if_neg hex]
      refine ⟨fun l hl => ?_, fun c hc he hm => ?_, fun c hc he => ?_⟩
      · obtain ⟨⟨c, h1, h2⟩, h3, h4⟩ := hsub l hl
        refine ⟨⟨c, by omega, h2⟩, h3, fun d hd he => ?_⟩
        by_cases e : d = b
        · subst e; exact absurd he hex
        · exact h4 d (by omega) he
      · by_cases e : c = b
        · subst e; exact absurd he hex
        · exact hall c (by omega) he fun d hd => hm d (by omega)
      · by_cases e : c = b
        · subst e; exact absurd he hex
        · exact hne c (by omega) he
    rw [if_pos hex]
    by_cases h1 : out ≠ [] ∧ callsL r (listed b r.lots.length) < callsL r (out.headD [])
    · have e1 : bstep1 r out (listed b r.lots.length) = [] := if_pos h1
      rw [e1, if_pos (.inl rfl), List.nil_append]
      have hlow : ∀ d, d < b → explL r (listed d r.lots.length) → callsL r (listed b r.lots.length) ≤ callsL r (listed d r.lots.length) := fun d hd he => by
        have := (hsub _ (headD_mem h1.1 [])).2.2 d hd he
        have := h1.2
        omega
      refine ⟨fun l hl => ?_, fun c hc he hm => ?_, fun _ _ _ => by simp⟩
      · rw [List.mem_singleton] at hl
        subst hl
        refine ⟨⟨b, by omega, rfl⟩, hex, fun d hd he => ?_⟩
        by_cases e : d = b
        · subst e; exact Int.le_refl _
        · exact hlow d (by omega) he
      · by_cases e : c = b
        · subst e; simp
        · have h3 := hm b (by omega) hex
          obtain ⟨⟨c', h4, h5⟩, h6, h7⟩ := hsub _ (headD_mem h1.1 [])
          have := h7 c (by omega) he
          have := h1.2
          omega
    · have e1 : bstep1 r out (listed b r.lots.length) = out := if_neg h1
      rw [e1]
      by_cases h2 : out = [] ∨ callsL r (listed b r.lots.length) = callsL r (out.headD [])
      · rw [if_pos h2]
        have hlow : ∀ d, d < b → explL r (listed d r.lots.length) → callsL r (listed b r.lots.length) ≤ callsL r (listed d r.lots.length) := fun d hd he => by
          rcases h2 with h2 | h2
          · exact absurd h2 (hne d hd he)
          · have := (hsub _ (headD_mem (hne d hd he) [])).2.2 d hd he
            omega
        refine ⟨fun l hl => ?_, fun c hc he hm => ?_, fun _ _ _ => by simp⟩
        · rcases List.mem_append.1 hl with hl2 | hl
          · obtain ⟨⟨c, h3, h4⟩, h5, h6⟩ := hsub l hl2
            refine ⟨⟨c, by omega, h4⟩, h5, fun d hd he => ?_⟩
            by_cases e : d = b
            · subst e
              have hne' : out ≠ [] := List.ne_nil_of_mem hl2
              obtain ⟨⟨c', a1, a2⟩, a3, a4⟩ := hsub _ (headD_mem hne' [])
              rcases h2 with h2 | h2
              · exact absurd h2 hne'
              · rw [h2, a2]; exact h6 c' a1 (a2 ▸ a3)
            · exact h6 d (by omega) he
          · rw [List.mem_singleton] at hl
            subst hl
            refine ⟨⟨b, by omega, rfl⟩, hex, fun d hd he => ?_⟩
            by_cases e : d = b
            · subst e; exact Int.le_refl _
            · exact hlow d (by omega) he
        · by_cases e : c = b
          · subst e; simp
          · exact List.mem_append_left _ (hall c (by omega) he fun d hd => hm d (by omega))
      · rw [if_neg h2]
        have hne' : out ≠ [] := fun e => h2 (.inl e)
        have hgt : callsL r (out.headD []) < callsL r (listed b r.lots.length) := by
          have a1 : ¬ callsL r (listed b r.lots.length) < callsL r (out.headD []) := fun h => h1 ⟨hne', h⟩
          have a2 : ¬ callsL r (listed b r.lots.length) = callsL r (out.headD []) := fun h => h2 (.inr h)
          omega
        obtain ⟨⟨c', a1, a2⟩, a3, a4⟩ := hsub _ (headD_mem hne' [])
        refine ⟨fun l hl => ?_, fun c hc he hm => ?_, fun _ _ _ => hne'⟩
        · obtain ⟨⟨c, h3, h4⟩, h5, h6⟩ := hsub l hl
          refine ⟨⟨c, by omega, h4⟩, h5, fun d hd he => ?_⟩
          by_cases e : d = b
          · subst e
            have := h6 c' a1 (a2 ▸ a3)
            rw [← a2] at this
            omega
          · exact h6 d (by omega) he
        · by_cases e : c = b
          · subst e
            have := hm c' (by omega) (a2 ▸ a3)
            rw [← a2] at this
            omega
          · exact hall c (by omega) he fun d hd => hm d (by omega)
/-- The first one is put first. -/
def swapP (out : List (List Int)) (i : Nat) : List (List Int) := if lessL (out.getD i []) (out.getD 0 []) = true then (out.set 0 (out.getD i [])).set i (out.getD 0 []) else out
def swapGo (out : List (List Int)) : Nat → List (List Int)
  | 0 => out
  | i + 1 => swapP (swapGo out i) (i + 1)
def bestL (r : Row) : List (List Int) := swapGo (bestGo r (2 ^ r.lots.length)) ((bestGo r (2 ^ r.lots.length)).length - 1)
theorem swapP_len (out : List (List Int)) (i : Nat) : (swapP out i).length = out.length := by unfold swapP; split <;> simp
theorem swapGo_len (out : List (List Int)) : ∀ i, (swapGo out i).length = out.length
  | 0 => rfl
  | i + 1 => by rw [swapGo, swapP_len, swapGo_len out i]
theorem swapP_mem {out : List (List Int)} {i : Nat} (hi : i < out.length) (h0 : 0 < i) (l : List Int) : l ∈ swapP out i ↔ l ∈ out := by
  unfold swapP
  split
  · have e0 : out.getD 0 [] = out[0] := by rw [List.getD_eq_getElem?_getD, List.getElem?_eq_getElem (by omega)]; rfl
    have ei : out.getD i [] = out[i] := by rw [List.getD_eq_getElem?_getD, List.getElem?_eq_getElem hi]; rfl
    rw [e0, ei]
    constructor
    · intro h
      rcases List.mem_or_eq_of_mem_set h with h | rfl
      · rcases List.mem_or_eq_of_mem_set h with h | rfl
        · exact h
        · exact List.getElem_mem _
      · exact List.getElem_mem _
    · intro h
      obtain ⟨j, hj, rfl⟩ := List.getElem_of_mem h
      by_cases h1 : j = 0
      · subst h1
        exact List.mem_iff_getElem.2 ⟨i, by simpa using hi, by simp⟩
      · by_cases h2 : j = i
        · subst h2
          exact List.mem_iff_getElem.2 ⟨0, by simp; omega, by rw [List.getElem_set, if_neg (by omega), List.getElem_set, if_pos rfl]⟩
        · have : ((out.set 0 out[i]).set i out[0])[j]'(by simpa using hj) = out[j] := by rw [List.getElem_set, if_neg (by omega), List.getElem_set, if_neg (by omega)]
          rw [← this]; exact List.getElem_mem _
  · exact Iff.rfl
theorem swapGo_mem {out : List (List Int)} : ∀ i, i < out.length → ∀ l, l ∈ swapGo out i ↔ l ∈ out
  | 0, _, l => Iff.rfl
  | i + 1, h, l => by rw [swapGo, swapP_mem (by rw [swapGo_len]; exact h) (by omega), swapGo_mem i (by omega)]
theorem swapP_at {out : List (List Int)} {i : Nat} (hi : i < out.length) (h0 : 0 < i) : ((swapP out i).getD 0 [] = out.getD 0 [] ∨ lessL ((swapP out i).getD 0 []) (out.getD 0 []) = true) ∧ lessL ((swapP out i).getD i []) ((swapP out i).getD 0 []) = false ∧ ∀ j, j ≠ 0 → j ≠ i → (swapP out i).getD j [] = out.getD j [] := by
  unfold swapP
  split
  · rename_i h
    have g0 : ((out.set 0 (out.getD i [])).set i (out.getD 0 [])).getD 0 [] = out.getD i [] := by
      rw [List.getD_eq_getElem?_getD, List.getElem?_set_ne (by omega), List.getElem?_set_self (by omega)]; rfl
    have gi : ((out.set 0 (out.getD i [])).set i (out.getD 0 [])).getD i [] = out.getD 0 [] := by
      rw [List.getD_eq_getElem?_getD, List.getElem?_set_self (by simpa using hi)]; rfl
    rw [g0, gi]
    refine ⟨.inr h, lessL_asymm h, fun j h1 h2 => ?_⟩
    rw [List.getD_eq_getElem?_getD, List.getElem?_set_ne (by omega), List.getElem?_set_ne (by omega), ← List.getD_eq_getElem?_getD]
  · rename_i h
    exact ⟨.inl rfl, by simpa using h, fun j _ _ => rfl⟩
theorem swapGo_head {out : List (List Int)} : ∀ i, i < out.length → ∀ j, j ≤ i → lessL ((swapGo out i).getD j []) ((swapGo out i).getD 0 []) = false
  | 0, _, j, hj => by
    have : j = 0 := by omega
    subst this; exact lessL_irr _
  | i + 1, h, j, hj => by
    rw [swapGo]
    obtain ⟨h1, h2, h3⟩ := swapP_at (out := swapGo out i) (i := i + 1) (by rw [swapGo_len]; exact h) (by omega)
    by_cases e0 : j = 0
    · subst e0; exact lessL_irr _
    by_cases e : j = i + 1
    · subst e; exact h2
    · rw [h3 j e0 e]
      have ih := swapGo_head (out := out) i (by omega) j (by omega)
      rcases h1 with h1 | h1
      · rw [h1]; exact ih
      · cases hc : lessL ((swapGo out i).getD j []) ((swapP (swapGo out i) (i + 1)).getD 0 []) with
        | false => rfl
        | true => rw [lessL_trans _ _ _ hc h1] at ih; cases ih
theorem listed_opt {r : Row} {b : Nat} : explL r (listed b r.lots.length) ↔ E r (bset b) := explL_lst
theorem mem_bestGo {r : Row} {l : List Int} : l ∈ bestGo r (2 ^ r.lots.length) ↔ OptL r l := by
  have inv := bestGo_inv r (2 ^ r.lots.length)
  have tot_b : ∀ b, callsL r (listed b r.lots.length) = totR r (bset b) := fun b => callsL_lst r (bset b) _
  have any : ∀ S, E r S → ∃ b, b < 2 ^ r.lots.length ∧ explL r (listed b r.lots.length) ∧ callsL r (listed b r.lots.length) = totR r S ∧ listed b r.lots.length = lst r.lots.length S := fun S hS => by
    obtain ⟨b, h1, h2⟩ := exists_bits S r.lots.length
    have e : listed b r.lots.length = lst r.lots.length S := lst_congr h2
    exact ⟨b, h1, by rw [e, explL_lst]; exact hS, by rw [e, callsL_lst]; rfl, e⟩
  constructor
  · intro h
    obtain ⟨⟨b, h1, rfl⟩, h2, h3⟩ := inv.sub l h
    refine ⟨bset b, ⟨listed_opt.1 h2, fun S' hS' => ?_⟩, rfl⟩
    obtain ⟨c, a1, a2, a3, _⟩ := any S' hS'
    have := h3 c a1 a2
    rw [tot_b, a3] at this
    exact this
  · rintro ⟨S, ⟨h1, h2⟩, rfl⟩
    obtain ⟨b, a1, a2, a3, a4⟩ := any S h1
    rw [← a4]
    refine inv.all b a1 a2 fun d hd he => ?_
    rw [a3, tot_b]
    exact h2 _ (listed_opt.1 he)
theorem bestGo_ne {r : Row} {S : Nat → Bool} (h : E r S) : bestGo r (2 ^ r.lots.length) ≠ [] := by
  obtain ⟨b, h1, h2⟩ := exists_bits S r.lots.length
  refine (bestGo_inv r (2 ^ r.lots.length)).ne b h1 ?_
  rw [show listed b r.lots.length = lst r.lots.length S from lst_congr h2, explL_lst]; exact h
/-- All best explanations, the first one first. -/
theorem bestL_spec {r : Row} {S : Nat → Bool} (h : E r S) : bestL r ≠ [] ∧ (∀ l, l ∈ bestL r ↔ OptL r l) ∧ ∀ l, OptL r l → lessL l ((bestL r).headD []) = false := by
  have hne := bestGo_ne h
  have hlen : 0 < (bestGo r (2 ^ r.lots.length)).length := List.length_pos_iff.2 hne
  have hmem : ∀ l, l ∈ bestL r ↔ OptL r l := fun l => by
    unfold bestL
    rw [swapGo_mem _ (by omega), mem_bestGo]
  have hl : (bestL r).length = (bestGo r (2 ^ r.lots.length)).length := swapGo_len _ _
  refine ⟨List.length_pos_iff.1 (by omega), hmem, fun l hl' => ?_⟩
  obtain ⟨j, hj, rfl⟩ := List.getElem_of_mem ((hmem l).2 hl')
  have := swapGo_head (out := bestGo r (2 ^ r.lots.length)) ((bestGo r (2 ^ r.lots.length)).length - 1) (by omega) j (by omega)
  have e1 : (swapGo (bestGo r (2 ^ r.lots.length)) ((bestGo r (2 ^ r.lots.length)).length - 1)).getD j [] = (bestL r)[j] := by
    show (bestL r).getD j [] = _
    rw [List.getD_eq_getElem?_getD, List.getElem?_eq_getElem hj]; rfl
  rw [e1] at this
  have e2 : (bestL r).headD [] = (swapGo (bestGo r (2 ^ r.lots.length)) ((bestGo r (2 ^ r.lots.length)).length - 1)).getD 0 [] := by
    show (bestL r).headD [] = (bestL r).getD 0 []
    cases bestL r <;> rfl
  rw [e2]; exact this
end Go.Px.Try

/-! Pm5 -/
namespace Go.Px.Try
open Go Go.Proofs Go.Px
def noB : Nat → Bool := fun _ => false
def onlyB (i : Nat) : Nat → Bool := fun j => decide (j = i)
theorem inL_nil (i : Nat) : inL [] i = false := rfl
/-- How many pots are called back. -/
def leastP (r : Row) : Int × Bool := costP r [] noB
theorem leastP_ok {r : Row} (h : RowOk r) : ((leastP r).2 = true ↔ ∃ S, E r S) ∧ ((leastP r).2 = true → IsMin r (inL []) noB (leastP r).1) := by
  obtain ⟨h1, h2⟩ := cost_ok h (wi := []) (B := noB) List.nodup_nil (fun i hi => by cases hi) (fun i hi => by cases hi)
  refine ⟨⟨fun e => ?_, fun ⟨S, hS⟩ => ?_⟩, h1⟩
  · obtain ⟨S, _, _, hE, _⟩ := (h1 e).att
    exact ⟨S, hE⟩
  · cases e : (leastP r).2 with
    | true => rfl
    | false => exact absurd hS (h2 e S (fun i hi => by cases hi) (fun i _ => rfl))
theorem opt_iff {r : Row} {v : Int} (h : IsMin r (inL []) noB v) {S : Nat → Bool} : Opt r S ↔ E r S ∧ totR r S = v := by
  constructor
  · rintro ⟨h1, h2⟩
    obtain ⟨S', _, _, h3, h4⟩ := h.att
    have := h2 S' h3
    have := h.low S (fun i hi => by cases hi) (fun i _ => rfl) h1
    exact ⟨h1, by omega⟩
  · rintro ⟨h1, rfl⟩
    exact ⟨h1, fun S' hS' => h.low S' (fun i hi => by cases hi) (fun i _ => rfl) hS'⟩
theorem head_opt {r : Row} {S : Nat → Bool} (h : E r S) : OptL r ((bestL r).headD []) := by
  obtain ⟨h1, h2, _⟩ := bestL_spec h
  exact (h2 _).1 (headD_mem h1 [])
theorem least_eq {r : Row} (h : RowOk r) (he : (leastP r).2 = true) : callsL r ((bestL r).headD []) = (leastP r).1 := by
  obtain ⟨h1, h2⟩ := leastP_ok h
  obtain ⟨S, hS⟩ := h1.1 he
  obtain ⟨T, hT, e⟩ := head_opt hS
  rw [e, callsL_lst]
  exact ((opt_iff (h2 he)).1 hT).2
theorem full_iff {r : Row} : explL r (listed (2 ^ r.lots.length - 1) r.lots.length) ↔ ∃ S, E r S := by
  constructor
  · intro h; exact ⟨_, explL_lst.1 h⟩
  · rintro ⟨S, hS⟩
    refine explL_lst.2 fun p hp => ?_
    obtain ⟨i, h1, _, h3⟩ := hS p hp
    exact ⟨i, h1, bset_full _ _ h1, h3⟩
/-- The best explanation, lot by lot. -/
def woB (i : Nat) (out : List Nat) : Nat → Bool := fun j => decide (j < i) && !out.contains j
def lotsGo (r : Row) (opt : Int) : Nat → List Nat
  | 0 => []
  | i + 1 => if (costP r (lotsGo r opt i ++ [i]) (woB i (lotsGo r opt i))).2 = true ∧ (costP r (lotsGo r opt i ++ [i]) (woB i (lotsGo r opt i))).1 = opt then lotsGo r opt i ++ [i] else lotsGo r opt i
theorem lotsGo_eq {r : Row} (h : RowOk r) {opt : Int} (ho : IsMin r (inL []) noB opt) {T : Nat → Bool} (hT : Opt r T) (hmin : ∀ l, OptL r l → lessL l (lst r.lots.length T) = false) :
    ∀ i, i ≤ r.lots.length → lotsGo r opt i = (List.range i).filter T
  | 0, _ => rfl
  | i + 1, hi => by
    have ih := lotsGo_eq h ho hT hmin i (by omega)
    rw [lotsGo, List.range_succ, List.filter_append, ih]
    have hmem : ∀ j, j ∈ (List.range i).filter T ↔ j < i ∧ T j = true := fun j => by simp
    have hnd : ((List.range i).filter T ++ [i]).Nodup := by
      refine List.nodup_append.2 ⟨List.Nodup.sublist List.filter_sublist List.nodup_range, by simp, ?_⟩
      intro a ha b hb
      have := ((hmem a).1 ha).1
      simp at hb; omega
    have hlt : ∀ j ∈ (List.range i).filter T ++ [i], j < r.lots.length := fun j hj => by
      rcases List.mem_append.1 hj with hj | hj
      · have := ((hmem j).1 hj).1; omega
      · simp at hj; omega
    have hwo : ∀ j ∈ (List.range i).filter T ++ [i], woB i ((List.range i).filter T) j = false := fun j hj => by
      unfold woB
      rcases List.mem_append.1 hj with hj | hj
      · rw [List.contains_iff_mem.2 hj]; simp
      · simp at hj; subst hj; simp
    obtain ⟨c1, c2⟩ := cost_ok h hnd hlt hwo
    have hTi : inL ((List.range i).filter T ++ [i]) = fun j => (decide (j < i) && T j) || decide (j = i) := by
      funext j
      cases e : (decide (j < i) && T j) || decide (j = i) with
      | true =>
        refine inL_iff.2 ?_
        simp at e
        rcases e with ⟨a, b⟩ | e
        · exact List.mem_append_left _ ((hmem j).2 ⟨a, b⟩)
        · subst e; simp
      | false =>
        cases e2 : inL ((List.range i).filter T ++ [i]) j with
        | false => rfl
        | true =>
          have := inL_iff.1 e2
          rcases List.mem_append.1 this with hj | hj
          · have := (hmem j).1 hj; simp [this] at e
          · simp at hj; subst hj; simp at e
    have hwoT : ∀ j, woB i ((List.range i).filter T) j = (decide (j < i) && !T j) := fun j => by
      unfold woB
      by_cases hj : j < i
      · cases hTj : T j with
        | true => rw [List.contains_iff_mem.2 ((hmem j).2 ⟨hj, hTj⟩)]
        | false =>
          have : ¬ j ∈ (List.range i).filter T := fun h => by rw [hmem, hTj] at h; cases h.2
          have : ((List.range i).filter T).contains j = false := by
            cases e : ((List.range i).filter T).contains j with
            | false => rfl
            | true => exact absurd (List.contains_iff_mem.1 e) this
          rw [this]
      · simp [hj]
    by_cases hc : (costP r ((List.range i).filter T ++ [i]) (woB i ((List.range i).filter T))).2 = true ∧ (costP r ((List.range i).filter T ++ [i]) (woB i ((List.range i).filter T))).1 = opt
    · rw [if_pos hc]
      have hm := c1 hc.1
      rw [hc.2] at hm
      obtain ⟨S, s1, s2, s3, s4⟩ := hm.att
      have hS : Opt r S := (opt_iff ho).2 ⟨s3, s4⟩
      have hag : ∀ j, j < i → S j = T j := fun j hj => by
        cases hTj : T j with
        | true => exact s1 j (by rw [hTi]; simp [hj, hTj])
        | false =>
          cases hSj : S j with
          | false => rfl
          | true => have := (s2 j hSj).1; rw [hwoT] at this; simp [hj, hTj] at this
      have hSi : S i = true := s1 i (by rw [hTi]; simp)
      have hTi' : T i = true := by
        cases e : T i with
        | true => rfl
        | false =>
          have := opt_less h hS hT (by omega) hag hSi e
          rw [hmin _ ⟨S, hS, rfl⟩] at this
          cases this
      simp [hTi']
    · rw [if_neg hc]
      have hTi' : T i = false := by
        cases e : T i with
        | false => rfl
        | true =>
          refine absurd ?_ hc
          have a1 : ∀ j, inL ((List.range i).filter T ++ [i]) j = true → T j = true := fun j hj => by
            rw [hTi] at hj
            simp at hj
            rcases hj with ⟨_, hj⟩ | rfl
            · exact hj
            · exact e
          have a2 : ∀ j, T j = true → woB i ((List.range i).filter T) j = false := fun j hj => by rw [hwoT, hj]; simp
          have a3 : (costP r ((List.range i).filter T ++ [i]) (woB i ((List.range i).filter T))).2 = true := by
            cases e2 : (costP r ((List.range i).filter T ++ [i]) (woB i ((List.range i).filter T))).2 with
            | true => rfl
            | false => exact absurd hT.1 (c2 e2 T a1 a2)
          have hm := c1 a3
          refine ⟨a3, ?_⟩
          have h1 := hm.low T a1 a2 hT.1
          obtain ⟨S, _, _, s3, s4⟩ := hm.att
          have h2 := ho.low S (fun i hi => by cases hi) (fun i _ => rfl) s3
          have h3 := ((opt_iff ho).1 hT).2
          omega
      simp [hTi']
theorem lots_eq {r : Row} (h : RowOk r) (he : (leastP r).2 = true) : (lotsGo r (leastP r).1 r.lots.length).map (fun i : Nat => (i : Int)) = (bestL r).headD [] := by
  obtain ⟨h1, h2⟩ := leastP_ok h
  obtain ⟨S, hS⟩ := h1.1 he
  obtain ⟨T, hT, e⟩ := head_opt hS
  obtain ⟨_, _, h3⟩ := bestL_spec hS
  rw [lotsGo_eq h (h2 he) hT (fun l hl => by rw [← e]; exact h3 l hl) _ (Nat.le_refl _), e]
  rfl
/-- When a lot is to blame. -/
def blameP (r : Row) (opt : Int) (i : Nat) : Int :=
  if (costP r [] (onlyB i)).2 = false ∨ opt < (costP r [] (onlyB i)).1 then 2
  else if (costP r [i] noB).2 = false ∨ opt < (costP r [i] noB).1 then 0 else 1
def manyL (all : List (List Int)) (x : Int) : Nat := (all.map fun l => l.count x).sum
def blameR (all : List (List Int)) (x : Int) : Int := if manyL all x = 0 then 0 else if manyL all x = all.length then 2 else 1
theorem count_le {l : List Int} (h : l.Pairwise (· < ·)) (x : Int) : l.count x = if x ∈ l then 1 else 0 := by
  have hn : l.Nodup := h.imp fun {a b} h => by omega
  split
  · rename_i hx; exact hn.count.trans (if_pos hx)
  · rename_i hx; exact List.count_eq_zero.2 hx
theorem manyL_facts (x : Int) : ∀ (all : List (List Int)), (∀ l ∈ all, l.Pairwise (· < ·)) → manyL all x ≤ all.length ∧ (manyL all x = 0 ↔ ∀ l ∈ all, x ∉ l) ∧ (manyL all x = all.length ↔ ∀ l ∈ all, x ∈ l)
  | [], _ => by simp [manyL]
  | l :: all, h => by
    obtain ⟨h1, h2, h3⟩ := manyL_facts x all fun y hy => h y (by simp [hy])
    have hc := count_le (h l (by simp)) x
    have e : manyL (l :: all) x = l.count x + manyL all x := by simp [manyL]
    rw [e, hc, List.length_cons, List.forall_mem_cons, List.forall_mem_cons, ← h2, ← h3]
    by_cases hx : x ∈ l
    · rw [if_pos hx]
      exact ⟨by omega, ⟨fun h => by omega, fun h => absurd hx h.1⟩, ⟨fun h => ⟨hx, by omega⟩, fun h => by have := h.2; omega⟩⟩
    · rw [if_neg hx]
      exact ⟨by omega, ⟨fun h => ⟨hx, by omega⟩, fun h => by have := h.2; omega⟩, ⟨fun h => by omega, fun h => absurd h.1 hx⟩⟩
theorem blame_facts {r : Row} (h : RowOk r) (he : (leastP r).2 = true) {i : Nat} (hi : i < r.lots.length) :
    (((costP r [] (onlyB i)).2 = false ∨ (leastP r).1 < (costP r [] (onlyB i)).1) ↔ ∀ S, Opt r S → S i = true) ∧
    (((costP r [i] noB).2 = false ∨ (leastP r).1 < (costP r [i] noB).1) ↔ ∀ S, Opt r S → S i = false) := by
  obtain ⟨h1, h2⟩ := leastP_ok h
  have ho := h2 he
  constructor
  · obtain ⟨c1, c2⟩ := cost_ok h (wi := []) (B := onlyB i) List.nodup_nil (fun i hi => by cases hi) (fun i hi => by cases hi)
    constructor
    · intro hc S hS
      cases e : S i with
      | true => rfl
      | false =>
        have a2 : ∀ j, S j = true → onlyB i j = false := fun j hj => by
          unfold onlyB; refine decide_eq_false fun e2 => ?_
          subst e2; rw [e] at hj; cases hj
        rcases hc with hc | hc
        · exact absurd hS.1 (c2 hc S (fun j hj => by cases hj) a2)
        · cases e2 : (costP r [] (onlyB i)).2 with
          | false => exact absurd hS.1 (c2 e2 S (fun j hj => by cases hj) a2)
          | true =>
            have := (c1 e2).low S (fun j hj => by cases hj) a2 hS.1
            have := ((opt_iff ho).1 hS).2
            omega
    · intro hall
      cases e2 : (costP r [] (onlyB i)).2 with
      | false => exact .inl rfl
      | true =>
        refine .inr (Int.not_le.1 fun hle => ?_)
        obtain ⟨S, s1, s2, s3, s4⟩ := (c1 e2).att
        have hlow := ho.low S (fun j hj => by cases hj) (fun _ _ => rfl) s3
        have hS : Opt r S := (opt_iff ho).2 ⟨s3, by omega⟩
        have := (s2 i (hall S hS)).1
        simp [onlyB] at this
  · obtain ⟨c1, c2⟩ := cost_ok h (wi := [i]) (B := noB) (by simp) (fun j hj => by simp at hj; omega) (fun _ _ => rfl)
    constructor
    · intro hc S hS
      cases e : S i with
      | false => rfl
      | true =>
        have a1 : ∀ j, inL [i] j = true → S j = true := fun j hj => by
          have := inL_iff.1 hj; simp at this; subst this; exact e
        rcases hc with hc | hc
        · exact absurd hS.1 (c2 hc S a1 (fun _ _ => rfl))
        · cases e2 : (costP r [i] noB).2 with
          | false => exact absurd hS.1 (c2 e2 S a1 (fun _ _ => rfl))
          | true =>
            have := (c1 e2).low S a1 (fun _ _ => rfl) hS.1
            have := ((opt_iff ho).1 hS).2
            omega
    · intro hall
      cases e2 : (costP r [i] noB).2 with
      | false => exact .inl rfl
      | true =>
        refine .inr (Int.not_le.1 fun hle => ?_)
        obtain ⟨S, s1, s2, s3, s4⟩ := (c1 e2).att
        have hlow := ho.low S (fun j hj => by cases hj) (fun _ _ => rfl) s3
        have hS : Opt r S := (opt_iff ho).2 ⟨s3, by omega⟩
        have := s1 i (inL_iff.2 (by simp))
        rw [hall S hS] at this
        cases this
theorem blame_eq {r : Row} (h : RowOk r) (he : (leastP r).2 = true) {i : Nat} (hi : i < r.lots.length) : blameP r (leastP r).1 i = blameR (bestL r) i := by
  obtain ⟨f1, f2⟩ := blame_facts h he hi
  obtain ⟨S0, hS0⟩ := (leastP_ok h).1.1 he
  obtain ⟨b1, b2, _⟩ := bestL_spec hS0
  obtain ⟨m1, m2, m3⟩ := manyL_facts (i : Int) (bestL r) fun l hl => ((b2 l).1 hl).inc
  have e1 : (∀ S, Opt r S → S i = true) ↔ manyL (bestL r) i = (bestL r).length := by
    rw [m3]
    constructor
    · intro hh l hl
      obtain ⟨S, hS, rfl⟩ := (b2 l).1 hl
      exact mem_lst_nat.2 ⟨hi, hh S hS⟩
    · intro hh S hS
      exact (mem_lst_nat.1 (hh _ ((b2 _).2 ⟨S, hS, rfl⟩))).2
  have e2 : (∀ S, Opt r S → S i = false) ↔ manyL (bestL r) i = 0 := by
    rw [m2]
    constructor
    · intro hh l hl
      obtain ⟨S, hS, rfl⟩ := (b2 l).1 hl
      rw [mem_lst_nat, hh S hS]; simp
    · intro hh S hS
      cases e : S i with
      | false => rfl
      | true => exact absurd (mem_lst_nat.2 ⟨hi, e⟩) (hh _ ((b2 _).2 ⟨S, hS, rfl⟩))
  have hlen : 0 < (bestL r).length := List.length_pos_iff.2 b1
  unfold blameP blameR
  simp only [f1, f2, e1, e2]
  by_cases h0 : manyL (bestL r) i = 0
  · rw [if_pos h0, if_neg (by omega), if_pos h0]
  · by_cases h3 : manyL (bestL r) i = (bestL r).length
    · rw [if_pos h3, if_neg h0, if_pos h3]
    · rw [if_neg h3, if_neg h0, if_neg h0, if_neg h3]
end Go.Px.Try

/-! Pm6 -/
namespace Go.Px.Try
open Go Go.Proofs Go.Px
/-- What the first k prices are together; those of the weak pots that a lot has. -/
def sumTo (p : List Int) (k : Nat) : Int := tot (fun j => p.getD j 0) (fun _ => true) k
def csum (r : Row) (p : List Int) (i k : Nat) : Int := tot (fun j => p.getD j 0) (fun j => decide (Has (lotN r i) (r.weak.getD j 0))) k
theorem sumTo_succ (p : List Int) (k : Nat) : sumTo p (k + 1) = sumTo p k + p.getD k 0 := by simp [sumTo, tot]
theorem csum_succ (r : Row) (p : List Int) (i k : Nat) : csum r p i (k + 1) = csum r p i k + if Has (lotN r i) (r.weak.getD k 0) then p.getD k 0 else 0 := by simp [csum, tot]
/-- Right prices. -/
structure Right (r : Row) (p : List Int) : Prop where
  len : p.length = r.weak.length
  rng : ∀ x ∈ p, 0 ≤ x ∧ x ≤ 40
  lots : ∀ i, i < r.lots.length → csum r p i p.length ≤ zOf r i
theorem tot_add {z y : Nat → Int} {S : Nat → Bool} : ∀ n, tot (fun i => z i + y i) S n = tot z S n + tot y S n
  | 0 => rfl
  | n + 1 => by rw [tot, tot, tot, tot_add n]; split <;> omega
theorem tot_ge_one {z : Nat → Int} (hz : ∀ i, 0 ≤ z i) {S : Nat → Bool} {i : Nat} (hs : S i = true) : ∀ n, i < n → z i ≤ tot z S n
  | n + 1, hi => by
    rw [tot]
    have hn := hz n
    by_cases e : i = n
    · subst e
      have := tot_nn hz S i
      rw [hs]; simp; omega
    · have := tot_ge_one hz hs n (by omega)
      split <;> omega
theorem tot_le {z y : Nat → Int} {S : Nat → Bool} : ∀ n, (∀ i, i < n → z i ≤ y i) → tot z S n ≤ tot y S n
  | 0, _ => Int.le_refl _
  | n + 1, h => by
    have := tot_le (S := S) n fun i hi => h i (by omega)
    have := h n (by omega)
    rw [tot, tot]; split <;> omega
theorem price_nn {p : List Int} (h : ∀ x ∈ p, 0 ≤ x ∧ x ≤ 40) (k : Nat) : 0 ≤ p.getD k 0 := by
  rw [List.getD_eq_getElem?_getD]
  cases e : p[k]? with
  | none => exact Int.le_refl _
  | some x => exact (h x (List.mem_of_getElem? e)).1
/-- Prices of weak pots that a set of lots has are no more than what the lots pay. -/
theorem duality {r : Row} {p : List Int} (hp : ∀ x ∈ p, 0 ≤ x ∧ x ≤ 40) {S : Nat → Bool} (hS : E r S) : ∀ k, k ≤ r.weak.length → sumTo p k ≤ tot (fun i => csum r p i k) S r.lots.length
  | 0, _ => by
    show (0 : Int) ≤ _
    exact tot_nn (fun _ => Int.le_refl _) S _
  | k + 1, hk => by
    have ih := duality hp hS k (by omega)
    obtain ⟨i, h1, h2, h3⟩ := hS (r.weak.getD k 0) (by rw [List.getD_eq_getElem?_getD, List.getElem?_eq_getElem (by omega)]; exact List.getElem_mem _)
    have h4 : tot (fun i => csum r p i (k + 1)) S r.lots.length = tot (fun i => csum r p i k) S r.lots.length + tot (fun i => if Has (lotN r i) (r.weak.getD k 0) then p.getD k 0 else 0) S r.lots.length := by
      rw [← tot_add]
      congr 1
      funext i
      exact csum_succ r p i k
    have h5 := tot_ge_one (z := fun i => if Has (lotN r i) (r.weak.getD k 0) then p.getD k 0 else 0) (fun i => by have := price_nn hp k; split <;> omega) h2 r.lots.length h1
    simp only [if_pos h3] at h5
    rw [h4, sumTo_succ]
    omega
theorem Right.proves {r : Row} {p : List Int} (h : Right r p) {S : Nat → Bool} (hS : E r S) : sumTo p p.length ≤ totR r S := by
  have h1 := duality h.rng hS p.length (by rw [h.len]; exact Nat.le_refl _)
  have h2 := tot_le (z := fun i => csum r p i p.length) (y := zOf r) (S := S) r.lots.length h.lots
  unfold totR
  omega
/-- By how much more is called back up to each weak pot. -/
def pricesOf (l : List Int) (w : Nat) : List Int := (List.range w).map fun k => l.getD (k + 1) 0 - l.getD k 0
theorem pricesOf_getD (l : List Int) {w k : Nat} (h : k < w) : (pricesOf l w).getD k 0 = l.getD (k + 1) 0 - l.getD k 0 := by
  rw [pricesOf, List.getD_eq_getElem?_getD, List.getElem?_map, List.getElem?_range h]; rfl
def pricesP (r : Row) : List Int := match uptoR r r.weak noB with
  | some l => pricesOf l r.weak.length
  | none => []
theorem weak_inc {r : Row} (h : RowOk r) : ∀ a b, a < b → b < r.weak.length → r.weak.getD a 0 < r.weak.getD b 0 := inc_getD h.inc
theorem csum_tele {r : Row} (h : RowOk r) {l : List Int} (hl : UpOk r.lots.length (loN r) (hiN r) (zOf r) (fun j => r.weak.getD j 0) (fun i => !noB i) r.weak.length l) {i : Nat} (hi : i < r.lots.length) : ∀ K, K ≤ r.weak.length →
    csum r (pricesOf l r.weak.length) i K ≤ zOf r i ∧ (∀ k, K = k + 1 → Has (lotN r i) (r.weak.getD k 0) → csum r (pricesOf l r.weak.length) i K = l.getD (k + 1) 0 - l.getD (fst (loN r) (hiN r) (fun j => r.weak.getD j 0) i k) 0) ∧
    ((∀ k, k < K → ¬ Has (lotN r i) (r.weak.getD k 0)) → csum r (pricesOf l r.weak.length) i K = 0)
  | 0, _ => ⟨by have := zOf_pos h i; show (0 : Int) ≤ _; omega, fun k hk => (by omega), fun _ => rfl⟩
  | K + 1, hK => by
    obtain ⟨i1, i2, i3⟩ := csum_tele h hl hi K (by omega)
    rw [csum_succ]
    by_cases hc : Has (lotN r i) (r.weak.getD K 0)
    · have hc' : cov (loN r) (hiN r) i ((fun j => r.weak.getD j 0) K) := hc
      have e : csum r (pricesOf l r.weak.length) i K + (l.getD (K + 1) 0 - l.getD K 0) = l.getD (K + 1) 0 - l.getD (fst (loN r) (hiN r) (fun j => r.weak.getD j 0) i K) 0 := by
        have hf := fst_le (lo := loN r) (hi := hiN r) (W := fun j => r.weak.getD j 0) i K
        by_cases e0 : fst (loN r) (hiN r) (fun j => r.weak.getD j 0) i K = K
        · rw [i3 fun k hk hh => fst_not i (K := r.weak.length) (weak_inc h) K (by omega) hc' k (by rw [e0]; exact hk) hh, e0]
          omega
        · cases K with
          | zero => rw [fst] at e0; exact absurd rfl e0
          | succ K =>
            have hp : Has (lotN r i) (r.weak.getD K 0) := fst_all (lo := loN r) (hi := hiN r) (W := fun j => r.weak.getD j 0) i (K + 1) K (by omega) (by omega)
            rw [i2 K rfl hp]
            have : fst (loN r) (hiN r) (fun j => r.weak.getD j 0) i (K + 1) = fst (loN r) (hiN r) (fun j => r.weak.getD j 0) i K := by
              show (if cov (loN r) (hiN r) i (r.weak.getD K 0) then fst _ _ _ i K else K + 1) = _
              exact if_pos hp
            rw [this]; omega
      have hz := hl.step (fun i => by have := zOf_pos h i; omega) (a := fst (loN r) (hiN r) (fun j => r.weak.getD j 0) i K) (b := K + 1) (i := i) (by have := fst_le (lo := loN r) (hi := hiN r) (W := fun j => r.weak.getD j 0) i K; omega) hK hi rfl (fun j h1 h2 => by
        by_cases e : j = K
        · subst e; exact hc'
        · exact fst_all (lo := loN r) (hi := hiN r) (W := fun j => r.weak.getD j 0) i K j h1 (by omega))
      rw [if_pos hc, pricesOf_getD l (by omega), e]
      refine ⟨by omega, fun k hk _ => ?_, fun hn => absurd hc (hn K (by omega))⟩
      have : K = k := by omega
      subst this; rfl
    · rw [if_neg hc, Int.add_zero]
      refine ⟨i1, fun k hk hh => ?_, fun hn => i3 fun k hk => hn k (by omega)⟩
      have : K = k := by omega
      subst this; exact absurd hh hc
theorem sumTo_tele {l : List Int} {w : Nat} : ∀ K, K ≤ w → sumTo (pricesOf l w) K = l.getD K 0 - l.getD 0 0
  | 0, _ => by simp [sumTo, tot]
  | K + 1, h => by rw [sumTo_succ, sumTo_tele K (by omega), pricesOf_getD l (by omega)]; omega
theorem prices_ok {r : Row} (h : RowOk r) (he : (leastP r).2 = true) : Right r (pricesP r) ∧ sumTo (pricesP r) (pricesP r).length = (leastP r).1 := by
  have hu := uptoR_ok h h.inc noB
  have hrw : restW r [] = r.weak := by unfold restW; simp
  unfold leastP costP at he ⊢
  rw [hrw] at he ⊢
  unfold pricesP
  cases e : uptoR r r.weak noB with
  | none => rw [e] at he; cases he
  | some l =>
    rw [e] at hu
    simp only at hu ⊢
    have hlen : (pricesOf l r.weak.length).length = r.weak.length := by simp [pricesOf]
    have h0 : l.getD 0 0 = 0 := by
      obtain ⟨S, s1, s2, s3⟩ := hu.att 0 (by omega)
      have h1 := hu.low 0 (by omega) (fun _ => false) (fun i hi => by cases hi) (fun j hj => by omega)
      have h2 : ∀ q, tot (zOf r) (fun _ => false) q = 0 := by
        intro q
        induction q with
        | zero => rfl
        | succ q ih => rw [tot, ih]; simp
      rw [h2] at h1
      have := tot_nn (z := zOf r) (fun i => by have := zOf_pos h i; omega) S r.lots.length
      omega
    refine ⟨⟨hlen, fun x hx => ?_, fun i hi => ?_⟩, ?_⟩
    · obtain ⟨k, hk, rfl⟩ := List.mem_map.1 hx
      rw [List.mem_range] at hk
      have h1 := hu.up (a := k) (b := k + 1) (by omega) (by omega)
      refine ⟨by omega, ?_⟩
      obtain ⟨S, s1, s2, s3⟩ := hu.att (k + 1) (by omega)
      obtain ⟨i, a, b, c⟩ := s2 k (by omega)
      have h2 := hu.step (fun i => by have := zOf_pos h i; omega) (a := k) (b := k + 1) (i := i) (by omega) (by omega) a rfl (fun j h1 h2 => by
        have : j = k := by omega
        subst this; exact c)
      have := zOf_le h i
      omega
    · rw [hlen]; exact (csum_tele h hu hi _ (Nat.le_refl _)).1
    · rw [hlen, sumTo_tele _ (Nat.le_refl _), h0]
      simp [sumL]
/-- The weak pots that no lot has. -/
def unknownR (r : Row) : List Int := r.weak.filter fun p => !(r.lots.any fun l => decide (Has l p))
theorem any_lots {r : Row} {p : Int} : (r.lots.any fun l => decide (Has l p)) = true ↔ ∃ i, i < r.lots.length ∧ Has (lotN r i) p := by
  rw [List.any_eq_true]
  constructor
  · rintro ⟨l, hl, hp⟩
    obtain ⟨i, hi, rfl⟩ := List.getElem_of_mem hl
    refine ⟨i, hi, ?_⟩
    unfold lotN
    rw [List.getD_eq_getElem?_getD, List.getElem?_eq_getElem hi]
    exact of_decide_eq_true hp
  · rintro ⟨i, hi, hp⟩
    exact ⟨_, lotN_mem hi, decide_eq_true hp⟩
theorem unknown_nil {r : Row} : unknownR r = [] ↔ ∃ S, E r S := by
  unfold unknownR
  rw [List.filter_eq_nil_iff]
  constructor
  · intro h
    refine ⟨fun _ => true, fun p hp => ?_⟩
    have := h p hp
    simp only [Bool.not_eq_true', Bool.not_eq_false] at this
    obtain ⟨i, h1, h2⟩ := any_lots.1 this
    exact ⟨i, h1, rfl, h2⟩
  · rintro ⟨S, hS⟩ p hp
    obtain ⟨i, h1, _, h3⟩ := hS p hp
    rw [any_lots.2 ⟨i, h1, h3⟩]
    simp
end Go.Px.Try

/-! Rf1 -/
namespace Go.Px.Try
open Go Go.Proofs Go.Px
theorem hM : Try.prog.follows .mixedOrders = true := Checked.mixed Try.checked
def lotD (l : Lot) : DV := st [int l.lo, int l.hi]
def rowL (r : Row) : List DV := [int r.pots, slOf 2 lotD default r.lots, ints r.weak]
def rowD (r : Row) : DV := st [int r.pots, slOf 2 lotD default r.lots, ints r.weak]
theorem getD_mem {α : Type} {l : List α} {i : Nat} (h : i < l.length) (d : α) : l.getD i d ∈ l := by
  rw [List.getD_eq_getElem?_getD, List.getElem?_eq_getElem h]; exact List.getElem_mem h
theorem drop_getD {α : Type} {l : List α} {i : Nat} (d : α) (h : i < l.length) : l.drop i = l.getD i d :: l.drop (i + 1) := by
  rw [List.drop_eq_getElem_cons h, List.getD_eq_getElem?_getD, List.getElem?_eq_getElem h]; rfl
theorem take_succ_getD {α : Type} (l : List α) (i : Nat) (d : α) (h : i < l.length) : l.take (i + 1) = l.take i ++ [l.getD i d] := by
  rw [List.take_add_one, List.getD_eq_getElem?_getD, List.getElem?_eq_getElem h]; rfl
theorem Has_spec (l : Lot) (p : Int) : Fn Try.prog 71 [lotD l, int p] (bool (decide (Has l p))) := by
  refine Fn.hide (D := fun r : Bool => bool r) fun r hr => ?_
  have e1 : l.lo ≤ p → p ≤ l.hi → r = true := fun a b => by rw [← hr.h]; exact decide_eq_true ⟨a, b⟩
  have e2 : (p < l.lo ∨ l.hi < p) → r = false := fun a => by rw [← hr.h]; exact decide_eq_false fun h => by have := h.1; have := h.2; omega
  have e3 : l.lo ≤ p → decide (p ≤ l.hi) = r := fun a => by
    by_cases h : p ≤ l.hi
    · rw [e1 a h]; exact decide_eq_true h
    · rw [e2 (by omega)]; exact decide_eq_false h
  refine Fn.of_ex (cuts := []) tys hM Try.func71 rfl Try.call71 rfl ?_
  show exC Try.prog T [] _ false none 0 (entry 15 [lotD l, int p]) (finQ T [ResultVar.tmp 4] _)
  conv => whnf
  repeat' first | ((first | refine Ob.a ?_ | refine Sp.tt ?_ | refine Sp.ff ?_ | refine Sp.yes ?_ | refine Sp.no ?_ | refine Sp.nyes ?_ | refine Sp.nno ?_);conv=>whnf) | (refine Sp.ne (fun hc => ?_) (fun hc => ?_) <;> (conv=>whnf)) | (refine Sp.dec (fun hc => ?_) (fun hc => ?_) <;> (conv=>whnf)) | (refine Sp.ndec (fun hc => ?_) (fun hc => ?_) <;> (conv=>whnf)) | (refine Sp.mk (fun hc => ?_) (fun hc => ?_) <;> (conv=>whnf)) | (refine Fi.a ?_;conv=>whnf) | (refine Ob.b ?_;conv=>whnf)
  all_goals first | (have e := e3 (by omega); exact Lf) | (have e := e2 (by omega); exact Lf)
theorem Size_spec (l : Lot) (h1 : -1000000 ≤ l.lo ∧ l.lo ≤ 1000000) (h2 : -1000000 ≤ l.hi ∧ l.hi ≤ 1000000) : Fn Try.prog 72 [lotD l] (int (lsize l)) := by
  have e : lsize l = l.hi - l.lo + 1 := rfl
  refine Fn.of_ex (cuts := []) tys hM Try.func72 rfl Try.call72 rfl ?_
  show exC Try.prog T [] _ false none 0 (entry 9 [lotD l]) (finQ T [ResultVar.tmp 2] _)
  conv => whnf
  repeat' first | ((first | refine Ob.a ?_ | refine Sp.tt ?_ | refine Sp.ff ?_ | refine Sp.yes ?_ | refine Sp.no ?_ | refine Sp.nyes ?_ | refine Sp.nno ?_);conv=>whnf) | (refine Sp.ne (fun hc => ?_) (fun hc => ?_) <;> (conv=>whnf)) | (refine Sp.dec (fun hc => ?_) (fun hc => ?_) <;> (conv=>whnf)) | (refine Sp.ndec (fun hc => ?_) (fun hc => ?_) <;> (conv=>whnf)) | (refine Sp.mk (fun hc => ?_) (fun hc => ?_) <;> (conv=>whnf)) | (refine Fi.a ?_;conv=>whnf) | (refine Ob.b ?_;conv=>whnf)
  all_goals exact Lf
/-- A strictly increasing list of numbers from 0 on, below another one. -/
def risingL (l : List Int) (b : Int) : Prop := (∀ x ∈ l, 0 ≤ x ∧ x < b) ∧ l.Pairwise (· < ·)
instance (l : List Int) (b : Int) : Decidable (risingL l b) := by unfold risingL; exact inferInstance
def RisTo (l : List Int) (b : Int) (k : Nat) : Prop := ∀ j, j < k → (0 ≤ l.getD j 0 ∧ l.getD j 0 < b) ∧ (0 < j → l.getD (j - 1) 0 < l.getD j 0)
theorem risTo_iff {l : List Int} {b : Int} : RisTo l b l.length ↔ risingL l b := by
  constructor
  · intro h
    refine ⟨fun x hx => ?_, ?_⟩
    · obtain ⟨j, hj, rfl⟩ := List.getElem_of_mem hx
      have := (h j hj).1
      rw [List.getD_eq_getElem?_getD, List.getElem?_eq_getElem hj] at this
      exact this
    · rw [List.pairwise_iff_getElem]
      have key : ∀ d i (hi : i < l.length) (hj : i + d + 1 < l.length), l[i] < l[i + d + 1] := by
        intro d
        induction d with
        | zero =>
          intro i hi hj
          have := (h (i + 1) hj).2 (by omega)
          rw [List.getD_eq_getElem?_getD, List.getElem?_eq_getElem (by omega), List.getD_eq_getElem?_getD, List.getElem?_eq_getElem hj] at this
          exact this
        | succ d ih =>
          intro i hi hj
          have h1 := ih i hi (by omega)
          have h2 := (h (i + (d + 1) + 1) hj).2 (by omega)
          rw [List.getD_eq_getElem?_getD, List.getElem?_eq_getElem (by omega), List.getD_eq_getElem?_getD, List.getElem?_eq_getElem hj] at h2
          exact Int.lt_trans h1 h2
      intro i j hi hj hij
      have := key (j - i - 1) i hi (by omega)
      simpa [show i + (j - i - 1) + 1 = j by omega] using this
  · rintro ⟨h1, h2⟩ j hj
    refine ⟨h1 _ (getD_mem hj 0), fun h0 => ?_⟩
    exact inc_getD h2 (j - 1) j (by omega) hj
set_option maxHeartbeats 4000000 in
theorem Rising_spec (l : List Int) (b : Int) (hl : l.length < 1000000) : Fn Try.prog 50 [ints l, int b] (bool (decide (risingL l b))) := by
  refine Fn.hide (D := fun r : Bool => bool r) fun r hr => ?_
  have h0 : ¬ risingL l b → r = false := fun h => by rw [← hr.h]; exact decide_eq_false h
  have h1 : risingL l b → r = true := fun h => by rw [← hr.h]; exact decide_eq_true h
  refine Fn.of_ex (cuts := []) tys hM Try.func50 rfl Try.call50 rfl ?_
  show exC Try.prog T [] _ false none 0 (entry 41 [ints l, int b]) (finQ T [ResultVar.tmp 4] _)
  conv => whnf
  repeat' first | ((first | refine Ob.a ?_ | refine Sp.tt ?_ | refine Sp.ff ?_ | refine Sp.yes ?_ | refine Sp.no ?_ | refine Sp.nyes ?_ | refine Sp.nno ?_);conv=>whnf) | (refine Sp.ne (fun hc => ?_) (fun hc => ?_) <;> (conv=>whnf)) | (refine Sp.dec (fun hc => ?_) (fun hc => ?_) <;> (conv=>whnf)) | (refine Sp.ndec (fun hc => ?_) (fun hc => ?_) <;> (conv=>whnf)) | (refine Sp.mk (fun hc => ?_) (fun hc => ?_) <;> (conv=>whnf)) | (refine Fi.a ?_;conv=>whnf) | (refine Ob.b ?_;conv=>whnf)
  refine Lp.snap [0, 1] 40 ?_
  (conv=>whnf)
  refine LpB.go 41 ({i : Int // (0 ≤ i ∧ i ≤ l.length) ∧ RisTo l b i.toNat}) 0 (fun ⟨i, _⟩ nx => ([(5, .d (int i))], [])) (fun p => (l.length - p.1).toNat) (⟨0, ⟨by omega, by omega⟩, fun j hj => by simp at hj⟩) ?_ ?_
  · rintro ⟨i, ⟨i0, i1⟩, hinv⟩
    have f1 : i < l.length → (l.getD i.toNat 0 < 0 ∨ b ≤ l.getD i.toNat 0 ∨ (0 < i ∧ l.getD i.toNat 0 ≤ l.getD (i - 1).toNat 0)) → r = false := fun hi hb => h0 fun hr => by
      have := (risTo_iff.2 hr) i.toNat (by omega)
      rw [show i.toNat - 1 = (i - 1).toNat by omega] at this
      omega
    have f2 : i < l.length → 0 ≤ l.getD i.toNat 0 → l.getD i.toNat 0 < b → (0 < i → l.getD (i - 1).toNat 0 < l.getD i.toNat 0) → RisTo l b (i + 1).toNat := fun hi a1 a2 a3 j hj => by
      by_cases e : j < i.toNat
      · exact hinv j e
      · obtain rfl : j = i.toNat := by omega
        refine ⟨⟨a1, a2⟩, fun h => ?_⟩
        rw [show i.toNat - 1 = (i - 1).toNat by omega]
        exact a3 (by omega)
    have f3 : ¬ i < l.length → r = true := fun hi => h1 (risTo_iff.1 (by rw [show l.length = i.toNat by omega]; exact hinv))
    conv => whnf
    repeat' first | ((first | refine Ob.a ?_ | refine Sp.tt ?_ | refine Sp.ff ?_ | refine Sp.yes ?_ | refine Sp.no ?_ | refine Sp.nyes ?_ | refine Sp.nno ?_);conv=>whnf) | (refine Sp.ne (fun hc => ?_) (fun hc => ?_) <;> (conv=>whnf)) | (refine Sp.dec (fun hc => ?_) (fun hc => ?_) <;> (conv=>whnf)) | (refine Sp.ndec (fun hc => ?_) (fun hc => ?_) <;> (conv=>whnf)) | (refine Sp.mk (fun hc => ?_) (fun hc => ?_) <;> (conv=>whnf)) | (refine Fi.a ?_;conv=>whnf) | (refine Ob.b ?_;conv=>whnf)
    all_goals first | (have e := f1 (by omega) (by omega); exact Lf) | (have e := f2 (by omega) (by omega) (by omega) (by omega); exact ⟨rfl, ⟨i + 1, ⟨by omega, by omega⟩, e⟩, Lf, by simp only; omega⟩) | (have e := f3 (by omega); exact Lf)
  · exact Lf
/-- The error of a row. -/
def LotOk (r : Row) (l : Lot) : Prop := 0 ≤ l.lo ∧ l.lo ≤ l.hi ∧ l.hi < r.pots
instance (r : Row) (l : Lot) : Decidable (LotOk r l) := by unfold LotOk; exact inferInstance
def checkRow (r : Row) : Int :=
  if r.pots < 1 ∨ 40 < r.pots then 3 else if 10 < r.lots.length ∨ 12 < r.weak.length then 6
  else if ¬ ∀ l ∈ r.lots, LotOk r l then 3 else if ¬ ∀ p ∈ r.weak, 0 ≤ p ∧ p < r.pots then 3
  else if risingL r.weak r.pots then 0 else 16
theorem checkRow_ok {r : Row} : checkRow r = 0 ↔ RowOk r := by
  unfold checkRow
  constructor
  · intro h
    split at h
    · cases h
    split at h
    · cases h
    split at h
    · cases h
    rename_i h3
    split at h
    · cases h
    split at h
    · rename_i h5
      exact ⟨by omega, by omega, by omega, by omega, Decidable.of_not_not h3, h5.1, h5.2⟩
    · cases h
  · rintro ⟨h1, h2, h3, h4, h5, h6, h7⟩
    rw [if_neg (by omega), if_neg (by omega), if_neg (not_not_intro (show ∀ l ∈ r.lots, LotOk r l from h5)), if_neg (not_not_intro h6), if_pos ⟨h6, h7⟩]
set_option maxHeartbeats 4000000 in
theorem CheckRow_spec (r : Row) (hl : r.lots.length < 1000000) (hw : r.weak.length < 1000000) : Fn Try.prog 24 [rowD r] (int (checkRow r)) := by
  refine Fn.hide (D := fun r : Int => int r) fun c hr => ?_
  have hc := hr.h
  have hri := Rising_spec r.weak r.pots hw
  have c1 : (r.pots < 1 ∨ 40 < r.pots) → c = 3 := fun h => by rw [← hc]; exact if_pos h
  have c2 : 1 ≤ r.pots → r.pots ≤ 40 → (10 < (r.lots.length : Int) ∨ 12 < (r.weak.length : Int)) → c = 6 := fun a b h => by rw [← hc]; unfold checkRow; rw [if_neg (by omega), if_pos (by omega)]
  have c3 : 1 ≤ r.pots → r.pots ≤ 40 → (r.lots.length : Int) ≤ 10 → (r.weak.length : Int) ≤ 12 → c = if ¬ ∀ l ∈ r.lots, LotOk r l then 3 else if ¬ ∀ p ∈ r.weak, 0 ≤ p ∧ p < r.pots then 3 else if risingL r.weak r.pots then 0 else 16 := fun a b d e => by rw [← hc]; unfold checkRow; rw [if_neg (by omega), if_neg (by omega)]
  clear hc hr
  refine Fn.of_ex (cuts := []) tys hM Try.func24 rfl Try.call24 rfl ?_
  show exC Try.prog T [] _ false none 0 (entry 92 [rowD r]) (finQ T [ResultVar.tmp 2] _)
  conv => whnf
  repeat' first | ((first | refine Ob.a ?_ | refine Sp.tt ?_ | refine Sp.ff ?_ | refine Sp.yes ?_ | refine Sp.no ?_ | refine Sp.nyes ?_ | refine Sp.nno ?_);conv=>whnf) | (refine Sp.ne (fun hc => ?_) (fun hc => ?_) <;> (conv=>whnf)) | (refine Sp.dec (fun hc => ?_) (fun hc => ?_) <;> (conv=>whnf)) | (refine Sp.ndec (fun hc => ?_) (fun hc => ?_) <;> (conv=>whnf)) | (refine Sp.mk (fun hc => ?_) (fun hc => ?_) <;> (conv=>whnf)) | (refine Fi.a ?_;conv=>whnf) | (refine Ob.b ?_;conv=>whnf)
  all_goals try (first | (have e := c1 (by omega); exact Lf) | (have e := c2 (by omega) (by omega) (by omega); exact Lf))
  have k3 := c3 (by omega) (by omega) (by omega) (by omega)
  clear c1 c2 c3
  refine Lp.snap [0, 1, 4, 63, 64, 65, 66, 68, 69, 70, 71, 72, 73, 74, 75, 76, 77, 78, 79, 80, 81, 82, 83, 84, 86, 87, 88, 89, 90] 40 ?_
  (conv=>whnf)
  refine LpB.go 92 ({i : Int // (0 ≤ i ∧ i ≤ r.lots.length) ∧ ∀ j, j < i.toNat → LotOk r (r.lots.getD j default)}) 0 (fun ⟨i, _⟩ nx => ([(3, .d (int i))], [])) (fun p => (r.lots.length - p.1).toNat) (⟨0, ⟨by omega, by omega⟩, fun j hj => by simp at hj⟩) ?_ ?_
  · rintro ⟨i, ⟨i0, i1⟩, hinv⟩
    have f1 : i < r.lots.length → ((r.lots.getD i.toNat default).lo < 0 ∨ (r.lots.getD i.toNat default).hi < (r.lots.getD i.toNat default).lo ∨ r.pots ≤ (r.lots.getD i.toNat default).hi) → c = 3 := fun hi hb => by
      rw [k3, if_pos]
      intro h
      have := h _ (getD_mem (i := i.toNat) (by omega) default)
      unfold LotOk at this
      omega
    have f2 : i < r.lots.length → 0 ≤ (r.lots.getD i.toNat default).lo → (r.lots.getD i.toNat default).lo ≤ (r.lots.getD i.toNat default).hi → (r.lots.getD i.toNat default).hi < r.pots → ∀ j, j < (i + 1).toNat → LotOk r (r.lots.getD j default) := fun hi a1 a2 a3 j hj => by
      by_cases e : j < i.toNat
      · exact hinv j e
      · obtain rfl : j = i.toNat := by omega
        exact ⟨a1, a2, a3⟩
    have f3 : ¬ i < r.lots.length → c = if ¬ ∀ p ∈ r.weak, 0 ≤ p ∧ p < r.pots then 3 else if risingL r.weak r.pots then 0 else 16 := fun hi => by
      rw [k3, if_neg]
      refine not_not_intro fun l hl => ?_
      obtain ⟨j, hj, rfl⟩ := List.getElem_of_mem hl
      have := hinv j (by omega)
      rw [List.getD_eq_getElem?_getD, List.getElem?_eq_getElem hj] at this
      exact this
    conv => whnf
    repeat' first | ((first | refine Ob.a ?_ | refine Sp.tt ?_ | refine Sp.ff ?_ | refine Sp.yes ?_ | refine Sp.no ?_ | refine Sp.nyes ?_ | refine Sp.nno ?_);conv=>whnf) | (refine Sp.ne (fun hc => ?_) (fun hc => ?_) <;> (conv=>whnf)) | (refine Sp.dec (fun hc => ?_) (fun hc => ?_) <;> (conv=>whnf)) | (refine Sp.ndec (fun hc => ?_) (fun hc => ?_) <;> (conv=>whnf)) | (refine Sp.mk (fun hc => ?_) (fun hc => ?_) <;> (conv=>whnf)) | (refine Fi.a ?_;conv=>whnf) | (refine Ob.b ?_;conv=>whnf)
    all_goals try (first | (have e := f1 (by omega) (by omega); exact Lf) | (have e := f2 (by omega) (by omega) (by omega) (by omega); exact ⟨rfl, ⟨i + 1, ⟨by omega, by omega⟩, e⟩, Lf, by simp only; omega⟩))
    have k4 := f3 (by omega)
    clear f1 f2 f3 k3
    refine Lp.snap [0, 1, 86, 87, 88, 89, 90] 40 ?_
    (conv=>whnf)
    refine LpB.go 92 ({i : Int // (0 ≤ i ∧ i ≤ r.weak.length) ∧ ∀ j, j < i.toNat → 0 ≤ r.weak.getD j 0 ∧ r.weak.getD j 0 < r.pots}) 0 (fun ⟨i, _⟩ nx => ([(4, .d (int i))], [])) (fun p => (r.weak.length - p.1).toNat) (⟨0, ⟨by omega, by omega⟩, fun j hj => by simp at hj⟩) ?_ ?_
    · rintro ⟨i, ⟨i0, i1⟩, hinv⟩
      have f1 : i < r.weak.length → (r.weak.getD i.toNat 0 < 0 ∨ r.pots ≤ r.weak.getD i.toNat 0) → c = 3 := fun hi hb => by
        rw [k4, if_pos]
        intro h
        have := h _ (getD_mem (i := i.toNat) (by omega) 0)
        omega
      have f2 : i < r.weak.length → 0 ≤ r.weak.getD i.toNat 0 → r.weak.getD i.toNat 0 < r.pots → ∀ j, j < (i + 1).toNat → 0 ≤ r.weak.getD j 0 ∧ r.weak.getD j 0 < r.pots := fun hi a1 a2 j hj => by
        by_cases e : j < i.toNat
        · exact hinv j e
        · obtain rfl : j = i.toNat := by omega
          exact ⟨a1, a2⟩
      have f3 : ¬ i < r.weak.length → c = if risingL r.weak r.pots then 0 else 16 := fun hi => by
        rw [k4, if_neg]
        refine not_not_intro fun l hl => ?_
        obtain ⟨j, hj, rfl⟩ := List.getElem_of_mem hl
        have := hinv j (by omega)
        rw [List.getD_eq_getElem?_getD, List.getElem?_eq_getElem hj] at this
        exact this
      conv => whnf
      repeat' first | ((first | refine Ob.a ?_ | refine Sp.tt ?_ | refine Sp.ff ?_ | refine Sp.yes ?_ | refine Sp.no ?_ | refine Sp.nyes ?_ | refine Sp.nno ?_);conv=>whnf) | (refine Sp.ne (fun hc => ?_) (fun hc => ?_) <;> (conv=>whnf)) | (refine Sp.dec (fun hc => ?_) (fun hc => ?_) <;> (conv=>whnf)) | (refine Sp.ndec (fun hc => ?_) (fun hc => ?_) <;> (conv=>whnf)) | (refine Sp.mk (fun hc => ?_) (fun hc => ?_) <;> (conv=>whnf)) | (apply Cl.go;(conv=>whnf); (first | refine Ob.call (hri) ?_);(conv=>whnf)) | (refine Fi.a ?_;conv=>whnf) | (refine Ob.b ?_;conv=>whnf)
      all_goals try (first | (have e := f1 (by omega) (by omega); exact Lf) | (have e := f2 (by omega) (by omega) (by omega); exact ⟨rfl, ⟨i + 1, ⟨by omega, by omega⟩, e⟩, Lf, by simp only; omega⟩))
      · have e := (f3 (by omega)).trans (if_neg hc)
        exact ⟨rfl, e.symm⟩
      · have e := (f3 (by omega)).trans (if_pos hc)
        exact ⟨rfl, e.symm⟩
    · exact Lf
  · exact Lf
end Go.Px.Try

/-! Rf2 -/
namespace Go.Px.Try
open Go Go.Proofs Go.Px
/-- Numbers of lots. -/
def LotsIn (r : Row) (l : List Int) : Prop := ∀ x ∈ l, 0 ≤ x ∧ x < r.lots.length
def hadB (r : Row) (l : List Int) (p : Int) : Bool := l.any fun x => decide (Has (lotN r x.toNat) p)
theorem hadB_iff {r : Row} {l : List Int} {p : Int} : hadB r l p = true ↔ ∃ i ∈ l, Has (lotN r i.toNat) p := by simp [hadB]
theorem hadB_succ {r : Row} {l : List Int} {p : Int} {i : Nat} (h : i < l.length) : hadB r (l.take (i + 1)) p = (hadB r (l.take i) p || decide (Has (lotN r (l.getD i 0).toNat) p)) := by
  rw [take_succ_getD l i 0 h]; simp [hadB]
set_option maxHeartbeats 4000000 in
theorem Explains_spec (r : Row) (l : List Int) (hl : LotsIn r l) (hll : l.length < 1000000) (hw : r.weak.length < 1000000) (hr : r.lots.length < 1000000) : Fn Try.prog 62 [rowD r, ints l] (bool (decide (explL r l))) := by
  refine Fn.hide (D := fun r : Bool => bool r) fun c hr => ?_
  have h0 : ¬ explL r l → c = false := fun h => by rw [← hr.h]; exact decide_eq_false h
  have h1 : explL r l → c = true := fun h => by rw [← hr.h]; exact decide_eq_true h
  refine Fn.of_ex (cuts := []) tys hM Try.func62 rfl Try.call62 rfl ?_
  show exC Try.prog T [] _ false none 0 (entry 40 [rowD r, ints l]) (finQ T [ResultVar.tmp 4] _)
  conv => whnf
  repeat' first | ((first | refine Ob.a ?_ | refine Sp.tt ?_ | refine Sp.ff ?_ | refine Sp.yes ?_ | refine Sp.no ?_ | refine Sp.nyes ?_ | refine Sp.nno ?_);conv=>whnf) | (refine Sp.ne (fun hc => ?_) (fun hc => ?_) <;> (conv=>whnf)) | (refine Sp.dec (fun hc => ?_) (fun hc => ?_) <;> (conv=>whnf)) | (refine Sp.ndec (fun hc => ?_) (fun hc => ?_) <;> (conv=>whnf)) | (refine Sp.mk (fun hc => ?_) (fun hc => ?_) <;> (conv=>whnf)) | (refine Fi.a ?_;conv=>whnf) | (refine Ob.b ?_;conv=>whnf)
  refine Lp.snap [0, 1, 2] 40 ?_
  (conv=>whnf)
  refine LpB.go 40 ({k : Int // (0 ≤ k ∧ k ≤ r.weak.length) ∧ ∀ j, j < k.toNat → hadB r l (r.weak.getD j 0) = true}) 0 (fun ⟨k, _⟩ nx => ([(5, .d (int k))], [])) (fun p => (r.weak.length - p.1).toNat) (⟨0, ⟨by omega, by omega⟩, fun j hj => by simp at hj⟩) ?_ ?_
  · rintro ⟨k, ⟨k0, k1⟩, hk⟩
    have g1 : k < r.weak.length → hadB r l (r.weak.getD k.toNat 0) = false → c = false := fun hk hb => h0 fun he => by
      have := hadB_iff.2 (he _ (getD_mem (i := k.toNat) (by omega) 0))
      rw [hb] at this; cases this
    have g2 : k < r.weak.length → hadB r l (r.weak.getD k.toNat 0) = true → ∀ j, j < (k + 1).toNat → hadB r l (r.weak.getD j 0) = true := fun hk' hb j hj => by
      by_cases e : j < k.toNat
      · exact hk j e
      · obtain rfl : j = k.toNat := by omega
        exact hb
    have g3 : ¬ k < r.weak.length → c = true := fun hk' => h1 fun p hp => by
      obtain ⟨j, hj, rfl⟩ := List.getElem_of_mem hp
      have := hk j (by omega)
      rw [List.getD_eq_getElem?_getD, List.getElem?_eq_getElem hj] at this
      exact hadB_iff.1 this
    conv => whnf
    repeat' first | ((first | refine Ob.a ?_ | refine Sp.tt ?_ | refine Sp.ff ?_ | refine Sp.yes ?_ | refine Sp.no ?_ | refine Sp.nyes ?_ | refine Sp.nno ?_);conv=>whnf) | (refine Sp.ne (fun hc => ?_) (fun hc => ?_) <;> (conv=>whnf)) | (refine Sp.dec (fun hc => ?_) (fun hc => ?_) <;> (conv=>whnf)) | (refine Sp.ndec (fun hc => ?_) (fun hc => ?_) <;> (conv=>whnf)) | (refine Sp.mk (fun hc => ?_) (fun hc => ?_) <;> (conv=>whnf)) | (refine Fi.a ?_;conv=>whnf) | (refine Ob.b ?_;conv=>whnf)
    · refine Lp.snap [0, 1, 2, 4, 5, 8, 9, 10, 11, 13, 14, 38] 40 ?_
      (conv=>whnf)
      refine LpB.go 40 ({q : Int × Bool // (0 ≤ q.1 ∧ q.1 ≤ l.length) ∧ q.2 = hadB r (l.take q.1.toNat) (r.weak.getD k.toNat 0)}) 0 (fun ⟨(i, h), _⟩ nx => ([(7, .d (int i)), (6, .d (bool h))], [])) (fun p => (l.length - p.1.1).toNat) (⟨(0, false), ⟨by simp, by simp⟩, rfl⟩) ?_ ?_
      · rintro ⟨⟨i, h⟩, ⟨i0, i1⟩, hh⟩
        simp only at i0 i1 hh
        have hx : i < l.length → 0 ≤ l.getD i.toNat 0 ∧ l.getD i.toNat 0 < r.lots.length := fun hi => hl _ (getD_mem (i := i.toNat) (by omega) 0)
        have hs : i < l.length → hadB r (l.take (i + 1).toNat) (r.weak.getD k.toNat 0) = (h || decide (Has (lotN r (l.getD i.toNat 0).toNat) (r.weak.getD k.toNat 0))) := fun hi => by
          rw [show (i + 1).toNat = i.toNat + 1 by omega, hadB_succ (by omega), hh]
        have hH := Has_spec (r.lots.getD (l.getD i.toNat 0).toNat default) (r.weak.getD k.toNat 0)
        have he : ¬ i < l.length → h = hadB r l (r.weak.getD k.toNat 0) := fun hi => by rw [hh, List.take_of_length_le (by omega)]
        by_cases hil : i < l.length
        · obtain ⟨_, _⟩ := hx hil
          have hs := hs hil
          cases h
          · conv => whnf
            repeat' first | ((first | refine Ob.a ?_ | refine Sp.tt ?_ | refine Sp.ff ?_ | refine Sp.yes ?_ | refine Sp.no ?_ | refine Sp.nyes ?_ | refine Sp.nno ?_);conv=>whnf) | (refine Sp.ne (fun hc => ?_) (fun hc => ?_) <;> (conv=>whnf)) | (refine Sp.dec (fun hc => ?_) (fun hc => ?_) <;> (conv=>whnf)) | (refine Sp.ndec (fun hc => ?_) (fun hc => ?_) <;> (conv=>whnf)) | (refine Sp.mk (fun hc => ?_) (fun hc => ?_) <;> (conv=>whnf)) | (apply Cl.go;(conv=>whnf); (first | refine Ob.call (hH) ?_);(conv=>whnf)) | (refine Fi.a ?_;conv=>whnf) | (refine Ob.b ?_;conv=>whnf)
            exact ⟨rfl, ⟨(i + 1, decide (Has (r.lots.getD (l.getD i.toNat 0).toNat default) (r.weak.getD k.toNat 0))), ⟨by simp only; omega, by simp only; omega⟩, by rw [hs]; rfl⟩, Lf, by simp only; omega⟩
          · conv => whnf
            repeat' first | ((first | refine Ob.a ?_ | refine Sp.tt ?_ | refine Sp.ff ?_ | refine Sp.yes ?_ | refine Sp.no ?_ | refine Sp.nyes ?_ | refine Sp.nno ?_);conv=>whnf) | (refine Sp.ne (fun hc => ?_) (fun hc => ?_) <;> (conv=>whnf)) | (refine Sp.dec (fun hc => ?_) (fun hc => ?_) <;> (conv=>whnf)) | (refine Sp.ndec (fun hc => ?_) (fun hc => ?_) <;> (conv=>whnf)) | (refine Sp.mk (fun hc => ?_) (fun hc => ?_) <;> (conv=>whnf)) | (apply Cl.go;(conv=>whnf); (first | refine Ob.call (hH) ?_);(conv=>whnf)) | (refine Fi.a ?_;conv=>whnf) | (refine Ob.b ?_;conv=>whnf)
            exact ⟨rfl, ⟨(i + 1, true), ⟨by simp only; omega, by simp only; omega⟩, by rw [hs]; rfl⟩, Lf, by simp only; omega⟩
        · have e := he hil
          cases h
          · have e2 := g1 (by omega) e.symm
            conv => whnf
            repeat' first | ((first | refine Ob.a ?_ | refine Sp.tt ?_ | refine Sp.ff ?_ | refine Sp.yes ?_ | refine Sp.no ?_ | refine Sp.nyes ?_ | refine Sp.nno ?_);conv=>whnf) | (refine Sp.ne (fun hc => ?_) (fun hc => ?_) <;> (conv=>whnf)) | (refine Sp.dec (fun hc => ?_) (fun hc => ?_) <;> (conv=>whnf)) | (refine Sp.ndec (fun hc => ?_) (fun hc => ?_) <;> (conv=>whnf)) | (refine Sp.mk (fun hc => ?_) (fun hc => ?_) <;> (conv=>whnf)) | (refine Fi.a ?_;conv=>whnf) | (refine Ob.b ?_;conv=>whnf)
            exact Lf
          · have e2 := g2 (by omega) e.symm
            conv => whnf
            repeat' first | ((first | refine Ob.a ?_ | refine Sp.tt ?_ | refine Sp.ff ?_ | refine Sp.yes ?_ | refine Sp.no ?_ | refine Sp.nyes ?_ | refine Sp.nno ?_);conv=>whnf) | (refine Sp.ne (fun hc => ?_) (fun hc => ?_) <;> (conv=>whnf)) | (refine Sp.dec (fun hc => ?_) (fun hc => ?_) <;> (conv=>whnf)) | (refine Sp.ndec (fun hc => ?_) (fun hc => ?_) <;> (conv=>whnf)) | (refine Sp.mk (fun hc => ?_) (fun hc => ?_) <;> (conv=>whnf)) | (refine Fi.a ?_;conv=>whnf) | (refine Ob.b ?_;conv=>whnf)
            exact ⟨rfl, ⟨k + 1, ⟨by omega, by omega⟩, e2⟩, Lf, by simp only; omega⟩
      · exact Lf
    · have e := g3 (by omega)
      exact Lf
  · exact Lf
theorem callsL_take {r : Row} {l : List Int} {i : Nat} (h : i < l.length) : callsL r (l.take (i + 1)) = callsL r (l.take i) + zOf r (l.getD i 0).toNat := by
  rw [take_succ_getD l i 0 h, callsL_append]; simp [callsL]
theorem callsL_rng {r : Row} (h : RowOk r) : ∀ l : List Int, 0 ≤ callsL r l ∧ callsL r l ≤ 40 * l.length
  | [] => by simp [callsL]
  | x :: l => by
    have := callsL_rng h l
    have := zOf_pos h x.toNat
    have := zOf_le h x.toNat
    rw [callsL, List.length_cons]; omega
set_option maxHeartbeats 4000000 in
theorem Calls_spec (r : Row) (l : List Int) (hr : RowOk r) (hl : LotsIn r l) (hll : l.length < 1000000) : Fn Try.prog 63 [rowD r, ints l] (int (callsL r l)) := by
  have hr10 := hr.l10
  have hrl := hr.lots
  have hp40 := hr.p40
  refine Fn.hide (D := fun r : Int => int r) fun c hc => ?_
  have hc0 := hc.h
  refine Fn.of_ex (cuts := []) tys hM Try.func63 rfl Try.call63 rfl ?_
  show exC Try.prog T [] _ false none 0 (entry 25 [rowD r, ints l]) (finQ T [ResultVar.tmp 4] _)
  conv => whnf
  repeat' first | ((first | refine Ob.a ?_ | refine Sp.tt ?_ | refine Sp.ff ?_ | refine Sp.yes ?_ | refine Sp.no ?_ | refine Sp.nyes ?_ | refine Sp.nno ?_);conv=>whnf) | (refine Sp.ne (fun hc => ?_) (fun hc => ?_) <;> (conv=>whnf)) | (refine Sp.dec (fun hc => ?_) (fun hc => ?_) <;> (conv=>whnf)) | (refine Sp.ndec (fun hc => ?_) (fun hc => ?_) <;> (conv=>whnf)) | (refine Sp.mk (fun hc => ?_) (fun hc => ?_) <;> (conv=>whnf)) | (refine Fi.a ?_;conv=>whnf) | (refine Ob.b ?_;conv=>whnf)
  refine Lp.snap [0, 1, 2, 4, 24] 40 ?_
  (conv=>whnf)
  refine LpB.go 25 ({q : Int × Int // (0 ≤ q.1 ∧ q.1 ≤ l.length) ∧ q.2 = callsL r (l.take q.1.toNat) ∧ 0 ≤ q.2 ∧ q.2 ≤ 40 * q.1}) 0 (fun ⟨(i, n), _⟩ nx => ([(6, .d (int i)), (5, .d (int n))], [])) (fun p => (l.length - p.1.1).toNat) (⟨(0, 0), ⟨by simp, by simp⟩, rfl, by simp, by simp⟩) ?_ ?_
  · rintro ⟨⟨i, n⟩, ⟨i0, i1⟩, hn, n0, n1⟩
    simp only at i0 i1 hn n0 n1
    by_cases hil : i < l.length
    · obtain ⟨_, _⟩ := hl _ (getD_mem (i := i.toNat) (by omega) 0)
      obtain ⟨_, _, _⟩ := hrl _ (getD_mem (i := (l.getD i.toNat 0).toNat) (by omega) default)
      have hS := Size_spec (r.lots.getD (l.getD i.toNat 0).toNat default) ⟨by omega, by omega⟩ ⟨by omega, by omega⟩
      have hs : n + lsize (r.lots.getD (l.getD i.toNat 0).toNat default) = callsL r (l.take (i + 1).toNat) := by
        rw [show (i + 1).toNat = i.toNat + 1 by omega, callsL_take (by omega), hn]; rfl
      have hz : 1 ≤ lsize (r.lots.getD (l.getD i.toNat 0).toNat default) ∧ lsize (r.lots.getD (l.getD i.toNat 0).toNat default) ≤ 40 := by unfold lsize; omega
      generalize lsize (r.lots.getD (l.getD i.toNat 0).toNat default) = z at *
      conv => whnf
      repeat' first | ((first | refine Ob.a ?_ | refine Sp.tt ?_ | refine Sp.ff ?_ | refine Sp.yes ?_ | refine Sp.no ?_ | refine Sp.nyes ?_ | refine Sp.nno ?_);conv=>whnf) | (refine Sp.ne (fun hc => ?_) (fun hc => ?_) <;> (conv=>whnf)) | (refine Sp.dec (fun hc => ?_) (fun hc => ?_) <;> (conv=>whnf)) | (refine Sp.ndec (fun hc => ?_) (fun hc => ?_) <;> (conv=>whnf)) | (refine Sp.mk (fun hc => ?_) (fun hc => ?_) <;> (conv=>whnf)) | (apply Cl.go;(conv=>whnf); (first | refine Ob.call (hS) ?_);(conv=>whnf)) | (refine Fi.a ?_;conv=>whnf) | (refine Ob.b ?_;conv=>whnf)
      exact ⟨rfl, ⟨(i + 1, n + z), ⟨by simp only; omega, by simp only; omega⟩, hs, by simp only; omega, by simp only; omega⟩, Lf, by simp only; omega⟩
    · have e : n = c := by rw [hn, ← hc0, List.take_of_length_le (by omega)]
      conv => whnf
      repeat' first | ((first | refine Ob.a ?_ | refine Sp.tt ?_ | refine Sp.ff ?_ | refine Sp.yes ?_ | refine Sp.no ?_ | refine Sp.nyes ?_ | refine Sp.nno ?_);conv=>whnf) | (refine Sp.ne (fun hc => ?_) (fun hc => ?_) <;> (conv=>whnf)) | (refine Sp.dec (fun hc => ?_) (fun hc => ?_) <;> (conv=>whnf)) | (refine Sp.ndec (fun hc => ?_) (fun hc => ?_) <;> (conv=>whnf)) | (refine Sp.mk (fun hc => ?_) (fun hc => ?_) <;> (conv=>whnf)) | (refine Fi.a ?_;conv=>whnf) | (refine Ob.b ?_;conv=>whnf)
      exact Lf
  · exact Lf
/-- The bits of a number, as the reference looks at them. -/
theorem bitAnd (b k : Nat) : band .i64 ((b : Int) / 2 ^ k) 1 = ((b / 2 ^ k % 2 : Nat) : Int) := by
  have e : ((b : Int) / 2 ^ k) = ((b / 2 ^ k : Nat) : Int) := by simp
  rw [e]
  generalize b / 2 ^ k = c
  unfold band
  have h : (BitVec.ofInt IntKind.i64.bits (c : Int) &&& BitVec.ofInt IntKind.i64.bits 1).toNat = c % 2 := by
    have e1 : BitVec.ofInt IntKind.i64.bits (c : Int) = BitVec.ofNat 64 c := BitVec.ofInt_natCast 64 c
    have e2 : BitVec.ofInt IntKind.i64.bits 1 = BitVec.ofNat 64 1 := rfl
    rw [e1, e2]
    show (BitVec.ofNat 64 c &&& BitVec.ofNat 64 1).toNat = _
    rw [BitVec.toNat_and, BitVec.toNat_ofNat, BitVec.toNat_ofNat, show 1 % 2 ^ 64 = 1 from rfl, Nat.and_one_is_mod, Nat.mod_mod_of_dvd]
    decide
  rw [h, wrap_in]
  simp only [inR]
  omega
set_option maxHeartbeats 4000000 in
theorem Listed_spec (b n : Nat) (hb : b < 2 ^ 60) (hn : n ≤ 60) : Fn Try.prog 48 [int b, int n] (ints (listed b n)) := by
  refine Fn.hide (D := fun r : List Int => ints r) fun c hc => ?_
  have hc0 := hc.h
  refine Fn.of_ex (cuts := []) tys hM Try.func48 rfl Try.call48 rfl ?_
  show exC Try.prog T [] _ false none 0 (entry 22 [int b, int n]) (finQ T [ResultVar.tmp 4] _)
  conv => whnf
  repeat' first | ((first | refine Ob.a ?_ | refine Sp.tt ?_ | refine Sp.ff ?_ | refine Sp.yes ?_ | refine Sp.no ?_ | refine Sp.nyes ?_ | refine Sp.nno ?_);conv=>whnf) | (refine Sp.ne (fun hc => ?_) (fun hc => ?_) <;> (conv=>whnf)) | (refine Sp.dec (fun hc => ?_) (fun hc => ?_) <;> (conv=>whnf)) | (refine Sp.ndec (fun hc => ?_) (fun hc => ?_) <;> (conv=>whnf)) | (refine Sp.mk (fun hc => ?_) (fun hc => ?_) <;> (conv=>whnf)) | (refine Fi.a ?_;conv=>whnf) | (refine Ob.b ?_;conv=>whnf)
  refine Lp.snap [0, 1, 4, 21] 40 ?_
  (conv=>whnf)
  refine LpB.go 22 ({q : Int × List Int // (0 ≤ q.1 ∧ q.1 ≤ n) ∧ q.2 = listed b q.1.toNat}) 0 (fun ⟨(i, o), _⟩ nx => ([(6, .d (int i)), (5, .ms 1 1 0 o.length)], [(1, .row true 3 1 o.length (rowOf int 0 o))])) (fun p => (n - p.1.1).toNat) (⟨(0, []), ⟨by simp, by simp⟩, rfl⟩) ?_ ?_
  · rintro ⟨⟨i, o⟩, ⟨i0, i1⟩, ho⟩
    simp only at i0 i1 ho
    have hb2 := bitAnd b i.toNat
    have hlen : o.length ≤ i.toNat := by rw [ho]; exact lst_length_le _ _
    have hs : listed b (i + 1).toNat = o ++ if b / 2 ^ i.toNat % 2 = 1 then [i] else [] := by
      rw [show (i + 1).toNat = i.toNat + 1 by omega, listed, lst_succ, ho]
      congr 1
      unfold bset
      rw [Int.toNat_of_nonneg i0]
      simp
    have he : ¬ i < n → o = c := fun hi => by rw [ho, ← hc0, show i.toNat = n by omega]
    have h60 : i < n → i < 64 := fun hi => by omega
    by_cases hbit : b / 2 ^ i.toNat % 2 = 1
    · rw [if_pos hbit] at hs
      have hq : ((b / 2 ^ i.toNat % 2 : Nat) : Int) = 1 := by omega
      rw [hq] at hb2
      conv => whnf
      repeat' first | ((first | refine Ob.a ?_ | refine Sp.tt ?_ | refine Sp.ff ?_ | refine Sp.yes ?_ | refine Sp.no ?_ | refine Sp.nyes ?_ | refine Sp.nno ?_);conv=>whnf) | (refine Sp.ne (fun hc => ?_) (fun hc => ?_) <;> (conv=>whnf)) | (refine Sp.dec (fun hc => ?_) (fun hc => ?_) <;> (conv=>whnf)) | (refine Sp.ndec (fun hc => ?_) (fun hc => ?_) <;> (conv=>whnf)) | (refine Sp.mk (fun hc => ?_) (fun hc => ?_) <;> (conv=>whnf)) | (refine Fi.a ?_;conv=>whnf) | (refine Ob.b ?_;conv=>whnf)
      all_goals first | (have e := he (by omega); exact Lf) | exact ⟨rfl, ⟨(i + 1, o ++ [i]), ⟨by simp only; omega, by simp only; omega⟩, hs.symm⟩, Lf, by simp only; omega⟩
    · rw [if_neg hbit, List.append_nil] at hs
      have hq : ((b / 2 ^ i.toNat % 2 : Nat) : Int) = 0 := by omega
      rw [hq] at hb2
      conv => whnf
      repeat' first | ((first | refine Ob.a ?_ | refine Sp.tt ?_ | refine Sp.ff ?_ | refine Sp.yes ?_ | refine Sp.no ?_ | refine Sp.nyes ?_ | refine Sp.nno ?_);conv=>whnf) | (refine Sp.ne (fun hc => ?_) (fun hc => ?_) <;> (conv=>whnf)) | (refine Sp.dec (fun hc => ?_) (fun hc => ?_) <;> (conv=>whnf)) | (refine Sp.ndec (fun hc => ?_) (fun hc => ?_) <;> (conv=>whnf)) | (refine Sp.mk (fun hc => ?_) (fun hc => ?_) <;> (conv=>whnf)) | (refine Fi.a ?_;conv=>whnf) | (refine Ob.b ?_;conv=>whnf)
      all_goals first | (have e := he (by omega); exact Lf) | exact ⟨rfl, ⟨(i + 1, o), ⟨by simp only; omega, by simp only; omega⟩, hs.symm⟩, Lf, by simp only; omega⟩
  · exact Lf
/-- Lists that agree so far. -/
theorem lessL_same : ∀ (k : Nat) (a b : List Int), k ≤ a.length → k ≤ b.length → (∀ j, j < k → a.getD j 0 = b.getD j 0) → lessL a b = lessL (a.drop k) (b.drop k)
  | 0, _, _, _, _, _ => rfl
  | k + 1, [], _, h, _, _ => by simp at h
  | k + 1, _, [], _, h, _ => by simp at h
  | k + 1, x :: a, y :: b, h1, h2, h3 => by
    have h0 : x = y := by have := h3 0 (by omega); simpa using this
    subst h0
    rw [lessL, if_neg (by simp), List.drop_succ_cons, List.drop_succ_cons]
    exact lessL_same k a b (by simpa using h1) (by simpa using h2) fun j hj => by have := h3 (j + 1) (by omega); simpa using this
set_option maxHeartbeats 4000000 in
theorem less_spec (a b : List Int) (ha : a.length < 1000000) (hb : b.length < 1000000) : Fn Try.prog 90 [ints a, ints b] (bool (lessL a b)) := by
  refine Fn.hide (D := fun r : Bool => bool r) fun c hc => ?_
  have hc0 := hc.h
  refine Fn.of_ex (cuts := []) tys hM Try.func90 rfl Try.call90 rfl ?_
  show exC Try.prog T [] _ false none 0 (entry 41 [ints a, ints b]) (finQ T [ResultVar.tmp 4] _)
  conv => whnf
  repeat' first | ((first | refine Ob.a ?_ | refine Sp.tt ?_ | refine Sp.ff ?_ | refine Sp.yes ?_ | refine Sp.no ?_ | refine Sp.nyes ?_ | refine Sp.nno ?_);conv=>whnf) | (refine Sp.ne (fun hc => ?_) (fun hc => ?_) <;> (conv=>whnf)) | (refine Sp.dec (fun hc => ?_) (fun hc => ?_) <;> (conv=>whnf)) | (refine Sp.ndec (fun hc => ?_) (fun hc => ?_) <;> (conv=>whnf)) | (refine Sp.mk (fun hc => ?_) (fun hc => ?_) <;> (conv=>whnf)) | (refine Fi.a ?_;conv=>whnf) | (refine Ob.b ?_;conv=>whnf)
  refine Lp.snap [0, 1, 36, 37, 38, 39, 40] 40 ?_
  (conv=>whnf)
  refine LpB.go 41 ({i : Int // (0 ≤ i ∧ i ≤ a.length ∧ i ≤ b.length) ∧ ∀ j, j < i.toNat → a.getD j 0 = b.getD j 0}) 0 (fun ⟨i, _⟩ nx => ([(5, .d (int i))], [])) (fun p => (a.length - p.1).toNat) (⟨0, ⟨by omega, by omega, by omega⟩, fun j hj => by simp at hj⟩) ?_ ?_
  · rintro ⟨i, ⟨i0, i1, i2⟩, hinv⟩
    have hs := lessL_same i.toNat a b (by omega) (by omega) hinv
    rw [hc0] at hs
    have f1 : i < a.length → i < b.length → a.getD i.toNat 0 ≠ b.getD i.toNat 0 → decide (a.getD i.toNat 0 < b.getD i.toNat 0) = c := fun h1 h2 h3 => by
      rw [hs, drop_getD 0 (show i.toNat < a.length by omega), drop_getD 0 (show i.toNat < b.length by omega), lessL, if_pos h3]
    have f2 : i < a.length → i < b.length → a.getD i.toNat 0 = b.getD i.toNat 0 → ∀ j, j < (i + 1).toNat → a.getD j 0 = b.getD j 0 := fun h1 h2 h3 j hj => by
      by_cases e : j < i.toNat
      · exact hinv j e
      · obtain rfl : j = i.toNat := by omega
        exact h3
    have f3 : (¬ i < a.length ∨ ¬ i < b.length) → decide ((a.length : Int) < b.length) = c := fun h => by
      rw [hs]
      by_cases h1 : i < a.length
      · have h2 : ¬ i < b.length := by omega
        rw [drop_getD 0 (show i.toNat < a.length by omega), List.drop_eq_nil_of_le (show b.length ≤ i.toNat by omega), lessL]
        exact decide_eq_false (by omega)
      · rw [List.drop_eq_nil_of_le (show a.length ≤ i.toNat by omega)]
        by_cases h2 : i < b.length
        · rw [drop_getD 0 (show i.toNat < b.length by omega), lessL]
          exact decide_eq_true (by omega)
        · rw [List.drop_eq_nil_of_le (show b.length ≤ i.toNat by omega), lessL]
          exact decide_eq_false (by omega)
    conv => whnf
    repeat' first | ((first | refine Ob.a ?_ | refine Sp.tt ?_ | refine Sp.ff ?_ | refine Sp.yes ?_ | refine Sp.no ?_ | refine Sp.nyes ?_ | refine Sp.nno ?_);conv=>whnf) | (refine Sp.ne (fun hc => ?_) (fun hc => ?_) <;> (conv=>whnf)) | (refine Sp.dec (fun hc => ?_) (fun hc => ?_) <;> (conv=>whnf)) | (refine Sp.ndec (fun hc => ?_) (fun hc => ?_) <;> (conv=>whnf)) | (refine Sp.mk (fun hc => ?_) (fun hc => ?_) <;> (conv=>whnf)) | (refine Fi.a ?_;conv=>whnf) | (refine Ob.b ?_;conv=>whnf)
    all_goals first | (have e := f1 (by omega) (by omega) (by assumption); exact Lf) | (have e := f2 (by omega) (by omega) (by omega); exact ⟨rfl, ⟨i + 1, ⟨by omega, by omega, by omega⟩, e⟩, Lf, by simp only; omega⟩) | (have e := f3 (by omega); exact Lf)
  · exact Lf
end Go.Px.Try

/-! Rf3 -/
namespace Go.Px.Try
open Go Go.Proofs Go.Px
theorem pow10 {n : Nat} (h : n ≤ 10) : 2 ^ n ≤ 1024 := Nat.le_trans (Nat.pow_le_pow_right (by omega) h) (by decide)
theorem listed_in (r : Row) (b : Nat) : LotsIn r (listed b r.lots.length) := fun x hx => by
  obtain ⟨i, h1, _, rfl⟩ := mem_lst.1 hx
  exact ⟨by omega, by omega⟩
theorem listed_len (b n : Nat) : (listed b n).length ≤ n := lst_length_le _ _
theorem headD_getD {α : Type} (l : List α) (d : α) : l.headD d = l.getD 0 d := by cases l <;> rfl
theorem row_swap {α : Type} {enc : α → DV} {d a b : α} {l l' : List α} {i n : Nat} {va vb : DV} (ha : va = enc a) (hb : vb = enc b) (h : ∀ j, j < n → l'.getD j d = if j = i then a else if j = 0 then b else l.getD j d) : ∀ j, j < n → CImp (upE i va (upE 0 vb (rowOf enc d l)) j) (rowOf enc d l' j) := by
  subst ha; subst hb
  intro j hj
  unfold upE rowOf
  rw [h j hj]
  by_cases h1 : j = i
  · rw [if_pos h1, if_pos h1]; exact CImp.refl _
  · rw [if_neg h1, if_neg h1]
    by_cases h2 : j = 0
    · rw [if_pos h2, if_pos h2]; exact CImp.refl _
    · rw [if_neg h2, if_neg h2]; exact CImp.refl _
theorem row_first {α : Type} {enc : α → DV} {d : α} {x : α} {f g : Nat → DV} (h : CImp (g 0) (enc x)) : ∀ j, j < [x].length → CImp (apd 0 f g j) (rowOf enc d [x] j) := by
  intro j hj
  have : j = 0 := by simpa using hj
  subst this
  exact h
/-- What is known of all lists that are found. -/
theorem bestGo_listed (r : Row) : ∀ b, ∀ l ∈ bestGo r b, ∃ c, l = listed c r.lots.length := fun b l hl => by
  obtain ⟨⟨c, _, h⟩, _⟩ := (bestGo_inv r b).sub l hl
  exact ⟨c, h⟩
theorem bestGo_len (r : Row) : ∀ b, (bestGo r b).length ≤ b
  | 0 => Nat.le_refl _
  | b + 1 => by
    have := bestGo_len r b
    show (bstepP r (bestGo r b) _).length ≤ _
    unfold bstepP
    split
    · have h1 : (bstep1 r (bestGo r b) (listed b r.lots.length)).length ≤ (bestGo r b).length := by
        unfold bstep1; split <;> simp
      split
      · rw [List.length_append]; simp; omega
      · omega
    · omega
def tabL (l : List (List Int)) : DV := slOf 1 ints [] l
set_option maxRecDepth 100000 in
set_option maxHeartbeats 8000000 in
theorem Best_spec (r : Row) (hr : RowOk r) : Fn Try.prog 69 [rowD r] (tabL (bestL r)) := by
  have h10 := hr.l10
  have h12 := hr.w12
  have hpw := pow10 h10
  have hpi : (0 : Int) ≤ 1 * 2 ^ ((r.lots.length : Int)).toNat ∧ (1 : Int) * 2 ^ ((r.lots.length : Int)).toNat ≤ 4096 := by
    rw [Int.toNat_natCast, Int.one_mul]
    have e : ((2 : Int) ^ r.lots.length) = ((2 ^ r.lots.length : Nat) : Int) := by simp
    rw [e]; exact ⟨Int.natCast_nonneg _, Int.ofNat_le.2 (Nat.le_trans hpw (show 1024 ≤ 4096 by decide))⟩
  have hpe : (1 : Int) * 2 ^ ((r.lots.length : Int)).toNat = ((2 ^ r.lots.length : Nat) : Int) := by simp
  have hsh : r.lots.length < 64 := by omega
  have hLi := fun (b : Nat) (hb : b < 2 ^ r.lots.length) => Listed_spec b r.lots.length (Nat.lt_of_lt_of_le hb (Nat.le_trans hpw (by decide))) (by omega)
  have hEx := fun (b : Nat) => Explains_spec r (listed b r.lots.length) (listed_in r b) (by have := listed_len b r.lots.length; omega) (by omega) (by omega)
  have hCa := fun (l : List Int) (hl : ∃ c, l = listed c r.lots.length) => Calls_spec r l hr (by obtain ⟨c, rfl⟩ := hl; exact listed_in r c) (by obtain ⟨c, rfl⟩ := hl; have := listed_len c r.lots.length; omega)
  have hCr := callsL_rng hr
  generalize hfin : bestL r = fin
  refine Fn.of_ex (cuts := []) tys hM Try.func69 rfl Try.call69 rfl ?_
  show exC Try.prog T [] _ false none 0 (entry 83 [rowD r]) (finQ T [ResultVar.tmp 2] _)
  conv => whnf
  repeat' first | ((first | refine Ob.a ?_ | refine Sp.tt ?_ | refine Sp.ff ?_ | refine Sp.yes ?_ | refine Sp.no ?_ | refine Sp.nyes ?_ | refine Sp.nno ?_);conv=>whnf) | (refine Sp.ne (fun hc => ?_) (fun hc => ?_) <;> (conv=>whnf)) | (refine Sp.dec (fun hc => ?_) (fun hc => ?_) <;> (conv=>whnf)) | (refine Sp.ndec (fun hc => ?_) (fun hc => ?_) <;> (conv=>whnf)) | (refine Sp.mk (fun hc => ?_) (fun hc => ?_) <;> (conv=>whnf)) | (refine Fi.a ?_;conv=>whnf) | (refine Ob.b ?_;conv=>whnf)
  refine Lp.snap [0, 1, 2, 6, 56, 57, 58, 60, 61, 62, 63, 64, 65, 66, 67, 68, 70, 71, 72, 73, 74, 75, 76, 77, 78, 79, 80, 81, 82] 40 ?_
  (conv=>whnf)
  refine LpB.go 83 ({q : Nat × List (List Int) // q.1 ≤ 2 ^ r.lots.length ∧ q.2 = bestGo r q.1}) 0 (fun ⟨(b, o), _⟩ nx => ([(4, .d (int b)), (3, .ms 2 1 0 o.length)], [(2, .row true 23 1 o.length (rowOf ints [] o))])) (fun p => 2 ^ r.lots.length - p.1.1) (⟨(0, []), by simp, rfl⟩) ?_ ?_
  · rintro ⟨⟨b, o⟩, hb, ho⟩
    simp only at hb ho
    have hol : o.length ≤ b := ho ▸ bestGo_len r b
    have hol2 := bestGo_listed r b
    rw [← ho] at hol2
    have ho0 : 0 < o.length → ∃ c, o.getD 0 [] = listed c r.lots.length := fun h => hol2 _ (getD_mem h [])
    have hC1 := hCa (listed b r.lots.length) ⟨b, rfl⟩
    have hC0 := fun h => hCa (o.getD 0 []) (ho0 h)
    have hE := hEx b
    have hLb := hLi b
    have g : bestGo r (b + 1) = bstepP r o (listed b r.lots.length) := by rw [ho]; rfl
    have g0 : ¬ explL r (listed b r.lots.length) → o = bestGo r (b + 1) := fun h => by rw [g]; unfold bstepP; rw [if_neg h]
    have b1 : 0 < o.length → callsL r (listed b r.lots.length) < callsL r (o.getD 0 []) → bstep1 r o (listed b r.lots.length) = [] := fun h h' => by
      unfold bstep1; rw [headD_getD, if_pos ⟨fun e => by rw [e] at h; simp at h, h'⟩]
    have b2 : (¬ 0 < o.length ∨ ¬ callsL r (listed b r.lots.length) < callsL r (o.getD 0 [])) → bstep1 r o (listed b r.lots.length) = o := fun h => by
      unfold bstep1; rw [headD_getD, if_neg]
      rintro ⟨h1, h2⟩
      have := List.length_pos_iff.2 h1
      omega
    have g1 : explL r (listed b r.lots.length) → 0 < o.length → callsL r (listed b r.lots.length) < callsL r (o.getD 0 []) → [listed b r.lots.length] = bestGo r (b + 1) := fun h h' h'' => by
      rw [g]; unfold bstepP; rw [if_pos h, b1 h' h'', if_pos (.inl rfl)]; rfl
    have g2 : explL r (listed b r.lots.length) → (¬ 0 < o.length ∨ (¬ callsL r (listed b r.lots.length) < callsL r (o.getD 0 []) ∧ callsL r (listed b r.lots.length) = callsL r (o.getD 0 []))) → o ++ [listed b r.lots.length] = bestGo r (b + 1) := fun h h' => by
      rw [g]; unfold bstepP; rw [if_pos h, b2 (by omega), headD_getD, if_pos]
      rcases h' with h' | h'
      · exact .inl (List.length_eq_zero_iff.1 (by omega))
      · exact .inr h'.2
    have g3 : explL r (listed b r.lots.length) → 0 < o.length → ¬ callsL r (listed b r.lots.length) < callsL r (o.getD 0 []) → ¬ callsL r (listed b r.lots.length) = callsL r (o.getD 0 []) → o = bestGo r (b + 1) := fun h h' h2 h3 => by
      rw [g]; unfold bstepP; rw [if_pos h, b2 (by omega), headD_getD, if_neg]
      rintro (h4 | h4)
      · rw [h4] at h'; simp at h'
      · exact h3 h4
    by_cases hbl : b < 2 ^ r.lots.length
    · have hLb := hLb hbl
      clear hEx hCa hLi hol2
      by_cases hex : explL r (listed b r.lots.length)
      case neg =>
        have e := g0 hex
        conv => whnf
        repeat' first | ((first | refine Ob.a ?_ | refine Sp.tt ?_ | refine Sp.ff ?_ | refine Sp.yes ?_ | refine Sp.no ?_ | refine Sp.nyes ?_ | refine Sp.nno ?_);conv=>whnf) | (refine Sp.ne (fun hc => ?_) (fun hc => ?_) <;> (conv=>whnf)) | (refine Sp.dec (fun hc => ?_) (fun hc => ?_) <;> (conv=>whnf)) | (refine Sp.ndec (fun hc => ?_) (fun hc => ?_) <;> (conv=>whnf)) | (refine Sp.mk (fun hc => ?_) (fun hc => ?_) <;> (conv=>whnf)) | (apply Cl.go;(conv=>whnf); (first | refine Ob.call (hLb) ?_ | refine Ob.call (hE) ?_);(conv=>whnf)) | (refine Fi.a ?_;conv=>whnf) | (refine Ob.b ?_;conv=>whnf)
        exact ⟨rfl, ⟨(b + 1, o), hbl, e⟩, Lf, by simp only; omega⟩
      by_cases hz : 0 < o.length
      case neg =>
        have e := g2 hex (.inl hz)
        conv => whnf
        repeat' first | ((first | refine Ob.a ?_ | refine Sp.tt ?_ | refine Sp.ff ?_ | refine Sp.yes ?_ | refine Sp.no ?_ | refine Sp.nyes ?_ | refine Sp.nno ?_);conv=>whnf) | (refine Sp.ne (fun hc => ?_) (fun hc => ?_) <;> (conv=>whnf)) | (refine Sp.dec (fun hc => ?_) (fun hc => ?_) <;> (conv=>whnf)) | (refine Sp.ndec (fun hc => ?_) (fun hc => ?_) <;> (conv=>whnf)) | (refine Sp.mk (fun hc => ?_) (fun hc => ?_) <;> (conv=>whnf)) | (apply Cl.go;(conv=>whnf); (first | refine Ob.call (hLb) ?_ | refine Ob.call (hE) ?_);(conv=>whnf)) | (refine Fi.a ?_;conv=>whnf) | (refine Ob.b ?_;conv=>whnf)
        exact ⟨rfl, ⟨(b + 1, o ++ [listed b r.lots.length]), hbl, e⟩, Lf, by simp only; omega⟩
      have hC0 := hC0 hz
      by_cases hlt : callsL r (listed b r.lots.length) < callsL r (o.getD 0 [])
      · have e := g1 hex hz hlt
        generalize callsL r (listed b r.lots.length) = c1 at *
        generalize callsL r (o.getD 0 []) = c0 at *
        conv => whnf
        repeat' first | ((first | refine Ob.a ?_ | refine Sp.tt ?_ | refine Sp.ff ?_ | refine Sp.yes ?_ | refine Sp.no ?_ | refine Sp.nyes ?_ | refine Sp.nno ?_);conv=>whnf) | (refine Sp.ne (fun hc => ?_) (fun hc => ?_) <;> (conv=>whnf)) | (refine Sp.dec (fun hc => ?_) (fun hc => ?_) <;> (conv=>whnf)) | (refine Sp.ndec (fun hc => ?_) (fun hc => ?_) <;> (conv=>whnf)) | (refine Sp.mk (fun hc => ?_) (fun hc => ?_) <;> (conv=>whnf)) | (apply Cl.go;(conv=>whnf); (first | refine Ob.call (hLb) ?_ | refine Ob.call (hE) ?_ | refine Ob.call (hC1) ?_ | refine Ob.call (hC0) ?_);(conv=>whnf)) | (refine Fi.a ?_;conv=>whnf) | (refine Ob.b ?_;conv=>whnf)
        refine ⟨rfl, ⟨(b + 1, [listed b r.lots.length]), hbl, e⟩, ?_, by simp only; omega⟩
        repeat' first | (refine Edge.fast ?_) | ((conv=>whnf); first | exact True.intro | (refine And.intro ?_ ?_) | exact rfl | exact Nat.le_of_eq (Nat.zero_add _) | exact ImpS.refl _ | ((conv => arg 1; whnf); first | exact ImpS.refl _ | (refine ImpS.nil_eq ?_) | (refine ImpS.vnil_eq ?_) | (refine ImpS.row ?_) | (refine ImpS.rowN ?_ ?_) | (refine ImpS.sl_eq ?_) | (refine ImpS.expl rfl ?_)) | (refine row_snoc' ?_) | (apply row_upd) | exact cimp_none | exact cimp_same | exact List.not_mem_nil | exact DImp.refl _) | exact rfl | (refine And.intro ?_ ?_) | exact ImpS.refl _
        all_goals first | omega | refine row_first ?_
        repeat' first | (refine Edge.fast ?_) | ((conv=>whnf); first | exact True.intro | (refine And.intro ?_ ?_) | exact rfl | exact Nat.le_of_eq (Nat.zero_add _) | exact ImpS.refl _ | ((conv => arg 1; whnf); first | exact ImpS.refl _ | (refine ImpS.nil_eq ?_) | (refine ImpS.vnil_eq ?_) | (refine ImpS.row ?_) | (refine ImpS.rowN ?_ ?_) | (refine ImpS.sl_eq ?_) | (refine ImpS.expl rfl ?_)) | (refine row_snoc' ?_) | (apply row_upd) | exact cimp_none | exact cimp_same | exact List.not_mem_nil | exact DImp.refl _) | exact rfl | (refine And.intro ?_ ?_) | exact ImpS.refl _
      · by_cases heq : callsL r (listed b r.lots.length) = callsL r (o.getD 0 [])
        · have e := g2 hex (.inr ⟨hlt, heq⟩)
          generalize callsL r (listed b r.lots.length) = c1 at *
          generalize callsL r (o.getD 0 []) = c0 at *
          conv => whnf
          repeat' first | ((first | refine Ob.a ?_ | refine Sp.tt ?_ | refine Sp.ff ?_ | refine Sp.yes ?_ | refine Sp.no ?_ | refine Sp.nyes ?_ | refine Sp.nno ?_);conv=>whnf) | (refine Sp.ne (fun hc => ?_) (fun hc => ?_) <;> (conv=>whnf)) | (refine Sp.dec (fun hc => ?_) (fun hc => ?_) <;> (conv=>whnf)) | (refine Sp.ndec (fun hc => ?_) (fun hc => ?_) <;> (conv=>whnf)) | (refine Sp.mk (fun hc => ?_) (fun hc => ?_) <;> (conv=>whnf)) | (apply Cl.go;(conv=>whnf); (first | refine Ob.call (hLb) ?_ | refine Ob.call (hE) ?_ | refine Ob.call (hC1) ?_ | refine Ob.call (hC0) ?_);(conv=>whnf)) | (refine Fi.a ?_;conv=>whnf) | (refine Ob.b ?_;conv=>whnf)
          exact ⟨rfl, ⟨(b + 1, o ++ [listed b r.lots.length]), hbl, e⟩, Lf, by simp only; omega⟩
        · have e := g3 hex hz hlt heq
          generalize callsL r (listed b r.lots.length) = c1 at *
          generalize callsL r (o.getD 0 []) = c0 at *
          conv => whnf
          repeat' first | ((first | refine Ob.a ?_ | refine Sp.tt ?_ | refine Sp.ff ?_ | refine Sp.yes ?_ | refine Sp.no ?_ | refine Sp.nyes ?_ | refine Sp.nno ?_);conv=>whnf) | (refine Sp.ne (fun hc => ?_) (fun hc => ?_) <;> (conv=>whnf)) | (refine Sp.dec (fun hc => ?_) (fun hc => ?_) <;> (conv=>whnf)) | (refine Sp.ndec (fun hc => ?_) (fun hc => ?_) <;> (conv=>whnf)) | (refine Sp.mk (fun hc => ?_) (fun hc => ?_) <;> (conv=>whnf)) | (apply Cl.go;(conv=>whnf); (first | refine Ob.call (hLb) ?_ | refine Ob.call (hE) ?_ | refine Ob.call (hC1) ?_ | refine Ob.call (hC0) ?_);(conv=>whnf)) | (refine Fi.a ?_;conv=>whnf) | (refine Ob.b ?_;conv=>whnf)
          exact ⟨rfl, ⟨(b + 1, o), hbl, e⟩, Lf, by simp only; omega⟩
    · have hbe : b = 2 ^ r.lots.length := by omega
      have hfo : swapGo o (o.length - 1) = fin := by rw [ho, hbe] at *; exact hfin
      have hsl := fun i => swapGo_len o i
      have hmem : ∀ i j, i < o.length → j < o.length → ∃ c, (swapGo o i).getD j [] = listed c r.lots.length := fun i j h h' => hol2 _ ((swapGo_mem i h _).1 (getD_mem (by rw [hsl]; exact h') []))
      have hLe := fun i j (h : i < o.length) (h' : j < o.length) => less_spec ((swapGo o i).getD j []) ((swapGo o i).getD 0 []) (by obtain ⟨c, e⟩ := hmem i j h h'; rw [e]; have := listed_len c r.lots.length; omega) (by obtain ⟨c, e⟩ := hmem i 0 h (by omega); rw [e]; have := listed_len c r.lots.length; omega)
      conv => whnf
      repeat' first | ((first | refine Ob.a ?_ | refine Sp.tt ?_ | refine Sp.ff ?_ | refine Sp.yes ?_ | refine Sp.no ?_ | refine Sp.nyes ?_ | refine Sp.nno ?_);conv=>whnf) | (refine Sp.ne (fun hc => ?_) (fun hc => ?_) <;> (conv=>whnf)) | (refine Sp.dec (fun hc => ?_) (fun hc => ?_) <;> (conv=>whnf)) | (refine Sp.ndec (fun hc => ?_) (fun hc => ?_) <;> (conv=>whnf)) | (refine Sp.mk (fun hc => ?_) (fun hc => ?_) <;> (conv=>whnf)) | (refine Fi.a ?_;conv=>whnf) | (refine Ob.b ?_;conv=>whnf)
      refine Lp.snap [0, 2, 3, 82] 40 ?_
      (conv=>whnf)
      refine LpB.go 83 ({q : Int × List (List Int) // (1 ≤ q.1 ∧ (q.1 ≤ o.length ∨ q.1 = 1)) ∧ q.2 = swapGo o (q.1 - 1).toNat}) 0 (fun ⟨(i, s), _⟩ nx => ([(6, .d (int i)), (3, .ms 2 1 0 s.length)], [(2, .row true 23 1 s.length (rowOf ints [] s))])) (fun p => (o.length - p.1.1).toNat) (⟨(1, o), ⟨by omega, .inr rfl⟩, rfl⟩) ?_ ?_
      · rintro ⟨⟨i, s⟩, ⟨i0, i1⟩, hs⟩
        simp only at i0 i1 hs
        have hsl2 : s.length = o.length := by rw [hs, hsl]
        by_cases hil : i < s.length
        · have hL := hLe (i - 1).toNat i.toNat (by omega) (by omega)
          rw [← hs] at hL
          have hn : swapGo o (i + 1 - 1).toNat = swapP s i.toNat := by
            rw [show (i + 1 - 1).toNat = (i - 1).toNat + 1 by omega, swapGo, ← hs, show (i - 1).toNat + 1 = i.toNat by omega]
          cases hlb : lessL (s.getD i.toNat []) (s.getD 0 []) with
          | true =>
            have hn2 : swapP s i.toNat = (s.set 0 (s.getD i.toNat [])).set i.toNat (s.getD 0 []) := if_pos hlb
            rw [hlb] at hL
            have hrow : ∀ j, j < s.length → ((s.set 0 (s.getD i.toNat [])).set i.toNat (s.getD 0 [])).getD j [] = if j = i.toNat then s.getD 0 [] else if j = 0 then s.getD i.toNat [] else s.getD j [] := fun j hj => by
              rw [List.getD_eq_getElem?_getD, List.getElem?_set]
              by_cases e1 : i.toNat = j
              · rw [if_pos e1, if_pos e1.symm, if_pos (by simp; omega)]; rfl
              · rw [if_neg e1, if_neg fun h => e1 h.symm, List.getElem?_set]
                by_cases e2 : 0 = j
                · rw [if_pos e2, if_pos e2.symm, if_pos (by omega)]; rfl
                · rw [if_neg e2, if_neg fun h => e2 h.symm]; rfl
            conv => whnf
            repeat' first | ((first | refine Ob.a ?_ | refine Sp.tt ?_ | refine Sp.ff ?_ | refine Sp.yes ?_ | refine Sp.no ?_ | refine Sp.nyes ?_ | refine Sp.nno ?_);conv=>whnf) | (refine Sp.ne (fun hc => ?_) (fun hc => ?_) <;> (conv=>whnf)) | (refine Sp.dec (fun hc => ?_) (fun hc => ?_) <;> (conv=>whnf)) | (refine Sp.ndec (fun hc => ?_) (fun hc => ?_) <;> (conv=>whnf)) | (refine Sp.mk (fun hc => ?_) (fun hc => ?_) <;> (conv=>whnf)) | (apply Cl.go;(conv=>whnf); (first | refine Ob.call (hL) ?_);(conv=>whnf)) | (refine Fi.a ?_;conv=>whnf) | (refine Ob.b ?_;conv=>whnf)
            refine ⟨rfl, ⟨(i + 1, (s.set 0 (s.getD i.toNat [])).set i.toNat (s.getD 0 [])), ⟨by simp only; omega, by simp only; omega⟩, by rw [hn, hn2]⟩, ?_, by simp only; omega⟩
            repeat' first | (refine Edge.fast ?_) | ((conv=>whnf); first | exact True.intro | (refine And.intro ?_ ?_) | exact rfl | exact Nat.le_of_eq (Nat.zero_add _) | exact ImpS.refl _ | ((conv => arg 1; whnf); first | exact ImpS.refl _ | (refine ImpS.nil_eq ?_) | (refine ImpS.vnil_eq ?_) | (refine ImpS.row ?_) | (refine ImpS.rowN ?_ ?_) | (refine ImpS.sl_eq ?_) | (refine ImpS.expl rfl ?_)) | (refine row_snoc' ?_) | exact MImp.refl _ | exact cimp_none | exact cimp_same | exact List.not_mem_nil | exact DImp.refl _) | exact rfl | (refine And.intro ?_ ?_) | exact ImpS.refl _
            all_goals first | (simp; done) | omega | skip
            refine row_swap (enc := ints) (d := []) (i := 0 + i.toNat) (a := s.getD (0 + Int.toNat 0) []) (b := s.getD (0 + i.toNat) []) rfl rfl ?_
            rw [Nat.zero_add]
            exact fun j hj => hrow j (by simpa using hj)
          | false =>
            have hn2 : swapP s i.toNat = s := if_neg (by rw [hlb]; simp)
            rw [hlb] at hL
            conv => whnf
            repeat' first | ((first | refine Ob.a ?_ | refine Sp.tt ?_ | refine Sp.ff ?_ | refine Sp.yes ?_ | refine Sp.no ?_ | refine Sp.nyes ?_ | refine Sp.nno ?_);conv=>whnf) | (refine Sp.ne (fun hc => ?_) (fun hc => ?_) <;> (conv=>whnf)) | (refine Sp.dec (fun hc => ?_) (fun hc => ?_) <;> (conv=>whnf)) | (refine Sp.ndec (fun hc => ?_) (fun hc => ?_) <;> (conv=>whnf)) | (refine Sp.mk (fun hc => ?_) (fun hc => ?_) <;> (conv=>whnf)) | (apply Cl.go;(conv=>whnf); (first | refine Ob.call (hL) ?_);(conv=>whnf)) | (refine Fi.a ?_;conv=>whnf) | (refine Ob.b ?_;conv=>whnf)
            exact ⟨rfl, ⟨(i + 1, s), ⟨by simp only; omega, by simp only; omega⟩, by rw [hn, hn2]⟩, Lf, by simp only; omega⟩
        · have e : s = fin := by rw [hs, ← hfo]; congr 1; omega
          conv => whnf
          repeat' first | ((first | refine Ob.a ?_ | refine Sp.tt ?_ | refine Sp.ff ?_ | refine Sp.yes ?_ | refine Sp.no ?_ | refine Sp.nyes ?_ | refine Sp.nno ?_);conv=>whnf) | (refine Sp.ne (fun hc => ?_) (fun hc => ?_) <;> (conv=>whnf)) | (refine Sp.dec (fun hc => ?_) (fun hc => ?_) <;> (conv=>whnf)) | (refine Sp.ndec (fun hc => ?_) (fun hc => ?_) <;> (conv=>whnf)) | (refine Sp.mk (fun hc => ?_) (fun hc => ?_) <;> (conv=>whnf)) | (refine Fi.a ?_;conv=>whnf) | (refine Ob.b ?_;conv=>whnf)
          exact Lf
      · exact Lf
  · exact Lf
end Go.Px.Try

/-! Rf4 -/
namespace Go.Px.Try
open Go Go.Proofs Go.Px
set_option maxRecDepth 100000
def checkLotsR (r : Row) (l : List Int) : Int × Int :=
  if checkRow r ≠ 0 then (0, checkRow r) else if ¬ risingL l r.lots.length then (0, 2) else if ¬ explL r l then (0, 22) else (callsL r l, 0)
theorem risingL_in {r : Row} {l : List Int} (h : risingL l r.lots.length) : LotsIn r l := h.1
set_option maxHeartbeats 4000000 in
theorem CheckLots_spec (r : Row) (l : List Int) (h1 : r.lots.length < 1000000) (h2 : r.weak.length < 1000000) (h3 : l.length < 1000000) : Fn Try.prog 20 [rowD r, ints l] (tpl [int (checkLotsR r l).1, int (checkLotsR r l).2]) := by
  have hc := CheckRow_spec r h1 h2
  have hri := Rising_spec l r.lots.length h3
  by_cases hr : checkRow r = 0
  case neg =>
    have e : checkLotsR r l = (0, checkRow r) := if_pos hr
    rw [e]
    generalize checkRow r = c at *
    refine Fn.of_ex (cuts := []) tys hM Try.func20 rfl Try.call20 rfl ?_
    show exC Try.prog T [] _ false none 0 (entry 24 [rowD r, ints l]) (finQ T [ResultVar.tmp 4, ResultVar.tmp 5] _)
    conv => whnf
    repeat' first | ((first | refine Ob.a ?_ | refine Sp.tt ?_ | refine Sp.ff ?_ | refine Sp.yes ?_ | refine Sp.no ?_ | refine Sp.nyes ?_ | refine Sp.nno ?_);conv=>whnf) | (refine Sp.ne (fun hc => ?_) (fun hc => ?_) <;> (conv=>whnf)) | (refine Sp.dec (fun hc => ?_) (fun hc => ?_) <;> (conv=>whnf)) | (refine Sp.ndec (fun hc => ?_) (fun hc => ?_) <;> (conv=>whnf)) | (refine Sp.mk (fun hc => ?_) (fun hc => ?_) <;> (conv=>whnf)) | (apply Cl.go;(conv=>whnf); (first | refine Ob.call (hc) ?_);(conv=>whnf)) | (refine Fi.a ?_;conv=>whnf) | (refine Ob.b ?_;conv=>whnf)
    all_goals exact Lf
  have hok := checkRow_ok.1 hr
  by_cases hrl : risingL l r.lots.length
  case neg =>
    have e : checkLotsR r l = (0, 2) := by unfold checkLotsR; rw [if_neg (by omega), if_pos hrl]
    rw [e]
    rw [hr] at hc
    rw [decide_eq_false hrl] at hri
    refine Fn.of_ex (cuts := []) tys hM Try.func20 rfl Try.call20 rfl ?_
    show exC Try.prog T [] _ false none 0 (entry 24 [rowD r, ints l]) (finQ T [ResultVar.tmp 4, ResultVar.tmp 5] _)
    conv => whnf
    repeat' first | ((first | refine Ob.a ?_ | refine Sp.tt ?_ | refine Sp.ff ?_ | refine Sp.yes ?_ | refine Sp.no ?_ | refine Sp.nyes ?_ | refine Sp.nno ?_);conv=>whnf) | (refine Sp.ne (fun hc => ?_) (fun hc => ?_) <;> (conv=>whnf)) | (refine Sp.dec (fun hc => ?_) (fun hc => ?_) <;> (conv=>whnf)) | (refine Sp.ndec (fun hc => ?_) (fun hc => ?_) <;> (conv=>whnf)) | (refine Sp.mk (fun hc => ?_) (fun hc => ?_) <;> (conv=>whnf)) | (apply Cl.go;(conv=>whnf); (first | refine Ob.call (hc) ?_ | refine Ob.call (hri) ?_);(conv=>whnf)) | (refine Fi.a ?_;conv=>whnf) | (refine Ob.b ?_;conv=>whnf)
    all_goals exact Lf
  have hE := Explains_spec r l (risingL_in hrl) h3 h2 h1
  have hC := Calls_spec r l hok (risingL_in hrl) h3
  have e : checkLotsR r l = if ¬ explL r l then (0, 22) else (callsL r l, 0) := by unfold checkLotsR; rw [if_neg (by omega), if_neg (not_not_intro hrl)]
  rw [hr] at hc
  rw [decide_eq_true hrl] at hri
  rw [e]
  generalize callsL r l = n at *
  by_cases hex : explL r l
  · rw [if_neg (not_not_intro hex)]
    rw [decide_eq_true hex] at hE
    refine Fn.of_ex (cuts := []) tys hM Try.func20 rfl Try.call20 rfl ?_
    show exC Try.prog T [] _ false none 0 (entry 24 [rowD r, ints l]) (finQ T [ResultVar.tmp 4, ResultVar.tmp 5] _)
    conv => whnf
    repeat' first | ((first | refine Ob.a ?_ | refine Sp.tt ?_ | refine Sp.ff ?_ | refine Sp.yes ?_ | refine Sp.no ?_ | refine Sp.nyes ?_ | refine Sp.nno ?_);conv=>whnf) | (refine Sp.ne (fun hc => ?_) (fun hc => ?_) <;> (conv=>whnf)) | (refine Sp.dec (fun hc => ?_) (fun hc => ?_) <;> (conv=>whnf)) | (refine Sp.ndec (fun hc => ?_) (fun hc => ?_) <;> (conv=>whnf)) | (refine Sp.mk (fun hc => ?_) (fun hc => ?_) <;> (conv=>whnf)) | (apply Cl.go;(conv=>whnf); (first | refine Ob.call (hc) ?_ | refine Ob.call (hri) ?_ | refine Ob.call (hE) ?_ | refine Ob.call (hC) ?_);(conv=>whnf)) | (refine Fi.a ?_;conv=>whnf) | (refine Ob.b ?_;conv=>whnf)
    all_goals exact Lf
  · rw [if_pos hex]
    rw [decide_eq_false hex] at hE
    refine Fn.of_ex (cuts := []) tys hM Try.func20 rfl Try.call20 rfl ?_
    show exC Try.prog T [] _ false none 0 (entry 24 [rowD r, ints l]) (finQ T [ResultVar.tmp 4, ResultVar.tmp 5] _)
    conv => whnf
    repeat' first | ((first | refine Ob.a ?_ | refine Sp.tt ?_ | refine Sp.ff ?_ | refine Sp.yes ?_ | refine Sp.no ?_ | refine Sp.nyes ?_ | refine Sp.nno ?_);conv=>whnf) | (refine Sp.ne (fun hc => ?_) (fun hc => ?_) <;> (conv=>whnf)) | (refine Sp.dec (fun hc => ?_) (fun hc => ?_) <;> (conv=>whnf)) | (refine Sp.ndec (fun hc => ?_) (fun hc => ?_) <;> (conv=>whnf)) | (refine Sp.mk (fun hc => ?_) (fun hc => ?_) <;> (conv=>whnf)) | (apply Cl.go;(conv=>whnf); (first | refine Ob.call (hc) ?_ | refine Ob.call (hri) ?_ | refine Ob.call (hE) ?_ | refine Ob.call (hC) ?_);(conv=>whnf)) | (refine Fi.a ?_;conv=>whnf) | (refine Ob.b ?_;conv=>whnf)
    all_goals exact Lf
def rowError (r : Row) : Int := if checkRow r ≠ 0 then checkRow r else if explL r (listed (2 ^ r.lots.length - 1) r.lots.length) then 0 else 22
set_option maxHeartbeats 4000000 in
theorem RowError_spec (r : Row) (h1 : r.lots.length < 1000000) (h2 : r.weak.length < 1000000) : Fn Try.prog 40 [rowD r] (int (rowError r)) := by
  have hc := CheckRow_spec r h1 h2
  by_cases hr : checkRow r = 0
  case neg =>
    have e : rowError r = checkRow r := if_pos hr
    rw [e]
    generalize checkRow r = c at *
    refine Fn.of_ex (cuts := []) tys hM Try.func40 rfl Try.call40 rfl ?_
    show exC Try.prog T [] _ false none 0 (entry 20 [rowD r]) (finQ T [ResultVar.tmp 2] _)
    conv => whnf
    repeat' first | ((first | refine Ob.a ?_ | refine Sp.tt ?_ | refine Sp.ff ?_ | refine Sp.yes ?_ | refine Sp.no ?_ | refine Sp.nyes ?_ | refine Sp.nno ?_);conv=>whnf) | (refine Sp.ne (fun hc => ?_) (fun hc => ?_) <;> (conv=>whnf)) | (refine Sp.dec (fun hc => ?_) (fun hc => ?_) <;> (conv=>whnf)) | (refine Sp.ndec (fun hc => ?_) (fun hc => ?_) <;> (conv=>whnf)) | (refine Sp.mk (fun hc => ?_) (fun hc => ?_) <;> (conv=>whnf)) | (apply Cl.go;(conv=>whnf); (first | refine Ob.call (hc) ?_);(conv=>whnf)) | (refine Fi.a ?_;conv=>whnf) | (refine Ob.b ?_;conv=>whnf)
    all_goals exact Lf
  have hok := checkRow_ok.1 hr
  have h10 := hok.l10
  have hpw := pow10 h10
  have hpi : (0 : Int) ≤ 1 * 2 ^ ((r.lots.length : Int)).toNat ∧ (1 : Int) * 2 ^ ((r.lots.length : Int)).toNat ≤ 4096 := by
    rw [Int.toNat_natCast, Int.one_mul]
    have e : ((2 : Int) ^ r.lots.length) = ((2 ^ r.lots.length : Nat) : Int) := by simp
    rw [e]; exact ⟨Int.natCast_nonneg _, Int.ofNat_le.2 (Nat.le_trans hpw (show 1024 ≤ 4096 by decide))⟩
  have hp0 : 0 < 2 ^ r.lots.length := Nat.two_pow_pos _
  have hpe : (1 : Int) * 2 ^ ((r.lots.length : Int)).toNat - 1 = ((2 ^ r.lots.length - 1 : Nat) : Int) := by
    rw [Int.toNat_natCast, Int.one_mul]
    have e : ((2 : Int) ^ r.lots.length) = ((2 ^ r.lots.length : Nat) : Int) := by simp
    rw [e]; omega
  have hsh : r.lots.length < 64 := by omega
  have hLi := Listed_spec (2 ^ r.lots.length - 1) r.lots.length (Nat.lt_of_lt_of_le (show _ < 2 ^ r.lots.length by omega) (Nat.le_trans hpw (by decide))) (by omega)
  have hE := Explains_spec r (listed (2 ^ r.lots.length - 1) r.lots.length) (listed_in r _) (by have := listed_len (2 ^ r.lots.length - 1) r.lots.length; omega) h2 h1
  rw [← hpe] at hLi
  have e : rowError r = if explL r (listed (2 ^ r.lots.length - 1) r.lots.length) then 0 else 22 := if_neg (by omega)
  rw [e]
  rw [hr] at hc
  generalize listed (2 ^ r.lots.length - 1) r.lots.length = l at *
  by_cases hex : explL r l
  · rw [if_pos hex]
    rw [decide_eq_true hex] at hE
    refine Fn.of_ex (cuts := []) tys hM Try.func40 rfl Try.call40 rfl ?_
    show exC Try.prog T [] _ false none 0 (entry 20 [rowD r]) (finQ T [ResultVar.tmp 2] _)
    conv => whnf
    repeat' first | ((first | refine Ob.a ?_ | refine Sp.tt ?_ | refine Sp.ff ?_ | refine Sp.yes ?_ | refine Sp.no ?_ | refine Sp.nyes ?_ | refine Sp.nno ?_);conv=>whnf) | (refine Sp.ne (fun hc => ?_) (fun hc => ?_) <;> (conv=>whnf)) | (refine Sp.dec (fun hc => ?_) (fun hc => ?_) <;> (conv=>whnf)) | (refine Sp.ndec (fun hc => ?_) (fun hc => ?_) <;> (conv=>whnf)) | (refine Sp.mk (fun hc => ?_) (fun hc => ?_) <;> (conv=>whnf)) | (apply Cl.go;(conv=>whnf); (first | refine Ob.call (hc) ?_ | refine Ob.call (hLi) ?_ | refine Ob.call (hE) ?_);(conv=>whnf)) | (refine Fi.a ?_;conv=>whnf) | (refine Ob.b ?_;conv=>whnf)
    all_goals exact Lf
  · rw [if_neg hex]
    rw [decide_eq_false hex] at hE
    refine Fn.of_ex (cuts := []) tys hM Try.func40 rfl Try.call40 rfl ?_
    show exC Try.prog T [] _ false none 0 (entry 20 [rowD r]) (finQ T [ResultVar.tmp 2] _)
    conv => whnf
    repeat' first | ((first | refine Ob.a ?_ | refine Sp.tt ?_ | refine Sp.ff ?_ | refine Sp.yes ?_ | refine Sp.no ?_ | refine Sp.nyes ?_ | refine Sp.nno ?_);conv=>whnf) | (refine Sp.ne (fun hc => ?_) (fun hc => ?_) <;> (conv=>whnf)) | (refine Sp.dec (fun hc => ?_) (fun hc => ?_) <;> (conv=>whnf)) | (refine Sp.ndec (fun hc => ?_) (fun hc => ?_) <;> (conv=>whnf)) | (refine Sp.mk (fun hc => ?_) (fun hc => ?_) <;> (conv=>whnf)) | (apply Cl.go;(conv=>whnf); (first | refine Ob.call (hc) ?_ | refine Ob.call (hLi) ?_ | refine Ob.call (hE) ?_);(conv=>whnf)) | (refine Fi.a ?_;conv=>whnf) | (refine Ob.b ?_;conv=>whnf)
    all_goals exact Lf
def leastR (r : Row) : Int × Int := if rowError r ≠ 0 then (0, rowError r) else (callsL r ((bestL r).getD 0 []), 0)
def lotsR (r : Row) : List Int × Int := if rowError r ≠ 0 then ([], rowError r) else ((bestL r).getD 0 [], 0)
theorem rowError_ok {r : Row} : rowError r = 0 ↔ RowOk r ∧ ∃ S, E r S := by
  unfold rowError
  rw [← checkRow_ok, ← full_iff]
  split
  · rename_i h; exact ⟨fun e => absurd e h, fun e => absurd e.1 h⟩
  · rename_i h
    split
    · rename_i h2; exact ⟨fun _ => ⟨Decidable.of_not_not h, h2⟩, fun _ => rfl⟩
    · rename_i h2; exact ⟨fun e => by omega, fun e => absurd e.2 h2⟩
theorem head_in {r : Row} (h : ∃ S, E r S) : LotsIn r ((bestL r).getD 0 []) ∧ ((bestL r).getD 0 []).length ≤ r.lots.length ∧ 0 < (bestL r).length := by
  obtain ⟨S, hS⟩ := h
  obtain ⟨T, _, e⟩ := head_opt hS
  rw [headD_getD] at e
  rw [e]
  refine ⟨fun x hx => ?_, lst_length_le _ _, List.length_pos_iff.2 (bestL_spec hS).1⟩
  obtain ⟨i, h1, _, rfl⟩ := mem_lst.1 hx
  exact ⟨by omega, by omega⟩
theorem Least_spec (r : Row) (h1 : r.lots.length < 1000000) (h2 : r.weak.length < 1000000) : Fn Try.prog 27 [rowD r] (tpl [int (leastR r).1, int (leastR r).2]) := by
  have hc := RowError_spec r h1 h2
  by_cases hr : rowError r = 0
  case neg =>
    have e : leastR r = (0, rowError r) := if_pos hr
    rw [e]
    generalize rowError r = c at *
    refine Fn.of_ex (cuts := []) tys hM Try.func27 rfl Try.call27 rfl ?_
    show exC Try.prog T [] _ false none 0 (entry 15 [rowD r]) (finQ T [ResultVar.tmp 2, ResultVar.tmp 3] _)
    conv => whnf
    repeat' first | ((first | refine Ob.a ?_ | refine Sp.tt ?_ | refine Sp.ff ?_ | refine Sp.yes ?_ | refine Sp.no ?_ | refine Sp.nyes ?_ | refine Sp.nno ?_);conv=>whnf) | (refine Sp.ne (fun hc => ?_) (fun hc => ?_) <;> (conv=>whnf)) | (refine Sp.dec (fun hc => ?_) (fun hc => ?_) <;> (conv=>whnf)) | (refine Sp.ndec (fun hc => ?_) (fun hc => ?_) <;> (conv=>whnf)) | (refine Sp.mk (fun hc => ?_) (fun hc => ?_) <;> (conv=>whnf)) | (apply Cl.go;(conv=>whnf); (first | refine Ob.call (hc) ?_);(conv=>whnf)) | (refine Fi.a ?_;conv=>whnf) | (refine Ob.b ?_;conv=>whnf)
    all_goals exact Lf
  obtain ⟨hok, hex⟩ := rowError_ok.1 hr
  obtain ⟨k1, k2, k3⟩ := head_in hex
  have hB := Best_spec r hok
  have hC := Calls_spec r ((bestL r).getD 0 []) hok k1 (by omega)
  have e : leastR r = (callsL r ((bestL r).getD 0 []), 0) := if_neg (by omega)
  rw [e]
  rw [hr] at hc
  generalize callsL r ((bestL r).getD 0 []) = n at *
  refine Fn.of_ex (cuts := []) tys hM Try.func27 rfl Try.call27 rfl ?_
  show exC Try.prog T [] _ false none 0 (entry 15 [rowD r]) (finQ T [ResultVar.tmp 2, ResultVar.tmp 3] _)
  conv => whnf
  repeat' first | ((first | refine Ob.a ?_ | refine Sp.tt ?_ | refine Sp.ff ?_ | refine Sp.yes ?_ | refine Sp.no ?_ | refine Sp.nyes ?_ | refine Sp.nno ?_);conv=>whnf) | (refine Sp.ne (fun hc => ?_) (fun hc => ?_) <;> (conv=>whnf)) | (refine Sp.dec (fun hc => ?_) (fun hc => ?_) <;> (conv=>whnf)) | (refine Sp.ndec (fun hc => ?_) (fun hc => ?_) <;> (conv=>whnf)) | (refine Sp.mk (fun hc => ?_) (fun hc => ?_) <;> (conv=>whnf)) | (apply Cl.go;(conv=>whnf); (first | refine Ob.call (hc) ?_ | refine Ob.call (hB) ?_ | refine Ob.call (hC) ?_);(conv=>whnf)) | (refine Fi.a ?_;conv=>whnf) | (refine Ob.b ?_;conv=>whnf)
  all_goals exact Lf
theorem LotsR_spec (r : Row) (h1 : r.lots.length < 1000000) (h2 : r.weak.length < 1000000) : Fn Try.prog 29 [rowD r] (tpl [ints (lotsR r).1, int (lotsR r).2]) := by
  have hc := RowError_spec r h1 h2
  by_cases hr : rowError r = 0
  case neg =>
    have e : lotsR r = ([], rowError r) := if_pos hr
    rw [e]
    generalize rowError r = c at *
    refine Fn.of_ex (cuts := []) tys hM Try.func29 rfl Try.call29 rfl ?_
    show exC Try.prog T [] _ false none 0 (entry 13 [rowD r]) (finQ T [ResultVar.tmp 2, ResultVar.tmp 3] _)
    conv => whnf
    repeat' first | ((first | refine Ob.a ?_ | refine Sp.tt ?_ | refine Sp.ff ?_ | refine Sp.yes ?_ | refine Sp.no ?_ | refine Sp.nyes ?_ | refine Sp.nno ?_);conv=>whnf) | (refine Sp.ne (fun hc => ?_) (fun hc => ?_) <;> (conv=>whnf)) | (refine Sp.dec (fun hc => ?_) (fun hc => ?_) <;> (conv=>whnf)) | (refine Sp.ndec (fun hc => ?_) (fun hc => ?_) <;> (conv=>whnf)) | (refine Sp.mk (fun hc => ?_) (fun hc => ?_) <;> (conv=>whnf)) | (apply Cl.go;(conv=>whnf); (first | refine Ob.call (hc) ?_);(conv=>whnf)) | (refine Fi.a ?_;conv=>whnf) | (refine Ob.b ?_;conv=>whnf)
    all_goals exact Lf
  obtain ⟨hok, hex⟩ := rowError_ok.1 hr
  obtain ⟨k1, k2, k3⟩ := head_in hex
  have hB := Best_spec r hok
  have e : lotsR r = ((bestL r).getD 0 [], 0) := if_neg (by omega)
  rw [e]
  rw [hr] at hc
  refine Fn.of_ex (cuts := []) tys hM Try.func29 rfl Try.call29 rfl ?_
  show exC Try.prog T [] _ false none 0 (entry 13 [rowD r]) (finQ T [ResultVar.tmp 2, ResultVar.tmp 3] _)
  conv => whnf
  repeat' first | ((first | refine Ob.a ?_ | refine Sp.tt ?_ | refine Sp.ff ?_ | refine Sp.yes ?_ | refine Sp.no ?_ | refine Sp.nyes ?_ | refine Sp.nno ?_);conv=>whnf) | (refine Sp.ne (fun hc => ?_) (fun hc => ?_) <;> (conv=>whnf)) | (refine Sp.dec (fun hc => ?_) (fun hc => ?_) <;> (conv=>whnf)) | (refine Sp.ndec (fun hc => ?_) (fun hc => ?_) <;> (conv=>whnf)) | (refine Sp.mk (fun hc => ?_) (fun hc => ?_) <;> (conv=>whnf)) | (apply Cl.go;(conv=>whnf); (first | refine Ob.call (hc) ?_ | refine Ob.call (hB) ?_);(conv=>whnf)) | (refine Fi.a ?_;conv=>whnf) | (refine Ob.b ?_;conv=>whnf)
  all_goals exact Lf
end Go.Px.Try

/-! Rf5 -/
namespace Go.Px.Try
open Go Go.Proofs Go.Px
set_option maxRecDepth 100000
theorem lots_small {r : Row} (h : RowOk r) {i : Nat} (hi : i < r.lots.length) : (-1000000 ≤ (r.lots.getD i default).lo ∧ (r.lots.getD i default).lo ≤ 1000000) ∧ -1000000 ≤ (r.lots.getD i default).hi ∧ (r.lots.getD i default).hi ≤ 1000000 := by
  have := h.lots _ (getD_mem hi default)
  have := h.p40
  omega
def pricesOkTo (p : List Int) (k : Nat) : Prop := ∀ j, j < k → 0 ≤ p.getD j 0 ∧ p.getD j 0 ≤ 40
def checkPricesR (r : Row) (p : List Int) : Int × Int :=
  if checkRow r ≠ 0 then (0, checkRow r) else if p.length ≠ r.weak.length then (0, 15) else if ¬ ∀ x ∈ p, 0 ≤ x ∧ x ≤ 40 then (0, 3)
  else if ¬ ∀ i, i < r.lots.length → csum r p i p.length ≤ zOf r i then (0, 14) else (sumTo p p.length, 0)
theorem checkPricesR_right {r : Row} (h : RowOk r) {p : List Int} : (checkPricesR r p).2 = 0 ↔ Right r p := by
  have h0 := checkRow_ok.2 h
  unfold checkPricesR
  rw [if_neg (by omega)]
  constructor
  · intro e
    split at e
    · cases e
    split at e
    · cases e
    split at e
    · cases e
    · rename_i a b c
      exact ⟨Decidable.of_not_not a, Decidable.of_not_not b, Classical.byContradiction c⟩
  · rintro ⟨a, b, c⟩
    rw [if_neg (not_not_intro a), if_neg (not_not_intro b), if_neg (not_not_intro c)]
theorem tot_bound {z : Nat → Int} {S : Nat → Bool} {b : Int} (hb : 0 ≤ b) : ∀ n, (∀ i, i < n → 0 ≤ z i ∧ z i ≤ b) → 0 ≤ tot z S n ∧ tot z S n ≤ b * n
  | 0, _ => by simp [tot]
  | n + 1, h => by
    have ih := tot_bound (S := S) hb n fun i hi => h i (by omega)
    have := h n (by omega)
    have e : b * ((n + 1 : Nat) : Int) = b * n + b := by rw [Int.natCast_add, Int.mul_add]; simp
    rw [tot, e]
    split <;> omega
set_option maxHeartbeats 8000000 in
theorem CheckPrices_spec (r : Row) (P : List Int) (h1 : r.lots.length < 1000000) (h2 : r.weak.length < 1000000) (h3 : P.length < 1000000) : Fn Try.prog 33 [rowD r, ints P] (tpl [int (checkPricesR r P).1, int (checkPricesR r P).2]) := by
  have hc := CheckRow_spec r h1 h2
  generalize hres : checkPricesR r P = res
  obtain ⟨x, y⟩ := res
  by_cases hr : checkRow r = 0
  case neg =>
    have e : checkPricesR r P = (0, checkRow r) := if_pos hr
    rw [e] at hres
    cases hres
    generalize checkRow r = c at *
    refine Fn.of_ex (cuts := []) tys hM Try.func33 rfl Try.call33 rfl ?_
    show exC Try.prog T [] _ false none 0 (entry 85 [rowD r, ints P]) (finQ T [ResultVar.tmp 4, ResultVar.tmp 5] _)
    conv => whnf
    repeat' first | ((first | refine Ob.a ?_ | refine Sp.tt ?_ | refine Sp.ff ?_ | refine Sp.yes ?_ | refine Sp.no ?_ | refine Sp.nyes ?_ | refine Sp.nno ?_);conv=>whnf) | (refine Sp.ne (fun hc => ?_) (fun hc => ?_) <;> (conv=>whnf)) | (refine Sp.dec (fun hc => ?_) (fun hc => ?_) <;> (conv=>whnf)) | (refine Sp.ndec (fun hc => ?_) (fun hc => ?_) <;> (conv=>whnf)) | (refine Sp.mk (fun hc => ?_) (fun hc => ?_) <;> (conv=>whnf)) | (apply Cl.go;(conv=>whnf); (first | refine Ob.call (hc) ?_);(conv=>whnf)) | (refine Fi.a ?_;conv=>whnf) | (refine Ob.b ?_;conv=>whnf)
    all_goals exact Lf
  have hok := checkRow_ok.1 hr
  have hl12 := hok.w12
  have hl10 := hok.l10
  rw [hr] at hc
  by_cases hpl : P.length = r.weak.length
  case neg =>
    have e : checkPricesR r P = (0, 15) := by unfold checkPricesR; rw [if_neg (show ¬ checkRow r ≠ 0 by omega), if_pos hpl]
    rw [e] at hres
    cases hres
    refine Fn.of_ex (cuts := []) tys hM Try.func33 rfl Try.call33 rfl ?_
    show exC Try.prog T [] _ false none 0 (entry 85 [rowD r, ints P]) (finQ T [ResultVar.tmp 4, ResultVar.tmp 5] _)
    conv => whnf
    repeat' first | ((first | refine Ob.a ?_ | refine Sp.tt ?_ | refine Sp.ff ?_ | refine Sp.yes ?_ | refine Sp.no ?_ | refine Sp.nyes ?_ | refine Sp.nno ?_);conv=>whnf) | (refine Sp.ne (fun hc => ?_) (fun hc => ?_) <;> (conv=>whnf)) | (refine Sp.dec (fun hc => ?_) (fun hc => ?_) <;> (conv=>whnf)) | (refine Sp.ndec (fun hc => ?_) (fun hc => ?_) <;> (conv=>whnf)) | (refine Sp.mk (fun hc => ?_) (fun hc => ?_) <;> (conv=>whnf)) | (apply Cl.go;(conv=>whnf); (first | refine Ob.call (hc) ?_);(conv=>whnf)) | (refine Fi.a ?_;conv=>whnf) | (refine Ob.b ?_;conv=>whnf)
    all_goals exact Lf
  have k0 : (if ¬ ∀ x ∈ P, 0 ≤ x ∧ x ≤ 40 then (0, 3) else if ¬ ∀ i, i < r.lots.length → csum r P i P.length ≤ zOf r i then (0, 14) else (sumTo P P.length, 0)) = (x, y) := by
    rw [← hres]; unfold checkPricesR; rw [if_neg (show ¬ checkRow r ≠ 0 by omega), if_neg (show ¬ P.length ≠ r.weak.length by omega)]
  clear hres
  refine Fn.of_ex (cuts := []) tys hM Try.func33 rfl Try.call33 rfl ?_
  show exC Try.prog T [] _ false none 0 (entry 85 [rowD r, ints P]) (finQ T [ResultVar.tmp 4, ResultVar.tmp 5] _)
  conv => whnf
  repeat' first | ((first | refine Ob.a ?_ | refine Sp.tt ?_ | refine Sp.ff ?_ | refine Sp.yes ?_ | refine Sp.no ?_ | refine Sp.nyes ?_ | refine Sp.nno ?_);conv=>whnf) | (refine Sp.ne (fun hc => ?_) (fun hc => ?_) <;> (conv=>whnf)) | (refine Sp.dec (fun hc => ?_) (fun hc => ?_) <;> (conv=>whnf)) | (refine Sp.ndec (fun hc => ?_) (fun hc => ?_) <;> (conv=>whnf)) | (refine Sp.mk (fun hc => ?_) (fun hc => ?_) <;> (conv=>whnf)) | (apply Cl.go;(conv=>whnf); (first | refine Ob.call (hc) ?_);(conv=>whnf)) | (refine Fi.a ?_;conv=>whnf) | (refine Ob.b ?_;conv=>whnf)
  refine Lp.snap [0, 1, 2, 8, 9, 10, 46, 47, 48, 49, 51, 52, 53, 54, 55, 57, 58, 59, 60, 61, 62, 63, 64, 65, 66, 67, 68, 70, 71, 72, 73, 74, 75, 76, 77, 78, 79, 80, 81, 82, 84] 40 ?_
  (conv=>whnf)
  refine LpB.go 85 ({q : Int × Int // (0 ≤ q.1 ∧ q.1 ≤ P.length) ∧ q.2 = sumTo P q.1.toNat ∧ (0 ≤ q.2 ∧ q.2 ≤ 40 * q.1) ∧ pricesOkTo P q.1.toNat}) 0 (fun ⟨(i, n), _⟩ nx => ([(7, .d (int i)), (6, .d (int n))], [])) (fun p => (P.length - p.1.1).toNat) (⟨(0, 0), ⟨by simp, by simp⟩, rfl, ⟨by simp, by simp⟩, fun j hj => by simp at hj⟩) ?_ ?_
  · rintro ⟨⟨i, n⟩, ⟨i0, i1⟩, hn, ⟨n0, n1⟩, hp⟩
    simp only at i0 i1 hn n0 n1 hp
    have f1 : i < P.length → (P.getD i.toNat 0 < 0 ∨ 40 < P.getD i.toNat 0) → (0, 3) = (x, y) := fun hi hb => by
      rw [← k0, if_pos]
      intro h
      have := h _ (getD_mem (i := i.toNat) (by omega) 0)
      omega
    have f2 : i < P.length → 0 ≤ P.getD i.toNat 0 → P.getD i.toNat 0 ≤ 40 → n + P.getD i.toNat 0 = sumTo P (i + 1).toNat ∧ pricesOkTo P (i + 1).toNat := fun hi a b => by
      refine ⟨by rw [show (i + 1).toNat = i.toNat + 1 by omega, sumTo_succ, hn], fun j hj => ?_⟩
      by_cases e : j < i.toNat
      · exact hp j e
      · obtain rfl : j = i.toNat := by omega
        exact ⟨a, b⟩
    by_cases hil : i < P.length
    · by_cases hb : P.getD i.toNat 0 < 0 ∨ 40 < P.getD i.toNat 0
      · have e := f1 hil hb
        injection e with e1 e2
        conv => whnf
        repeat' first | ((first | refine Ob.a ?_ | refine Sp.tt ?_ | refine Sp.ff ?_ | refine Sp.yes ?_ | refine Sp.no ?_ | refine Sp.nyes ?_ | refine Sp.nno ?_);conv=>whnf) | (refine Sp.ne (fun hc => ?_) (fun hc => ?_) <;> (conv=>whnf)) | (refine Sp.dec (fun hc => ?_) (fun hc => ?_) <;> (conv=>whnf)) | (refine Sp.ndec (fun hc => ?_) (fun hc => ?_) <;> (conv=>whnf)) | (refine Sp.mk (fun hc => ?_) (fun hc => ?_) <;> (conv=>whnf)) | (refine Fi.a ?_;conv=>whnf) | (refine Ob.b ?_;conv=>whnf)
        all_goals exact Lf
      · obtain ⟨e1, e2⟩ := f2 hil (by omega) (by omega)
        conv => whnf
        repeat' first | ((first | refine Ob.a ?_ | refine Sp.tt ?_ | refine Sp.ff ?_ | refine Sp.yes ?_ | refine Sp.no ?_ | refine Sp.nyes ?_ | refine Sp.nno ?_);conv=>whnf) | (refine Sp.ne (fun hc => ?_) (fun hc => ?_) <;> (conv=>whnf)) | (refine Sp.dec (fun hc => ?_) (fun hc => ?_) <;> (conv=>whnf)) | (refine Sp.ndec (fun hc => ?_) (fun hc => ?_) <;> (conv=>whnf)) | (refine Sp.mk (fun hc => ?_) (fun hc => ?_) <;> (conv=>whnf)) | (refine Fi.a ?_;conv=>whnf) | (refine Ob.b ?_;conv=>whnf)
        exact ⟨rfl, ⟨(i + 1, n + P.getD i.toNat 0), ⟨by simp only; omega, by simp only; omega⟩, e1, ⟨by simp only; omega, by simp only; omega⟩, e2⟩, Lf, by simp only; omega⟩
    · have hpo : ∀ x ∈ P, 0 ≤ x ∧ x ≤ 40 := fun x hx => by
        obtain ⟨j, hj, rfl⟩ := List.getElem_of_mem hx
        have := hp j (by omega)
        rw [List.getD_eq_getElem?_getD, List.getElem?_eq_getElem hj] at this
        exact this
      rw [if_neg (not_not_intro hpo)] at k0
      have hnf : n = sumTo P P.length := by rw [hn]; congr 1; omega
      clear f1 f2
      conv => whnf
      repeat' first | ((first | refine Ob.a ?_ | refine Sp.tt ?_ | refine Sp.ff ?_ | refine Sp.yes ?_ | refine Sp.no ?_ | refine Sp.nyes ?_ | refine Sp.nno ?_);conv=>whnf) | (refine Sp.ne (fun hc => ?_) (fun hc => ?_) <;> (conv=>whnf)) | (refine Sp.dec (fun hc => ?_) (fun hc => ?_) <;> (conv=>whnf)) | (refine Sp.ndec (fun hc => ?_) (fun hc => ?_) <;> (conv=>whnf)) | (refine Sp.mk (fun hc => ?_) (fun hc => ?_) <;> (conv=>whnf)) | (refine Fi.a ?_;conv=>whnf) | (refine Ob.b ?_;conv=>whnf)
      refine Lp.snap [0, 1, 2, 6, 84] 40 ?_
      (conv=>whnf)
      refine LpB.go 85 ({i : Int // (0 ≤ i ∧ i ≤ r.lots.length) ∧ ∀ j, j < i.toNat → csum r P j P.length ≤ zOf r j}) 0 (fun ⟨i, _⟩ nx => ([(8, .d (int i))], [])) (fun p => (r.lots.length - p.1).toNat) (⟨0, ⟨by omega, by omega⟩, fun j hj => by simp at hj⟩) ?_ ?_
      · rintro ⟨i, ⟨i0, i1⟩, hinv⟩
        by_cases hil2 : i < r.lots.length
        · have hH := fun k : Int => Has_spec (r.lots.getD i.toNat default) (r.weak.getD k.toNat 0)
          have hS := Size_spec (r.lots.getD i.toNat default) (lots_small hok (by omega)).1 (lots_small hok (by omega)).2
          have hgt : ¬ csum r P i.toNat P.length ≤ lsize (r.lots.getD i.toNat default) → (0, 14) = (x, y) := fun h => by
            rw [← k0, if_pos]
            intro h2
            exact h (h2 i.toNat (by omega))
          have hle : csum r P i.toNat P.length ≤ lsize (r.lots.getD i.toNat default) → ∀ j, j < (i + 1).toNat → csum r P j P.length ≤ zOf r j := fun h j hj => by
            by_cases e : j < i.toNat
            · exact hinv j e
            · obtain rfl : j = i.toNat := by omega
              exact h
          conv => whnf
          repeat' first | ((first | refine Ob.a ?_ | refine Sp.tt ?_ | refine Sp.ff ?_ | refine Sp.yes ?_ | refine Sp.no ?_ | refine Sp.nyes ?_ | refine Sp.nno ?_);conv=>whnf) | (refine Sp.ne (fun hc => ?_) (fun hc => ?_) <;> (conv=>whnf)) | (refine Sp.dec (fun hc => ?_) (fun hc => ?_) <;> (conv=>whnf)) | (refine Sp.ndec (fun hc => ?_) (fun hc => ?_) <;> (conv=>whnf)) | (refine Sp.mk (fun hc => ?_) (fun hc => ?_) <;> (conv=>whnf)) | (refine Fi.a ?_;conv=>whnf) | (refine Ob.b ?_;conv=>whnf)
          refine Lp.snap [0, 1, 2, 4, 5, 6, 8, 46, 47, 48, 49, 51, 52, 76, 77, 78, 79, 80, 81, 82, 84] 40 ?_
          (conv=>whnf)
          refine LpB.go 85 ({q : Int × Int // (0 ≤ q.1 ∧ q.1 ≤ P.length) ∧ q.2 = csum r P i.toNat q.1.toNat ∧ (0 ≤ q.2 ∧ q.2 ≤ 40 * q.1)}) 0 (fun ⟨(k, s), _⟩ nx => ([(10, .d (int k)), (9, .d (int s))], [])) (fun p => (P.length - p.1.1).toNat) (⟨(0, 0), ⟨by simp, by simp⟩, rfl, ⟨by simp, by simp⟩⟩) ?_ ?_
          · rintro ⟨⟨k, s⟩, ⟨q0, q1⟩, hs, ⟨s0, s1⟩⟩
            simp only at q0 q1 hs s0 s1
            by_cases hkl : k < P.length
            · have hpk := hpo _ (getD_mem (i := k.toNat) (by omega) 0)
              obtain ⟨_, _⟩ := hpk
              have hH := hH k
              have hn : csum r P i.toNat (k + 1).toNat = s + if Has (r.lots.getD i.toNat default) (r.weak.getD k.toNat 0) then P.getD k.toNat 0 else 0 := by
                rw [show (k + 1).toNat = k.toNat + 1 by omega, csum_succ, hs]; rfl
              by_cases hh : Has (r.lots.getD i.toNat default) (r.weak.getD k.toNat 0)
              · rw [if_pos hh] at hn
                rw [decide_eq_true hh] at hH
                conv => whnf
                repeat' first | ((first | refine Ob.a ?_ | refine Sp.tt ?_ | refine Sp.ff ?_ | refine Sp.yes ?_ | refine Sp.no ?_ | refine Sp.nyes ?_ | refine Sp.nno ?_);conv=>whnf) | (refine Sp.ne (fun hc => ?_) (fun hc => ?_) <;> (conv=>whnf)) | (refine Sp.dec (fun hc => ?_) (fun hc => ?_) <;> (conv=>whnf)) | (refine Sp.ndec (fun hc => ?_) (fun hc => ?_) <;> (conv=>whnf)) | (refine Sp.mk (fun hc => ?_) (fun hc => ?_) <;> (conv=>whnf)) | (apply Cl.go;(conv=>whnf); (first | refine Ob.call (hH) ?_);(conv=>whnf)) | (refine Fi.a ?_;conv=>whnf) | (refine Ob.b ?_;conv=>whnf)
                exact ⟨rfl, ⟨(k + 1, s + P.getD k.toNat 0), ⟨by simp only; omega, by simp only; omega⟩, hn.symm, ⟨by simp only; omega, by simp only; omega⟩⟩, Lf, by simp only; omega⟩
              · rw [if_neg hh, Int.add_zero] at hn
                rw [decide_eq_false hh] at hH
                conv => whnf
                repeat' first | ((first | refine Ob.a ?_ | refine Sp.tt ?_ | refine Sp.ff ?_ | refine Sp.yes ?_ | refine Sp.no ?_ | refine Sp.nyes ?_ | refine Sp.nno ?_);conv=>whnf) | (refine Sp.ne (fun hc => ?_) (fun hc => ?_) <;> (conv=>whnf)) | (refine Sp.dec (fun hc => ?_) (fun hc => ?_) <;> (conv=>whnf)) | (refine Sp.ndec (fun hc => ?_) (fun hc => ?_) <;> (conv=>whnf)) | (refine Sp.mk (fun hc => ?_) (fun hc => ?_) <;> (conv=>whnf)) | (apply Cl.go;(conv=>whnf); (first | refine Ob.call (hH) ?_);(conv=>whnf)) | (refine Fi.a ?_;conv=>whnf) | (refine Ob.b ?_;conv=>whnf)
                exact ⟨rfl, ⟨(k + 1, s), ⟨by simp only; omega, by simp only; omega⟩, hn.symm, ⟨by simp only; omega, by simp only; omega⟩⟩, Lf, by simp only; omega⟩
            · have hsf : s = csum r P i.toNat P.length := by rw [hs]; congr 1; omega
              rw [← hsf] at hgt hle
              by_cases hc2 : s ≤ lsize (r.lots.getD i.toNat default)
              · have e := hle hc2
                generalize lsize (r.lots.getD i.toNat default) = z at *
                conv => whnf
                repeat' first | ((first | refine Ob.a ?_ | refine Sp.tt ?_ | refine Sp.ff ?_ | refine Sp.yes ?_ | refine Sp.no ?_ | refine Sp.nyes ?_ | refine Sp.nno ?_);conv=>whnf) | (refine Sp.ne (fun hc => ?_) (fun hc => ?_) <;> (conv=>whnf)) | (refine Sp.dec (fun hc => ?_) (fun hc => ?_) <;> (conv=>whnf)) | (refine Sp.ndec (fun hc => ?_) (fun hc => ?_) <;> (conv=>whnf)) | (refine Sp.mk (fun hc => ?_) (fun hc => ?_) <;> (conv=>whnf)) | (apply Cl.go;(conv=>whnf); (first | refine Ob.call (hS) ?_);(conv=>whnf)) | (refine Fi.a ?_;conv=>whnf) | (refine Ob.b ?_;conv=>whnf)
                exact ⟨rfl, ⟨i + 1, ⟨by omega, by omega⟩, e⟩, Lf, by simp only; omega⟩
              · have e := hgt hc2
                injection e with e1 e2
                generalize lsize (r.lots.getD i.toNat default) = z at *
                conv => whnf
                repeat' first | ((first | refine Ob.a ?_ | refine Sp.tt ?_ | refine Sp.ff ?_ | refine Sp.yes ?_ | refine Sp.no ?_ | refine Sp.nyes ?_ | refine Sp.nno ?_);conv=>whnf) | (refine Sp.ne (fun hc => ?_) (fun hc => ?_) <;> (conv=>whnf)) | (refine Sp.dec (fun hc => ?_) (fun hc => ?_) <;> (conv=>whnf)) | (refine Sp.ndec (fun hc => ?_) (fun hc => ?_) <;> (conv=>whnf)) | (refine Sp.mk (fun hc => ?_) (fun hc => ?_) <;> (conv=>whnf)) | (apply Cl.go;(conv=>whnf); (first | refine Ob.call (hS) ?_);(conv=>whnf)) | (refine Fi.a ?_;conv=>whnf) | (refine Ob.b ?_;conv=>whnf)
                all_goals exact Lf
          · exact Lf
        · have e : (n, (0 : Int)) = (x, y) := by
            rw [← k0, if_neg, hnf]
            exact not_not_intro fun j hj => hinv j (by omega)
          injection e with e1 e2
          conv => whnf
          repeat' first | ((first | refine Ob.a ?_ | refine Sp.tt ?_ | refine Sp.ff ?_ | refine Sp.yes ?_ | refine Sp.no ?_ | refine Sp.nyes ?_ | refine Sp.nno ?_);conv=>whnf) | (refine Sp.ne (fun hc => ?_) (fun hc => ?_) <;> (conv=>whnf)) | (refine Sp.dec (fun hc => ?_) (fun hc => ?_) <;> (conv=>whnf)) | (refine Sp.ndec (fun hc => ?_) (fun hc => ?_) <;> (conv=>whnf)) | (refine Sp.mk (fun hc => ?_) (fun hc => ?_) <;> (conv=>whnf)) | (refine Fi.a ?_;conv=>whnf) | (refine Ob.b ?_;conv=>whnf)
          all_goals exact Lf
      · exact Lf
  · exact Lf
end Go.Px.Try

/-! Rf6 -/
namespace Go.Px.Try
open Go Go.Proofs Go.Px
set_option maxRecDepth 100000
def havS (r : Row) (p : Int) : Nat → Bool := fun i => decide (Has (lotN r i) p)
def havingL (r : Row) (p : Int) : List Int := lst r.lots.length (havS r p)
theorem havingL_nil {r : Row} {p : Int} : havingL r p = [] ↔ (r.lots.any fun l => decide (Has l p)) = false := by
  constructor
  · intro h
    cases e : r.lots.any fun l => decide (Has l p) with
    | false => rfl
    | true =>
      obtain ⟨i, h1, h2⟩ := any_lots.1 e
      have : (i : Int) ∈ havingL r p := mem_lst_nat.2 ⟨h1, decide_eq_true h2⟩
      rw [h] at this; cases this
  · intro h
    refine List.eq_nil_iff_forall_not_mem.2 fun x hx => ?_
    obtain ⟨i, h1, h2, _⟩ := mem_lst.1 hx
    rw [any_lots.2 ⟨i, h1, of_decide_eq_true h2⟩] at h
    cases h
set_option maxHeartbeats 4000000 in
theorem Having_spec (r : Row) (p : Int) (h1 : r.lots.length < 1000000) : Fn Try.prog 52 [rowD r, int p] (ints (havingL r p)) := by
  refine Fn.hide (D := fun r : List Int => ints r) fun c hc => ?_
  have hc0 := hc.h
  refine Fn.of_ex (cuts := []) tys hM Try.func52 rfl Try.call52 rfl ?_
  show exC Try.prog T [] _ false none 0 (entry 26 [rowD r, int p]) (finQ T [ResultVar.tmp 4] _)
  conv => whnf
  repeat' first | ((first | refine Ob.a ?_ | refine Sp.tt ?_ | refine Sp.ff ?_ | refine Sp.yes ?_ | refine Sp.no ?_ | refine Sp.nyes ?_ | refine Sp.nno ?_);conv=>whnf) | (refine Sp.ne (fun hc => ?_) (fun hc => ?_) <;> (conv=>whnf)) | (refine Sp.dec (fun hc => ?_) (fun hc => ?_) <;> (conv=>whnf)) | (refine Sp.ndec (fun hc => ?_) (fun hc => ?_) <;> (conv=>whnf)) | (refine Sp.mk (fun hc => ?_) (fun hc => ?_) <;> (conv=>whnf)) | (refine Fi.a ?_;conv=>whnf) | (refine Ob.b ?_;conv=>whnf)
  refine Lp.snap [0, 1, 2, 4, 25] 40 ?_
  (conv=>whnf)
  refine LpB.go 26 ({q : Int × List Int // (0 ≤ q.1 ∧ q.1 ≤ r.lots.length) ∧ q.2 = lst q.1.toNat (havS r p)}) 0 (fun ⟨(i, o), _⟩ nx => ([(6, .d (int i)), (5, .ms 2 1 0 o.length)], [(2, .row true 3 1 o.length (rowOf int 0 o))])) (fun p => (r.lots.length - p.1.1).toNat) (⟨(0, []), ⟨by simp, by simp⟩, rfl⟩) ?_ ?_
  · rintro ⟨⟨i, o⟩, ⟨i0, i1⟩, ho⟩
    simp only at i0 i1 ho
    have hlen : o.length ≤ i.toNat := by rw [ho]; exact lst_length_le _ _
    have hs : lst (i + 1).toNat (havS r p) = o ++ if havS r p i.toNat = true then [i] else [] := by
      rw [show (i + 1).toNat = i.toNat + 1 by omega, lst_succ, ho, Int.toNat_of_nonneg i0]
    have he : ¬ i < r.lots.length → o = c := fun hi => by rw [ho, ← hc0, show i.toNat = r.lots.length by omega]; rfl
    have hH := Has_spec (r.lots.getD i.toNat default) p
    by_cases hh : Has (r.lots.getD i.toNat default) p
    · rw [if_pos (show havS r p i.toNat = true from decide_eq_true hh)] at hs
      rw [decide_eq_true hh] at hH
      conv => whnf
      repeat' first | ((first | refine Ob.a ?_ | refine Sp.tt ?_ | refine Sp.ff ?_ | refine Sp.yes ?_ | refine Sp.no ?_ | refine Sp.nyes ?_ | refine Sp.nno ?_);conv=>whnf) | (refine Sp.ne (fun hc => ?_) (fun hc => ?_) <;> (conv=>whnf)) | (refine Sp.dec (fun hc => ?_) (fun hc => ?_) <;> (conv=>whnf)) | (refine Sp.ndec (fun hc => ?_) (fun hc => ?_) <;> (conv=>whnf)) | (refine Sp.mk (fun hc => ?_) (fun hc => ?_) <;> (conv=>whnf)) | (apply Cl.go;(conv=>whnf); (first | refine Ob.call (hH) ?_);(conv=>whnf)) | (refine Fi.a ?_;conv=>whnf) | (refine Ob.b ?_;conv=>whnf)
      all_goals first | (have e := he (by omega); exact Lf) | exact ⟨rfl, ⟨(i + 1, o ++ [i]), ⟨by simp only; omega, by simp only; omega⟩, hs.symm⟩, Lf, by simp only; omega⟩
    · rw [if_neg (show ¬ havS r p i.toNat = true from fun h => hh (of_decide_eq_true h)), List.append_nil] at hs
      rw [decide_eq_false hh] at hH
      conv => whnf
      repeat' first | ((first | refine Ob.a ?_ | refine Sp.tt ?_ | refine Sp.ff ?_ | refine Sp.yes ?_ | refine Sp.no ?_ | refine Sp.nyes ?_ | refine Sp.nno ?_);conv=>whnf) | (refine Sp.ne (fun hc => ?_) (fun hc => ?_) <;> (conv=>whnf)) | (refine Sp.dec (fun hc => ?_) (fun hc => ?_) <;> (conv=>whnf)) | (refine Sp.ndec (fun hc => ?_) (fun hc => ?_) <;> (conv=>whnf)) | (refine Sp.mk (fun hc => ?_) (fun hc => ?_) <;> (conv=>whnf)) | (apply Cl.go;(conv=>whnf); (first | refine Ob.call (hH) ?_);(conv=>whnf)) | (refine Fi.a ?_;conv=>whnf) | (refine Ob.b ?_;conv=>whnf)
      all_goals first | (have e := he (by omega); exact Lf) | exact ⟨rfl, ⟨(i + 1, o), ⟨by simp only; omega, by simp only; omega⟩, hs.symm⟩, Lf, by simp only; omega⟩
  · exact Lf
def unknownRR (r : Row) : List Int × Int := if checkRow r ≠ 0 then ([], checkRow r) else (unknownR r, 0)
set_option maxHeartbeats 4000000 in
theorem Unknown_spec (r : Row) (h1 : r.lots.length < 1000000) (h2 : r.weak.length < 1000000) : Fn Try.prog 22 [rowD r] (tpl [ints (unknownRR r).1, int (unknownRR r).2]) := by
  have hc := CheckRow_spec r h1 h2
  by_cases hr : checkRow r = 0
  case neg =>
    have e : unknownRR r = ([], checkRow r) := if_pos hr
    rw [e]
    generalize checkRow r = c at *
    refine Fn.of_ex (cuts := []) tys hM Try.func22 rfl Try.call22 rfl ?_
    show exC Try.prog T [] _ false none 0 (entry 36 [rowD r]) (finQ T [ResultVar.tmp 2, ResultVar.tmp 3] _)
    conv => whnf
    repeat' first | ((first | refine Ob.a ?_ | refine Sp.tt ?_ | refine Sp.ff ?_ | refine Sp.yes ?_ | refine Sp.no ?_ | refine Sp.nyes ?_ | refine Sp.nno ?_);conv=>whnf) | (refine Sp.ne (fun hc => ?_) (fun hc => ?_) <;> (conv=>whnf)) | (refine Sp.dec (fun hc => ?_) (fun hc => ?_) <;> (conv=>whnf)) | (refine Sp.ndec (fun hc => ?_) (fun hc => ?_) <;> (conv=>whnf)) | (refine Sp.mk (fun hc => ?_) (fun hc => ?_) <;> (conv=>whnf)) | (apply Cl.go;(conv=>whnf); (first | refine Ob.call (hc) ?_);(conv=>whnf)) | (refine Fi.a ?_;conv=>whnf) | (refine Ob.b ?_;conv=>whnf)
    all_goals exact Lf
  have e : unknownRR r = (unknownR r, 0) := if_neg (by omega)
  rw [e]
  rw [hr] at hc
  generalize hu : unknownR r = c
  refine Fn.of_ex (cuts := []) tys hM Try.func22 rfl Try.call22 rfl ?_
  show exC Try.prog T [] _ false none 0 (entry 36 [rowD r]) (finQ T [ResultVar.tmp 2, ResultVar.tmp 3] _)
  conv => whnf
  repeat' first | ((first | refine Ob.a ?_ | refine Sp.tt ?_ | refine Sp.ff ?_ | refine Sp.yes ?_ | refine Sp.no ?_ | refine Sp.nyes ?_ | refine Sp.nno ?_);conv=>whnf) | (refine Sp.ne (fun hc => ?_) (fun hc => ?_) <;> (conv=>whnf)) | (refine Sp.dec (fun hc => ?_) (fun hc => ?_) <;> (conv=>whnf)) | (refine Sp.ndec (fun hc => ?_) (fun hc => ?_) <;> (conv=>whnf)) | (refine Sp.mk (fun hc => ?_) (fun hc => ?_) <;> (conv=>whnf)) | (apply Cl.go;(conv=>whnf); (first | refine Ob.call (hc) ?_);(conv=>whnf)) | (refine Fi.a ?_;conv=>whnf) | (refine Ob.b ?_;conv=>whnf)
  refine Lp.snap [0, 1, 2, 3, 35] 40 ?_
  (conv=>whnf)
  refine LpB.go 36 ({q : Int × List Int // (0 ≤ q.1 ∧ q.1 ≤ r.weak.length) ∧ q.2 = (r.weak.take q.1.toNat).filter fun p => !(r.lots.any fun l => decide (Has l p))}) 0 (fun ⟨(i, o), _⟩ nx => ([(5, .d (int i)), (4, .ms 6 1 0 o.length)], [(6, .row true 3 1 o.length (rowOf int 0 o))])) (fun p => (r.weak.length - p.1.1).toNat) (⟨(0, []), ⟨by simp, by simp⟩, rfl⟩) ?_ ?_
  · rintro ⟨⟨i, o⟩, ⟨i0, i1⟩, ho⟩
    simp only at i0 i1 ho
    have hlen : o.length ≤ i.toNat := by
      rw [ho]; refine Nat.le_trans (List.length_filter_le _ _) ?_;rw [List.length_take]; omega
    have hs : i < r.weak.length → (r.weak.take (i + 1).toNat).filter (fun p => !(r.lots.any fun l => decide (Has l p))) = o ++ if (r.lots.any fun l => decide (Has l (r.weak.getD i.toNat 0))) = false then [r.weak.getD i.toNat 0] else [] := fun hi => by
      rw [show (i + 1).toNat = i.toNat + 1 by omega, take_succ_getD _ _ 0 (by omega), List.filter_append, ho]
      congr 1
      rw [List.filter_cons, List.filter_nil]
      cases e : r.lots.any fun l => decide (Has l (r.weak.getD i.toNat 0)) <;> rfl
    have he : ¬ i < r.weak.length → o = c := fun hi => by rw [ho, ← hu, List.take_of_length_le (by omega)]; rfl
    have hH := Having_spec r (r.weak.getD i.toNat 0) h1
    have hz := havingL_nil (r := r) (p := r.weak.getD i.toNat 0)
    have hz2 : (havingL r (r.weak.getD i.toNat 0)).length = 0 ↔ _ := List.length_eq_zero_iff.trans hz
    generalize havingL r (r.weak.getD i.toNat 0) = L at *
    by_cases hh : (r.lots.any fun l => decide (Has l (r.weak.getD i.toNat 0))) = false
    · have hz3 := hz2.2 hh
      rw [if_pos hh] at hs
      conv => whnf
      repeat' first | ((first | refine Ob.a ?_ | refine Sp.tt ?_ | refine Sp.ff ?_ | refine Sp.yes ?_ | refine Sp.no ?_ | refine Sp.nyes ?_ | refine Sp.nno ?_);conv=>whnf) | (refine Sp.ne (fun hc => ?_) (fun hc => ?_) <;> (conv=>whnf)) | (refine Sp.dec (fun hc => ?_) (fun hc => ?_) <;> (conv=>whnf)) | (refine Sp.ndec (fun hc => ?_) (fun hc => ?_) <;> (conv=>whnf)) | (refine Sp.mk (fun hc => ?_) (fun hc => ?_) <;> (conv=>whnf)) | (apply Cl.go;(conv=>whnf); (first | refine Ob.call (hH) ?_);(conv=>whnf)) | (refine Fi.a ?_;conv=>whnf) | (refine Ob.b ?_;conv=>whnf)
      all_goals first | (have e := he (by omega); exact Lf) | exact ⟨rfl, ⟨(i + 1, o ++ [r.weak.getD i.toNat 0]), ⟨by simp only; omega, by simp only; omega⟩, (hs (by omega)).symm⟩, Lf, by simp only; omega⟩
    · have hz3 : ¬ L.length = 0 := fun h => hh (hz2.1 h)
      rw [if_neg hh, List.append_nil] at hs
      conv => whnf
      repeat' first | ((first | refine Ob.a ?_ | refine Sp.tt ?_ | refine Sp.ff ?_ | refine Sp.yes ?_ | refine Sp.no ?_ | refine Sp.nyes ?_ | refine Sp.nno ?_);conv=>whnf) | (refine Sp.ne (fun hc => ?_) (fun hc => ?_) <;> (conv=>whnf)) | (refine Sp.dec (fun hc => ?_) (fun hc => ?_) <;> (conv=>whnf)) | (refine Sp.ndec (fun hc => ?_) (fun hc => ?_) <;> (conv=>whnf)) | (refine Sp.mk (fun hc => ?_) (fun hc => ?_) <;> (conv=>whnf)) | (apply Cl.go;(conv=>whnf); (first | refine Ob.call (hH) ?_);(conv=>whnf)) | (refine Fi.a ?_;conv=>whnf) | (refine Ob.b ?_;conv=>whnf)
      all_goals first | (have e := he (by omega); exact Lf) | exact ⟨rfl, ⟨(i + 1, o), ⟨by simp only; omega, by simp only; omega⟩, (hs (by omega)).symm⟩, Lf, by simp only; omega⟩
  · exact Lf
def fewTo (r : Row) : Nat → Nat
  | 0 => r.lots.length
  | b + 1 => if (listed b r.lots.length).length < fewTo r b ∧ explL r (listed b r.lots.length) then (listed b r.lots.length).length else fewTo r b
def fewestR (r : Row) : Nat := fewTo r (2 ^ r.lots.length)
theorem fewTo_le (r : Row) : ∀ b, fewTo r b ≤ r.lots.length
  | 0 => Nat.le_refl _
  | b + 1 => by rw [fewTo]; split; exact listed_len _ _; exact fewTo_le r b
set_option maxHeartbeats 4000000 in
theorem FewestOf_spec (r : Row) (hr : RowOk r) : Fn Try.prog 43 [rowD r] (int (fewestR r)) := by
  have h10 := hr.l10
  have h12 := hr.w12
  have hpw := pow10 h10
  have hpi : (0 : Int) ≤ 1 * 2 ^ ((r.lots.length : Int)).toNat ∧ (1 : Int) * 2 ^ ((r.lots.length : Int)).toNat ≤ 4096 := by
    rw [Int.toNat_natCast, Int.one_mul]
    have e : ((2 : Int) ^ r.lots.length) = ((2 ^ r.lots.length : Nat) : Int) := by simp
    rw [e]; exact ⟨Int.natCast_nonneg _, Int.ofNat_le.2 (Nat.le_trans hpw (show 1024 ≤ 4096 by decide))⟩
  have hpe : (1 : Int) * 2 ^ ((r.lots.length : Int)).toNat = ((2 ^ r.lots.length : Nat) : Int) := by simp
  have hsh : r.lots.length < 64 := by omega
  have hLi := fun (b : Nat) (hb : b < 2 ^ r.lots.length) => Listed_spec b r.lots.length (Nat.lt_of_lt_of_le hb (Nat.le_trans hpw (by decide))) (by omega)
  have hEx := fun (b : Nat) => Explains_spec r (listed b r.lots.length) (listed_in r b) (by have := listed_len b r.lots.length; omega) (by omega) (by omega)
  generalize hfin : fewestR r = fin
  refine Fn.of_ex (cuts := []) tys hM Try.func43 rfl Try.call43 rfl ?_
  show exC Try.prog T [] _ false none 0 (entry 34 [rowD r]) (finQ T [ResultVar.tmp 2] _)
  conv => whnf
  repeat' first | ((first | refine Ob.a ?_ | refine Sp.tt ?_ | refine Sp.ff ?_ | refine Sp.yes ?_ | refine Sp.no ?_ | refine Sp.nyes ?_ | refine Sp.nno ?_);conv=>whnf) | (refine Sp.ne (fun hc => ?_) (fun hc => ?_) <;> (conv=>whnf)) | (refine Sp.dec (fun hc => ?_) (fun hc => ?_) <;> (conv=>whnf)) | (refine Sp.ndec (fun hc => ?_) (fun hc => ?_) <;> (conv=>whnf)) | (refine Sp.mk (fun hc => ?_) (fun hc => ?_) <;> (conv=>whnf)) | (refine Fi.a ?_;conv=>whnf) | (refine Ob.b ?_;conv=>whnf)
  refine Lp.snap [0, 1, 2, 33] 40 ?_
  (conv=>whnf)
  refine LpB.go 34 ({q : Nat × Nat // q.1 ≤ 2 ^ r.lots.length ∧ q.2 = fewTo r q.1}) 0 (fun ⟨(b, o), _⟩ nx => ([(4, .d (int b)), (3, .d (int o))], [])) (fun p => 2 ^ r.lots.length - p.1.1) (⟨(0, r.lots.length), by simp, rfl⟩) ?_ ?_
  · rintro ⟨⟨b, o⟩, hb, ho⟩
    simp only at hb ho
    have hg : fewTo r (b + 1) = if (listed b r.lots.length).length < o ∧ explL r (listed b r.lots.length) then (listed b r.lots.length).length else o := by rw [ho]; rfl
    by_cases hbl : b < 2 ^ r.lots.length
    · have hLb := hLi b hbl
      have hE := hEx b
      clear hLi hEx
      generalize listed b r.lots.length = l at *
      by_cases h1 : l.length < o
      · by_cases h2 : explL r l
        · rw [if_pos ⟨h1, h2⟩] at hg
          rw [decide_eq_true h2] at hE
          conv => whnf
          repeat' first | ((first | refine Ob.a ?_ | refine Sp.tt ?_ | refine Sp.ff ?_ | refine Sp.yes ?_ | refine Sp.no ?_ | refine Sp.nyes ?_ | refine Sp.nno ?_);conv=>whnf) | (refine Sp.ne (fun hc => ?_) (fun hc => ?_) <;> (conv=>whnf)) | (refine Sp.dec (fun hc => ?_) (fun hc => ?_) <;> (conv=>whnf)) | (refine Sp.ndec (fun hc => ?_) (fun hc => ?_) <;> (conv=>whnf)) | (refine Sp.mk (fun hc => ?_) (fun hc => ?_) <;> (conv=>whnf)) | (apply Cl.go;(conv=>whnf); (first | refine Ob.call (hLb) ?_ | refine Ob.call (hE) ?_);(conv=>whnf)) | (refine Fi.a ?_;conv=>whnf) | (refine Ob.b ?_;conv=>whnf)
          exact ⟨rfl, ⟨(b + 1, l.length), hbl, hg.symm⟩, Lf, by simp only; omega⟩
        · rw [if_neg fun h => h2 h.2] at hg
          rw [decide_eq_false h2] at hE
          conv => whnf
          repeat' first | ((first | refine Ob.a ?_ | refine Sp.tt ?_ | refine Sp.ff ?_ | refine Sp.yes ?_ | refine Sp.no ?_ | refine Sp.nyes ?_ | refine Sp.nno ?_);conv=>whnf) | (refine Sp.ne (fun hc => ?_) (fun hc => ?_) <;> (conv=>whnf)) | (refine Sp.dec (fun hc => ?_) (fun hc => ?_) <;> (conv=>whnf)) | (refine Sp.ndec (fun hc => ?_) (fun hc => ?_) <;> (conv=>whnf)) | (refine Sp.mk (fun hc => ?_) (fun hc => ?_) <;> (conv=>whnf)) | (apply Cl.go;(conv=>whnf); (first | refine Ob.call (hLb) ?_ | refine Ob.call (hE) ?_);(conv=>whnf)) | (refine Fi.a ?_;conv=>whnf) | (refine Ob.b ?_;conv=>whnf)
          exact ⟨rfl, ⟨(b + 1, o), hbl, hg.symm⟩, Lf, by simp only; omega⟩
      · rw [if_neg fun h => h1 h.1] at hg
        conv => whnf
        repeat' first | ((first | refine Ob.a ?_ | refine Sp.tt ?_ | refine Sp.ff ?_ | refine Sp.yes ?_ | refine Sp.no ?_ | refine Sp.nyes ?_ | refine Sp.nno ?_);conv=>whnf) | (refine Sp.ne (fun hc => ?_) (fun hc => ?_) <;> (conv=>whnf)) | (refine Sp.dec (fun hc => ?_) (fun hc => ?_) <;> (conv=>whnf)) | (refine Sp.ndec (fun hc => ?_) (fun hc => ?_) <;> (conv=>whnf)) | (refine Sp.mk (fun hc => ?_) (fun hc => ?_) <;> (conv=>whnf)) | (apply Cl.go;(conv=>whnf); (first | refine Ob.call (hLb) ?_ | refine Ob.call (hE) ?_);(conv=>whnf)) | (refine Fi.a ?_;conv=>whnf) | (refine Ob.b ?_;conv=>whnf)
        exact ⟨rfl, ⟨(b + 1, o), hbl, hg.symm⟩, Lf, by simp only; omega⟩
    · have e : (o : Int) = fin := by rw [ho, ← hfin, show b = 2 ^ r.lots.length by omega]; rfl
      conv => whnf
      repeat' first | ((first | refine Ob.a ?_ | refine Sp.tt ?_ | refine Sp.ff ?_ | refine Sp.yes ?_ | refine Sp.no ?_ | refine Sp.nyes ?_ | refine Sp.nno ?_);conv=>whnf) | (refine Sp.ne (fun hc => ?_) (fun hc => ?_) <;> (conv=>whnf)) | (refine Sp.dec (fun hc => ?_) (fun hc => ?_) <;> (conv=>whnf)) | (refine Sp.ndec (fun hc => ?_) (fun hc => ?_) <;> (conv=>whnf)) | (refine Sp.mk (fun hc => ?_) (fun hc => ?_) <;> (conv=>whnf)) | (refine Fi.a ?_;conv=>whnf) | (refine Ob.b ?_;conv=>whnf)
      exact Lf
  · exact Lf
def togB (r : Row) (a b : Int) : Bool := r.lots.any fun l => decide (Has l a) && decide (Has l b)
set_option maxHeartbeats 4000000 in
theorem Together_spec (r : Row) (a b : Int) (h1 : r.lots.length < 1000000) : Fn Try.prog 77 [rowD r, int a, int b] (bool (togB r a b)) := by
  refine Fn.hide (D := fun r : Bool => bool r) fun c hc => ?_
  have hc0 := hc.h
  refine Fn.of_ex (cuts := []) tys hM Try.func77 rfl Try.call77 rfl ?_
  show exC Try.prog T [] _ false none 0 (entry 31 [rowD r, int a, int b]) (finQ T [ResultVar.tmp 6] _)
  conv => whnf
  repeat' first | ((first | refine Ob.a ?_ | refine Sp.tt ?_ | refine Sp.ff ?_ | refine Sp.yes ?_ | refine Sp.no ?_ | refine Sp.nyes ?_ | refine Sp.nno ?_);conv=>whnf) | (refine Sp.ne (fun hc => ?_) (fun hc => ?_) <;> (conv=>whnf)) | (refine Sp.dec (fun hc => ?_) (fun hc => ?_) <;> (conv=>whnf)) | (refine Sp.ndec (fun hc => ?_) (fun hc => ?_) <;> (conv=>whnf)) | (refine Sp.mk (fun hc => ?_) (fun hc => ?_) <;> (conv=>whnf)) | (refine Fi.a ?_;conv=>whnf) | (refine Ob.b ?_;conv=>whnf)
  refine Lp.snap [0, 1, 2, 3] 40 ?_
  (conv=>whnf)
  refine LpB.go 31 ({i : Int // (0 ≤ i ∧ i ≤ r.lots.length) ∧ (r.lots.take i.toNat).any (fun l => decide (Has l a) && decide (Has l b)) = false}) 0 (fun ⟨i, _⟩ nx => ([(7, .d (int i))], [])) (fun p => (r.lots.length - p.1).toNat) (⟨0, ⟨by simp, by simp⟩, rfl⟩) ?_ ?_
  · rintro ⟨i, ⟨i0, i1⟩, hinv⟩
    have hA := Has_spec (r.lots.getD i.toNat default) a
    have hB := Has_spec (r.lots.getD i.toNat default) b
    have f1 : i < r.lots.length → (decide (Has (r.lots.getD i.toNat default) a) && decide (Has (r.lots.getD i.toNat default) b)) = true → c = true := fun hi h => by
      rw [← hc0]
      exact List.any_eq_true.2 ⟨_, getD_mem (i := i.toNat) (by omega) default, h⟩
    have f2 : i < r.lots.length → (decide (Has (r.lots.getD i.toNat default) a) && decide (Has (r.lots.getD i.toNat default) b)) = false → (r.lots.take (i + 1).toNat).any (fun l => decide (Has l a) && decide (Has l b)) = false := fun hi h => by
      rw [show (i + 1).toNat = i.toNat + 1 by omega, take_succ_getD _ _ default (by omega), List.any_append, hinv]
      simp only [List.any_cons, List.any_nil, h]; rfl
    have f3 : ¬ i < r.lots.length → c = false := fun hi => by rw [← hc0, ← hinv, List.take_of_length_le (by omega)]; rfl
    generalize decide (Has (r.lots.getD i.toNat default) a) = A at *
    generalize decide (Has (r.lots.getD i.toNat default) b) = B at *
    by_cases hil : i < r.lots.length
    · cases A
      · have e := f2 hil rfl
        conv => whnf
        repeat' first | ((first | refine Ob.a ?_ | refine Sp.tt ?_ | refine Sp.ff ?_ | refine Sp.yes ?_ | refine Sp.no ?_ | refine Sp.nyes ?_ | refine Sp.nno ?_);conv=>whnf) | (refine Sp.ne (fun hc => ?_) (fun hc => ?_) <;> (conv=>whnf)) | (refine Sp.dec (fun hc => ?_) (fun hc => ?_) <;> (conv=>whnf)) | (refine Sp.ndec (fun hc => ?_) (fun hc => ?_) <;> (conv=>whnf)) | (refine Sp.mk (fun hc => ?_) (fun hc => ?_) <;> (conv=>whnf)) | (apply Cl.go;(conv=>whnf); (first | refine Ob.call (hA) ?_ | refine Ob.call (hB) ?_);(conv=>whnf)) | (refine Fi.a ?_;conv=>whnf) | (refine Ob.b ?_;conv=>whnf)
        exact ⟨rfl, ⟨i + 1, ⟨by omega, by omega⟩, e⟩, Lf, by simp only; omega⟩
      · cases B
        · have e := f2 hil rfl
          conv => whnf
          repeat' first | ((first | refine Ob.a ?_ | refine Sp.tt ?_ | refine Sp.ff ?_ | refine Sp.yes ?_ | refine Sp.no ?_ | refine Sp.nyes ?_ | refine Sp.nno ?_);conv=>whnf) | (refine Sp.ne (fun hc => ?_) (fun hc => ?_) <;> (conv=>whnf)) | (refine Sp.dec (fun hc => ?_) (fun hc => ?_) <;> (conv=>whnf)) | (refine Sp.ndec (fun hc => ?_) (fun hc => ?_) <;> (conv=>whnf)) | (refine Sp.mk (fun hc => ?_) (fun hc => ?_) <;> (conv=>whnf)) | (apply Cl.go;(conv=>whnf); (first | refine Ob.call (hA) ?_ | refine Ob.call (hB) ?_);(conv=>whnf)) | (refine Fi.a ?_;conv=>whnf) | (refine Ob.b ?_;conv=>whnf)
          exact ⟨rfl, ⟨i + 1, ⟨by omega, by omega⟩, e⟩, Lf, by simp only; omega⟩
        · have e := f1 hil rfl
          conv => whnf
          repeat' first | ((first | refine Ob.a ?_ | refine Sp.tt ?_ | refine Sp.ff ?_ | refine Sp.yes ?_ | refine Sp.no ?_ | refine Sp.nyes ?_ | refine Sp.nno ?_);conv=>whnf) | (refine Sp.ne (fun hc => ?_) (fun hc => ?_) <;> (conv=>whnf)) | (refine Sp.dec (fun hc => ?_) (fun hc => ?_) <;> (conv=>whnf)) | (refine Sp.ndec (fun hc => ?_) (fun hc => ?_) <;> (conv=>whnf)) | (refine Sp.mk (fun hc => ?_) (fun hc => ?_) <;> (conv=>whnf)) | (apply Cl.go;(conv=>whnf); (first | refine Ob.call (hA) ?_ | refine Ob.call (hB) ?_);(conv=>whnf)) | (refine Fi.a ?_;conv=>whnf) | (refine Ob.b ?_;conv=>whnf)
          exact Lf
    · have e := f3 hil
      conv => whnf
      repeat' first | ((first | refine Ob.a ?_ | refine Sp.tt ?_ | refine Sp.ff ?_ | refine Sp.yes ?_ | refine Sp.no ?_ | refine Sp.nyes ?_ | refine Sp.nno ?_);conv=>whnf) | (refine Sp.ne (fun hc => ?_) (fun hc => ?_) <;> (conv=>whnf)) | (refine Sp.dec (fun hc => ?_) (fun hc => ?_) <;> (conv=>whnf)) | (refine Sp.ndec (fun hc => ?_) (fun hc => ?_) <;> (conv=>whnf)) | (refine Sp.mk (fun hc => ?_) (fun hc => ?_) <;> (conv=>whnf)) | (refine Fi.a ?_;conv=>whnf) | (refine Ob.b ?_;conv=>whnf)
      exact Lf
  · exact Lf
set_option maxHeartbeats 4000000 in
theorem isWeak_spec (r : Row) (a : Int) (h1 : r.weak.length < 1000000) : Fn Try.prog 84 [rowD r, int a] (bool (decide (a ∈ r.weak))) := by
  refine Fn.hide (D := fun r : Bool => bool r) fun c hc => ?_
  have hc0 := hc.h
  refine Fn.of_ex (cuts := []) tys hM Try.func84 rfl Try.call84 rfl ?_
  show exC Try.prog T [] _ false none 0 (entry 20 [rowD r, int a]) (finQ T [ResultVar.tmp 4] _)
  conv => whnf
  repeat' first | ((first | refine Ob.a ?_ | refine Sp.tt ?_ | refine Sp.ff ?_ | refine Sp.yes ?_ | refine Sp.no ?_ | refine Sp.nyes ?_ | refine Sp.nno ?_);conv=>whnf) | (refine Sp.ne (fun hc => ?_) (fun hc => ?_) <;> (conv=>whnf)) | (refine Sp.dec (fun hc => ?_) (fun hc => ?_) <;> (conv=>whnf)) | (refine Sp.ndec (fun hc => ?_) (fun hc => ?_) <;> (conv=>whnf)) | (refine Sp.mk (fun hc => ?_) (fun hc => ?_) <;> (conv=>whnf)) | (refine Fi.a ?_;conv=>whnf) | (refine Ob.b ?_;conv=>whnf)
  refine Lp.snap [0, 1, 2] 40 ?_
  (conv=>whnf)
  refine LpB.go 20 ({i : Int // (0 ≤ i ∧ i ≤ r.weak.length) ∧ ∀ j, j < i.toNat → r.weak.getD j 0 ≠ a}) 0 (fun ⟨i, _⟩ nx => ([(5, .d (int i))], [])) (fun p => (r.weak.length - p.1).toNat) (⟨0, ⟨by simp, by simp⟩, fun j hj => by simp at hj⟩) ?_ ?_
  · rintro ⟨i, ⟨i0, i1⟩, hinv⟩
    have f1 : i < r.weak.length → r.weak.getD i.toNat 0 = a → c = true := fun hi h => by
      rw [← hc0]
      exact decide_eq_true (h ▸ getD_mem (i := i.toNat) (by omega) 0)
    have f2 : i < r.weak.length → ¬ r.weak.getD i.toNat 0 = a → ∀ j, j < (i + 1).toNat → r.weak.getD j 0 ≠ a := fun hi h j hj => by
      by_cases e : j < i.toNat
      · exact hinv j e
      · obtain rfl : j = i.toNat := by omega
        exact h
    have f3 : ¬ i < r.weak.length → c = false := fun hi => by
      rw [← hc0]
      refine decide_eq_false fun hm => ?_
      obtain ⟨j, hj, e⟩ := List.getElem_of_mem hm
      have := hinv j (by omega)
      rw [List.getD_eq_getElem?_getD, List.getElem?_eq_getElem hj] at this
      exact this e
    conv => whnf
    repeat' first | ((first | refine Ob.a ?_ | refine Sp.tt ?_ | refine Sp.ff ?_ | refine Sp.yes ?_ | refine Sp.no ?_ | refine Sp.nyes ?_ | refine Sp.nno ?_);conv=>whnf) | (refine Sp.ne (fun hc => ?_) (fun hc => ?_) <;> (conv=>whnf)) | (refine Sp.dec (fun hc => ?_) (fun hc => ?_) <;> (conv=>whnf)) | (refine Sp.ndec (fun hc => ?_) (fun hc => ?_) <;> (conv=>whnf)) | (refine Sp.mk (fun hc => ?_) (fun hc => ?_) <;> (conv=>whnf)) | (refine Fi.a ?_;conv=>whnf) | (refine Ob.b ?_;conv=>whnf)
    all_goals first | (have e := f1 (by omega) (by assumption); exact Lf) | (have e := f2 (by omega) (by assumption); exact ⟨rfl, ⟨i + 1, ⟨by omega, by omega⟩, e⟩, Lf, by simp only; omega⟩) | (have e := f3 (by omega); exact Lf)
  · exact Lf
end Go.Px.Try

/-! Rf7 -/
namespace Go.Px.Try
open Go Go.Proofs Go.Px
set_option maxRecDepth 100000
def pairT (r : Row) (l : List Int) : Prop := ∃ i, i < l.length ∧ ∃ k, k < i ∧ togB r (l.getD k 0) (l.getD i 0) = true
def checkApartR (r : Row) (l : List Int) : Int :=
  if checkRow r ≠ 0 then checkRow r else if ¬ risingL l r.pots then 2 else if ¬ ∀ p ∈ l, p ∈ r.weak then 2
  else if l.Pairwise (fun a b => togB r a b = false) then 0 else 16
theorem pair_iff {r : Row} {l : List Int} : l.Pairwise (fun a b => togB r a b = false) ↔ ∀ i, i < l.length → ∀ k, k < i → togB r (l.getD k 0) (l.getD i 0) = false := by
  rw [List.pairwise_iff_getElem]
  constructor
  · intro h i hi k hk
    rw [List.getD_eq_getElem?_getD, List.getElem?_eq_getElem (by omega), List.getD_eq_getElem?_getD, List.getElem?_eq_getElem hi]
    exact h k i (by omega) hi hk
  · intro h i j hi hj hij
    have := h j hj i hij
    rw [List.getD_eq_getElem?_getD, List.getElem?_eq_getElem hi, List.getD_eq_getElem?_getD, List.getElem?_eq_getElem hj] at this
    exact this
set_option maxHeartbeats 8000000 in
theorem CheckApart_spec (r : Row) (P : List Int) (h1 : r.lots.length < 1000000) (h2 : r.weak.length < 1000000) (h3 : P.length < 1000000) : Fn Try.prog 42 [rowD r, ints P] (int (checkApartR r P)) := by
  have hc := CheckRow_spec r h1 h2
  have hri := Rising_spec P r.pots h3
  have hW := fun a => isWeak_spec r a h2
  have hT := fun a b => Together_spec r a b h1
  refine Fn.hide (D := fun r : Int => int r) fun c hcc => ?_
  have hc0 := hcc.h
  by_cases hr : checkRow r = 0
  case neg =>
    have e : c = checkRow r := by rw [← hc0]; exact if_pos hr
    refine Fn.of_ex (cuts := []) tys hM Try.func42 rfl Try.call42 rfl ?_
    show exC Try.prog T [] _ false none 0 (entry 52 [rowD r, ints P]) (finQ T [ResultVar.tmp 4] _)
    conv => whnf
    repeat' first | ((first | refine Ob.a ?_ | refine Sp.tt ?_ | refine Sp.ff ?_ | refine Sp.yes ?_ | refine Sp.no ?_ | refine Sp.nyes ?_ | refine Sp.nno ?_);conv=>whnf) | (refine Sp.ne (fun hc => ?_) (fun hc => ?_) <;> (conv=>whnf)) | (refine Sp.dec (fun hc => ?_) (fun hc => ?_) <;> (conv=>whnf)) | (refine Sp.ndec (fun hc => ?_) (fun hc => ?_) <;> (conv=>whnf)) | (refine Sp.mk (fun hc => ?_) (fun hc => ?_) <;> (conv=>whnf)) | (apply Cl.go;(conv=>whnf); (first | refine Ob.call (hc) ?_);(conv=>whnf)) | (refine Fi.a ?_;conv=>whnf) | (refine Ob.b ?_;conv=>whnf)
    all_goals exact Lf
  rw [hr] at hc
  by_cases hrl : risingL P r.pots
  case neg =>
    have e : c = 2 := by rw [← hc0]; unfold checkApartR; rw [if_neg (by omega), if_pos hrl]
    rw [decide_eq_false hrl] at hri
    refine Fn.of_ex (cuts := []) tys hM Try.func42 rfl Try.call42 rfl ?_
    show exC Try.prog T [] _ false none 0 (entry 52 [rowD r, ints P]) (finQ T [ResultVar.tmp 4] _)
    conv => whnf
    repeat' first | ((first | refine Ob.a ?_ | refine Sp.tt ?_ | refine Sp.ff ?_ | refine Sp.yes ?_ | refine Sp.no ?_ | refine Sp.nyes ?_ | refine Sp.nno ?_);conv=>whnf) | (refine Sp.ne (fun hc => ?_) (fun hc => ?_) <;> (conv=>whnf)) | (refine Sp.dec (fun hc => ?_) (fun hc => ?_) <;> (conv=>whnf)) | (refine Sp.ndec (fun hc => ?_) (fun hc => ?_) <;> (conv=>whnf)) | (refine Sp.mk (fun hc => ?_) (fun hc => ?_) <;> (conv=>whnf)) | (apply Cl.go;(conv=>whnf); (first | refine Ob.call (hc) ?_ | refine Ob.call (hri) ?_);(conv=>whnf)) | (refine Fi.a ?_;conv=>whnf) | (refine Ob.b ?_;conv=>whnf)
    all_goals exact Lf
  rw [decide_eq_true hrl] at hri
  have k0 : c = if ¬ ∀ p ∈ P, p ∈ r.weak then 2 else if P.Pairwise (fun a b => togB r a b = false) then 0 else 16 := by
    rw [← hc0]; unfold checkApartR; rw [if_neg (show ¬ checkRow r ≠ 0 by omega), if_neg (not_not_intro hrl)]
  clear hc0 hcc
  refine Fn.of_ex (cuts := []) tys hM Try.func42 rfl Try.call42 rfl ?_
  show exC Try.prog T [] _ false none 0 (entry 52 [rowD r, ints P]) (finQ T [ResultVar.tmp 4] _)
  conv => whnf
  repeat' first | ((first | refine Ob.a ?_ | refine Sp.tt ?_ | refine Sp.ff ?_ | refine Sp.yes ?_ | refine Sp.no ?_ | refine Sp.nyes ?_ | refine Sp.nno ?_);conv=>whnf) | (refine Sp.ne (fun hc => ?_) (fun hc => ?_) <;> (conv=>whnf)) | (refine Sp.dec (fun hc => ?_) (fun hc => ?_) <;> (conv=>whnf)) | (refine Sp.ndec (fun hc => ?_) (fun hc => ?_) <;> (conv=>whnf)) | (refine Sp.mk (fun hc => ?_) (fun hc => ?_) <;> (conv=>whnf)) | (apply Cl.go;(conv=>whnf); (first | refine Ob.call (hc) ?_ | refine Ob.call (hri) ?_);(conv=>whnf)) | (refine Fi.a ?_;conv=>whnf) | (refine Ob.b ?_;conv=>whnf)
  refine Lp.snap [0, 1, 2, 6, 7, 31, 32, 33, 35, 36, 37, 38, 40, 41, 42, 43, 44, 45, 46, 47, 48, 49, 50] 40 ?_
  (conv=>whnf)
  refine LpB.go 52 ({i : Int // (0 ≤ i ∧ i ≤ P.length) ∧ ∀ j, j < i.toNat → P.getD j 0 ∈ r.weak}) 0 (fun ⟨i, _⟩ nx => ([(5, .d (int i))], [])) (fun p => (P.length - p.1).toNat) (⟨0, ⟨by simp, by simp⟩, fun j hj => by simp at hj⟩) ?_ ?_
  · rintro ⟨i, ⟨i0, i1⟩, hinv⟩
    by_cases hil : i < P.length
    · have hW := hW (P.getD i.toNat 0)
      by_cases hw : P.getD i.toNat 0 ∈ r.weak
      · have e : ∀ j, j < (i + 1).toNat → P.getD j 0 ∈ r.weak := fun j hj => by
          by_cases e : j < i.toNat
          · exact hinv j e
          · obtain rfl : j = i.toNat := by omega
            exact hw
        rw [decide_eq_true hw] at hW
        conv => whnf
        repeat' first | ((first | refine Ob.a ?_ | refine Sp.tt ?_ | refine Sp.ff ?_ | refine Sp.yes ?_ | refine Sp.no ?_ | refine Sp.nyes ?_ | refine Sp.nno ?_);conv=>whnf) | (refine Sp.ne (fun hc => ?_) (fun hc => ?_) <;> (conv=>whnf)) | (refine Sp.dec (fun hc => ?_) (fun hc => ?_) <;> (conv=>whnf)) | (refine Sp.ndec (fun hc => ?_) (fun hc => ?_) <;> (conv=>whnf)) | (refine Sp.mk (fun hc => ?_) (fun hc => ?_) <;> (conv=>whnf)) | (apply Cl.go;(conv=>whnf); (first | refine Ob.call (hW) ?_);(conv=>whnf)) | (refine Fi.a ?_;conv=>whnf) | (refine Ob.b ?_;conv=>whnf)
        exact ⟨rfl, ⟨i + 1, ⟨by omega, by omega⟩, e⟩, Lf, by simp only; omega⟩
      · have e : c = 2 := by
          rw [k0, if_pos]
          intro h; exact hw (h _ (getD_mem (i := i.toNat) (by omega) 0))
        rw [decide_eq_false hw] at hW
        conv => whnf
        repeat' first | ((first | refine Ob.a ?_ | refine Sp.tt ?_ | refine Sp.ff ?_ | refine Sp.yes ?_ | refine Sp.no ?_ | refine Sp.nyes ?_ | refine Sp.nno ?_);conv=>whnf) | (refine Sp.ne (fun hc => ?_) (fun hc => ?_) <;> (conv=>whnf)) | (refine Sp.dec (fun hc => ?_) (fun hc => ?_) <;> (conv=>whnf)) | (refine Sp.ndec (fun hc => ?_) (fun hc => ?_) <;> (conv=>whnf)) | (refine Sp.mk (fun hc => ?_) (fun hc => ?_) <;> (conv=>whnf)) | (apply Cl.go;(conv=>whnf); (first | refine Ob.call (hW) ?_);(conv=>whnf)) | (refine Fi.a ?_;conv=>whnf) | (refine Ob.b ?_;conv=>whnf)
        exact Lf
    · have hall : ∀ p ∈ P, p ∈ r.weak := fun p hp => by
        obtain ⟨j, hj, rfl⟩ := List.getElem_of_mem hp
        have := hinv j (by omega)
        rwa [List.getD_eq_getElem?_getD, List.getElem?_eq_getElem hj] at this
      rw [if_neg (not_not_intro hall)] at k0
      clear hW
      conv => whnf
      repeat' first | ((first | refine Ob.a ?_ | refine Sp.tt ?_ | refine Sp.ff ?_ | refine Sp.yes ?_ | refine Sp.no ?_ | refine Sp.nyes ?_ | refine Sp.nno ?_);conv=>whnf) | (refine Sp.ne (fun hc => ?_) (fun hc => ?_) <;> (conv=>whnf)) | (refine Sp.dec (fun hc => ?_) (fun hc => ?_) <;> (conv=>whnf)) | (refine Sp.ndec (fun hc => ?_) (fun hc => ?_) <;> (conv=>whnf)) | (refine Sp.mk (fun hc => ?_) (fun hc => ?_) <;> (conv=>whnf)) | (refine Fi.a ?_;conv=>whnf) | (refine Ob.b ?_;conv=>whnf)
      refine Lp.snap [0, 1, 2] 40 ?_
      (conv=>whnf)
      refine LpB.go 52 ({i : Int // (0 ≤ i ∧ i ≤ P.length) ∧ ∀ j, j < i.toNat → ∀ k, k < j → togB r (P.getD k 0) (P.getD j 0) = false}) 0 (fun ⟨i, _⟩ nx => ([(6, .d (int i))], [])) (fun p => (P.length - p.1).toNat) (⟨0, ⟨by simp, by simp⟩, fun j hj => by simp at hj⟩) ?_ ?_
      · rintro ⟨i, ⟨i0, i1⟩, hinv⟩
        by_cases hil : i < P.length
        · conv => whnf
          repeat' first | ((first | refine Ob.a ?_ | refine Sp.tt ?_ | refine Sp.ff ?_ | refine Sp.yes ?_ | refine Sp.no ?_ | refine Sp.nyes ?_ | refine Sp.nno ?_);conv=>whnf) | (refine Sp.ne (fun hc => ?_) (fun hc => ?_) <;> (conv=>whnf)) | (refine Sp.dec (fun hc => ?_) (fun hc => ?_) <;> (conv=>whnf)) | (refine Sp.ndec (fun hc => ?_) (fun hc => ?_) <;> (conv=>whnf)) | (refine Sp.mk (fun hc => ?_) (fun hc => ?_) <;> (conv=>whnf)) | (refine Fi.a ?_;conv=>whnf) | (refine Ob.b ?_;conv=>whnf)
          refine Lp.snap [0, 1, 2, 6, 31, 32, 33, 35, 36] 40 ?_
          (conv=>whnf)
          refine LpB.go 52 ({k : Int // (0 ≤ k ∧ k ≤ i) ∧ ∀ j, j < k.toNat → togB r (P.getD j 0) (P.getD i.toNat 0) = false}) 0 (fun ⟨k, _⟩ nx => ([(7, .d (int k))], [])) (fun p => (i - p.1).toNat) (⟨0, ⟨by omega, by omega⟩, fun j hj => by simp at hj⟩) ?_ ?_
          · rintro ⟨k, ⟨q0, q1⟩, hk⟩
            by_cases hkl : k < i
            · have hT := hT (P.getD k.toNat 0) (P.getD i.toNat 0)
              cases ht : togB r (P.getD k.toNat 0) (P.getD i.toNat 0) with
              | true =>
                have e : c = 16 := by
                  rw [k0, if_neg]
                  intro h
                  have := pair_iff.1 h i.toNat (by omega) k.toNat (by omega)
                  rw [ht] at this; cases this
                rw [ht] at hT
                conv => whnf
                repeat' first | ((first | refine Ob.a ?_ | refine Sp.tt ?_ | refine Sp.ff ?_ | refine Sp.yes ?_ | refine Sp.no ?_ | refine Sp.nyes ?_ | refine Sp.nno ?_);conv=>whnf) | (refine Sp.ne (fun hc => ?_) (fun hc => ?_) <;> (conv=>whnf)) | (refine Sp.dec (fun hc => ?_) (fun hc => ?_) <;> (conv=>whnf)) | (refine Sp.ndec (fun hc => ?_) (fun hc => ?_) <;> (conv=>whnf)) | (refine Sp.mk (fun hc => ?_) (fun hc => ?_) <;> (conv=>whnf)) | (apply Cl.go;(conv=>whnf); (first | refine Ob.call (hT) ?_);(conv=>whnf)) | (refine Fi.a ?_;conv=>whnf) | (refine Ob.b ?_;conv=>whnf)
                exact Lf
              | false =>
                have e : ∀ j, j < (k + 1).toNat → togB r (P.getD j 0) (P.getD i.toNat 0) = false := fun j hj => by
                  by_cases e : j < k.toNat
                  · exact hk j e
                  · obtain rfl : j = k.toNat := by omega
                    exact ht
                rw [ht] at hT
                conv => whnf
                repeat' first | ((first | refine Ob.a ?_ | refine Sp.tt ?_ | refine Sp.ff ?_ | refine Sp.yes ?_ | refine Sp.no ?_ | refine Sp.nyes ?_ | refine Sp.nno ?_);conv=>whnf) | (refine Sp.ne (fun hc => ?_) (fun hc => ?_) <;> (conv=>whnf)) | (refine Sp.dec (fun hc => ?_) (fun hc => ?_) <;> (conv=>whnf)) | (refine Sp.ndec (fun hc => ?_) (fun hc => ?_) <;> (conv=>whnf)) | (refine Sp.mk (fun hc => ?_) (fun hc => ?_) <;> (conv=>whnf)) | (apply Cl.go;(conv=>whnf); (first | refine Ob.call (hT) ?_);(conv=>whnf)) | (refine Fi.a ?_;conv=>whnf) | (refine Ob.b ?_;conv=>whnf)
                exact ⟨rfl, ⟨k + 1, ⟨by omega, by omega⟩, e⟩, Lf, by simp only; omega⟩
            · have e : ∀ j, j < (i + 1).toNat → ∀ k, k < j → togB r (P.getD k 0) (P.getD j 0) = false := fun j hj k' hk' => by
                by_cases e : j < i.toNat
                · exact hinv j e k' hk'
                · obtain rfl : j = i.toNat := by omega
                  exact hk k' (by omega)
              conv => whnf
              repeat' first | ((first | refine Ob.a ?_ | refine Sp.tt ?_ | refine Sp.ff ?_ | refine Sp.yes ?_ | refine Sp.no ?_ | refine Sp.nyes ?_ | refine Sp.nno ?_);conv=>whnf) | (refine Sp.ne (fun hc => ?_) (fun hc => ?_) <;> (conv=>whnf)) | (refine Sp.dec (fun hc => ?_) (fun hc => ?_) <;> (conv=>whnf)) | (refine Sp.ndec (fun hc => ?_) (fun hc => ?_) <;> (conv=>whnf)) | (refine Sp.mk (fun hc => ?_) (fun hc => ?_) <;> (conv=>whnf)) | (refine Fi.a ?_;conv=>whnf) | (refine Ob.b ?_;conv=>whnf)
              exact ⟨rfl, ⟨i + 1, ⟨by omega, by omega⟩, e⟩, Lf, by simp only; omega⟩
          · exact Lf
        · have e : c = 0 := by
            rw [k0, if_pos]
            exact pair_iff.2 fun j hj k hk => hinv j (by omega) k hk
          conv => whnf
          repeat' first | ((first | refine Ob.a ?_ | refine Sp.tt ?_ | refine Sp.ff ?_ | refine Sp.yes ?_ | refine Sp.no ?_ | refine Sp.nyes ?_ | refine Sp.nno ?_);conv=>whnf) | (refine Sp.ne (fun hc => ?_) (fun hc => ?_) <;> (conv=>whnf)) | (refine Sp.dec (fun hc => ?_) (fun hc => ?_) <;> (conv=>whnf)) | (refine Sp.ndec (fun hc => ?_) (fun hc => ?_) <;> (conv=>whnf)) | (refine Sp.mk (fun hc => ?_) (fun hc => ?_) <;> (conv=>whnf)) | (refine Fi.a ?_;conv=>whnf) | (refine Ob.b ?_;conv=>whnf)
          exact Lf
      · exact Lf
  · exact Lf
/-- A list that was copied, and grew at its end. -/
theorem ImpS.appd1 {α : Type} {t : Bool} {k n o : Nat} {enc : α → DV} {d : α} {L : List α} {x : α} {z g : Nat → DV} (hn : n = L.length + 1) (ho : o = L.length) (hg : g 0 = enc x) : ImpS (.sl t k n fun i => apd o (apd 0 z (fun i => enc (L.getD i d))) g (0 + i)) (slOf k enc d (L ++ [x])) := by
  subst ho; subst hn
  refine ⟨Imp.sl (fun e => by cases e) (by simp) fun j hj => Imp.of_eq ?_⟩
  rw [Nat.zero_add]
  unfold apd
  by_cases h : j < L.length
  · rw [if_pos h, if_neg (by omega), Nat.sub_zero]
    show enc (L.getD j d) = _
    rw [List.getD_eq_getElem?_getD, List.getD_eq_getElem?_getD, List.getElem?_append_left h]
  · have : j = L.length := by omega
    subst this
    rw [if_neg h, Nat.sub_self, hg, List.getD_eq_getElem?_getD, List.getElem?_append_right (Nat.le_refl _)]
    simp
/-- The longest lists of pots apart that go on from one, the first one of them. -/
def growR (r : Row) : Nat → List Int → List Int → List Int
  | 0, _, best => best
  | m + 1, begun, best =>
    if checkApartR r (begun ++ [r.weak.getD (r.weak.length - (m + 1)) 0]) = 0 then
      growR r m begun (if best.length < (growR r m (begun ++ [r.weak.getD (r.weak.length - (m + 1)) 0]) (begun ++ [r.weak.getD (r.weak.length - (m + 1)) 0])).length then growR r m (begun ++ [r.weak.getD (r.weak.length - (m + 1)) 0]) (begun ++ [r.weak.getD (r.weak.length - (m + 1)) 0]) else best)
    else growR r m begun best
theorem growR_len (r : Row) : ∀ (m : Nat) (begun best : List Int) (B : Nat), begun.length + m ≤ B → best.length ≤ B → (growR r m begun best).length ≤ B
  | 0, _, _, _, _, h => h
  | m + 1, begun, best, B, h1, h2 => by
    have ih := fun b B' => growR_len r m (begun ++ [r.weak.getD (r.weak.length - (m + 1)) 0]) b B'
    rw [growR]
    split
    · refine growR_len r m begun _ B (by omega) ?_
      split
      · exact ih _ B (by rw [List.length_append]; simp; omega) (by rw [List.length_append]; simp; omega)
      · exact h2
    · exact growR_len r m begun best B (by omega) h2
set_option maxHeartbeats 8000000 in
theorem grown_spec (r : Row) (hw : r.weak.length ≤ 12) (hl : r.lots.length ≤ 10) : ∀ (m : Nat) (k : Int) (begun : List Int), (k = r.weak.length - m ∧ 0 ≤ k) → begun.length ≤ 100 - m → m ≤ 12 → Fn Try.prog 76 [rowD r, ints begun, int k] (ints (growR r m begun begun))
  | m, k, begun, hk, hb, hm12 => by
    have hA := fun (x : Int) => CheckApart_spec r (begun ++ [x]) (by omega) (by omega) (by rw [List.length_append]; simp; omega)
    generalize hfin : growR r m begun begun = fin
    have hG : ∀ (m' : Nat), m' < m → ∀ x, Fn Try.prog 76 [rowD r, ints (begun ++ [x]), int (r.weak.length - m')] (ints (growR r m' (begun ++ [x]) (begun ++ [x]))) := fun m' hm' x => grown_spec r hw hl m' (r.weak.length - m') (begun ++ [x]) ⟨rfl, by omega⟩ (by rw [List.length_append]; simp; omega) (by omega)
    have hbl : begun.length ≤ 100 := by omega
    refine Fn.of_ex (cuts := []) tys hM Try.func76 rfl Try.call76 rfl ?_
    show exC Try.prog T [] _ false none 0 (entry 46 [rowD r, ints begun, int k]) (finQ T [ResultVar.tmp 6] _)
    conv => whnf
    repeat' first | ((first | refine Ob.a ?_ | refine Sp.tt ?_ | refine Sp.ff ?_ | refine Sp.yes ?_ | refine Sp.no ?_ | refine Sp.nyes ?_ | refine Sp.nno ?_);conv=>whnf) | (refine Sp.ne (fun hc => ?_) (fun hc => ?_) <;> (conv=>whnf)) | (refine Sp.dec (fun hc => ?_) (fun hc => ?_) <;> (conv=>whnf)) | (refine Sp.ndec (fun hc => ?_) (fun hc => ?_) <;> (conv=>whnf)) | (refine Sp.mk (fun hc => ?_) (fun hc => ?_) <;> (conv=>whnf)) | (refine Fi.a ?_;conv=>whnf) | (refine Ob.b ?_;conv=>whnf)
    refine Lp.snap [0, 1, 2, 3, 6, 45] 40 ?_
    (conv=>whnf)
    refine LpB.go 46 ({q : Int × List Int // (k ≤ q.1 ∧ q.1 ≤ r.weak.length) ∧ growR r (r.weak.length - q.1).toNat begun q.2 = fin ∧ q.2.length ≤ 100}) 0 (fun ⟨(i, b), _⟩ nx => ([(8, .d (int i)), (7, .d (ints b))], [])) (fun p => (r.weak.length - p.1.1).toNat) (⟨(k, begun), ⟨by simp, by simp only; omega⟩, by simp only; rw [show (r.weak.length - k).toNat = m by omega]; exact hfin, hbl⟩) ?_ ?_
    · rintro ⟨⟨i, b⟩, ⟨i0, i1⟩, hinv, hb1⟩
      simp only at i0 i1 hinv hb1
      by_cases hil : i < r.weak.length
      · obtain ⟨q, hq⟩ : ∃ q, (r.weak.length - i).toNat = q + 1 := ⟨(r.weak.length - i).toNat - 1, by omega⟩
        have hqx : r.weak.length - (q + 1) = i.toNat := by omega
        have hA := hA (r.weak.getD i.toNat 0)
        have hG := hG q (by omega) (r.weak.getD i.toNat 0)
        rw [hq, growR, hqx] at hinv
        rw [show (r.weak.length : Int) - q = i + 1 by omega] at hG
        have hlen := growR_len r q (begun ++ [r.weak.getD i.toNat 0]) (begun ++ [r.weak.getD i.toNat 0]) 100 (by rw [List.length_append]; simp; omega) (by rw [List.length_append]; simp; omega)
        have hq2 : (r.weak.length - (i + 1)).toNat = q := by omega
        generalize growR r q (begun ++ [r.weak.getD i.toNat 0]) (begun ++ [r.weak.getD i.toNat 0]) = g at *
        by_cases hc : checkApartR r (begun ++ [r.weak.getD i.toNat 0]) = 0
        · rw [if_pos hc] at hinv
          rw [hc] at hA
          have hn1 : b.length < g.length → growR r (r.weak.length - (i + 1)).toNat begun g = fin := fun h => by rw [hq2]; rw [if_pos h] at hinv; exact hinv
          have hn2 : ¬ b.length < g.length → growR r (r.weak.length - (i + 1)).toNat begun b = fin := fun h => by rw [hq2]; rw [if_neg h] at hinv; exact hinv
          conv => whnf
          repeat' first | ((first | refine Ob.a ?_ | refine Sp.tt ?_ | refine Sp.ff ?_ | refine Sp.yes ?_ | refine Sp.no ?_ | refine Sp.nyes ?_ | refine Sp.nno ?_);conv=>whnf) | (refine Sp.ne (fun hc => ?_) (fun hc => ?_) <;> (conv=>whnf)) | (refine Sp.dec (fun hc => ?_) (fun hc => ?_) <;> (conv=>whnf)) | (refine Sp.ndec (fun hc => ?_) (fun hc => ?_) <;> (conv=>whnf)) | (refine Sp.mk (fun hc => ?_) (fun hc => ?_) <;> (conv=>whnf)) | (refine Fi.a ?_;conv=>whnf) | (refine Ob.b ?_;conv=>whnf)
          apply Cl.go
          (conv=>whnf)
          refine Ob.fn ?_ ?_ ?_ (hA)
          rotate_left
          all_goals try (repeat' first | (refine Edge.fast ?_) | ((conv=>whnf); first | exact True.intro | (refine And.intro ?_ ?_) | exact rfl | exact Nat.le_of_eq (Nat.zero_add _) | exact ImpS.refl _ | ((conv => arg 1; whnf); first | exact ImpS.refl _ | (refine ImpS.nil_eq ?_) | (refine ImpS.vnil_eq ?_) | (refine ImpS.row ?_) | (refine ImpS.rowN ?_ ?_) | (refine ImpS.sl_eq ?_) | (refine ImpS.expl rfl ?_)) | (refine row_snoc' ?_) | (apply row_upd) | exact cimp_none | exact cimp_same | exact List.not_mem_nil | exact DImp.refl _) | exact rfl | (refine And.intro ?_ ?_) | exact ImpS.refl _)
          all_goals try first | assumption | omega
          · conv => whnf
            conv => arg 1; whnf
            exact ImpS.appd1 (by omega) (by omega) rfl
          conv => whnf
          repeat' first | ((first | refine Ob.a ?_ | refine Sp.tt ?_ | refine Sp.ff ?_ | refine Sp.yes ?_ | refine Sp.no ?_ | refine Sp.nyes ?_ | refine Sp.nno ?_);conv=>whnf) | (refine Sp.ne (fun hc => ?_) (fun hc => ?_) <;> (conv=>whnf)) | (refine Sp.dec (fun hc => ?_) (fun hc => ?_) <;> (conv=>whnf)) | (refine Sp.ndec (fun hc => ?_) (fun hc => ?_) <;> (conv=>whnf)) | (refine Sp.mk (fun hc => ?_) (fun hc => ?_) <;> (conv=>whnf)) | (refine Fi.a ?_;conv=>whnf) | (refine Ob.b ?_;conv=>whnf)
          apply Cl.go
          (conv=>whnf)
          refine Ob.fn ?_ ?_ ?_ (hG)
          rotate_left
          all_goals try (repeat' first | (refine Edge.fast ?_) | ((conv=>whnf); first | exact True.intro | (refine And.intro ?_ ?_) | exact rfl | exact Nat.le_of_eq (Nat.zero_add _) | exact ImpS.refl _ | ((conv => arg 1; whnf); first | exact ImpS.refl _ | (refine ImpS.nil_eq ?_) | (refine ImpS.vnil_eq ?_) | (refine ImpS.row ?_) | (refine ImpS.rowN ?_ ?_) | (refine ImpS.sl_eq ?_) | (refine ImpS.expl rfl ?_)) | (refine row_snoc' ?_) | (apply row_upd) | exact cimp_none | exact cimp_same | exact List.not_mem_nil | exact DImp.refl _) | exact rfl | (refine And.intro ?_ ?_) | exact ImpS.refl _)
          all_goals try first | assumption | omega
          · conv => whnf
            conv => arg 1; whnf
            exact ImpS.appd1 (by omega) (by omega) rfl
          conv => whnf
          repeat' first | ((first | refine Ob.a ?_ | refine Sp.tt ?_ | refine Sp.ff ?_ | refine Sp.yes ?_ | refine Sp.no ?_ | refine Sp.nyes ?_ | refine Sp.nno ?_);conv=>whnf) | (refine Sp.ne (fun hc => ?_) (fun hc => ?_) <;> (conv=>whnf)) | (refine Sp.dec (fun hc => ?_) (fun hc => ?_) <;> (conv=>whnf)) | (refine Sp.ndec (fun hc => ?_) (fun hc => ?_) <;> (conv=>whnf)) | (refine Sp.mk (fun hc => ?_) (fun hc => ?_) <;> (conv=>whnf)) | (refine Fi.a ?_;conv=>whnf) | (refine Ob.b ?_;conv=>whnf)
          · have e := hn1 (by omega)
            exact ⟨rfl, ⟨(i + 1, g), ⟨by simp only; omega, by simp only; omega⟩, e, hlen⟩, Lf, by simp only; omega⟩
          · have e := hn2 (by omega)
            exact ⟨rfl, ⟨(i + 1, b), ⟨by simp only; omega, by simp only; omega⟩, e, hb1⟩, Lf, by simp only; omega⟩
        · rw [if_neg hc] at hinv
          have hn : growR r (r.weak.length - (i + 1)).toNat begun b = fin := by rw [hq2]; exact hinv
          generalize checkApartR r (begun ++ [r.weak.getD i.toNat 0]) = c at *
          conv => whnf
          repeat' first | ((first | refine Ob.a ?_ | refine Sp.tt ?_ | refine Sp.ff ?_ | refine Sp.yes ?_ | refine Sp.no ?_ | refine Sp.nyes ?_ | refine Sp.nno ?_);conv=>whnf) | (refine Sp.ne (fun hc => ?_) (fun hc => ?_) <;> (conv=>whnf)) | (refine Sp.dec (fun hc => ?_) (fun hc => ?_) <;> (conv=>whnf)) | (refine Sp.ndec (fun hc => ?_) (fun hc => ?_) <;> (conv=>whnf)) | (refine Sp.mk (fun hc => ?_) (fun hc => ?_) <;> (conv=>whnf)) | (refine Fi.a ?_;conv=>whnf) | (refine Ob.b ?_;conv=>whnf)
          apply Cl.go
          (conv=>whnf)
          refine Ob.fn ?_ ?_ ?_ (hA)
          rotate_left
          all_goals try (repeat' first | (refine Edge.fast ?_) | ((conv=>whnf); first | exact True.intro | (refine And.intro ?_ ?_) | exact rfl | exact Nat.le_of_eq (Nat.zero_add _) | exact ImpS.refl _ | ((conv => arg 1; whnf); first | exact ImpS.refl _ | (refine ImpS.nil_eq ?_) | (refine ImpS.vnil_eq ?_) | (refine ImpS.row ?_) | (refine ImpS.rowN ?_ ?_) | (refine ImpS.sl_eq ?_) | (refine ImpS.expl rfl ?_)) | (refine row_snoc' ?_) | (apply row_upd) | exact cimp_none | exact cimp_same | exact List.not_mem_nil | exact DImp.refl _) | exact rfl | (refine And.intro ?_ ?_) | exact ImpS.refl _)
          all_goals try first | assumption | omega
          · conv => whnf
            conv => arg 1; whnf
            exact ImpS.appd1 (by omega) (by omega) rfl
          conv => whnf
          repeat' first | ((first | refine Ob.a ?_ | refine Sp.tt ?_ | refine Sp.ff ?_ | refine Sp.yes ?_ | refine Sp.no ?_ | refine Sp.nyes ?_ | refine Sp.nno ?_);conv=>whnf) | (refine Sp.ne (fun hc => ?_) (fun hc => ?_) <;> (conv=>whnf)) | (refine Sp.dec (fun hc => ?_) (fun hc => ?_) <;> (conv=>whnf)) | (refine Sp.ndec (fun hc => ?_) (fun hc => ?_) <;> (conv=>whnf)) | (refine Sp.mk (fun hc => ?_) (fun hc => ?_) <;> (conv=>whnf)) | (refine Fi.a ?_;conv=>whnf) | (refine Ob.b ?_;conv=>whnf)
          exact ⟨rfl, ⟨(i + 1, b), ⟨by simp only; omega, by simp only; omega⟩, hn, hb1⟩, Lf, by simp only; omega⟩
      · have e : b = fin := by rw [← hinv, show (r.weak.length - i).toNat = 0 by omega, growR]
        conv => whnf
        repeat' first | ((first | refine Ob.a ?_ | refine Sp.tt ?_ | refine Sp.ff ?_ | refine Sp.yes ?_ | refine Sp.no ?_ | refine Sp.nyes ?_ | refine Sp.nno ?_);conv=>whnf) | (refine Sp.ne (fun hc => ?_) (fun hc => ?_) <;> (conv=>whnf)) | (refine Sp.dec (fun hc => ?_) (fun hc => ?_) <;> (conv=>whnf)) | (refine Sp.ndec (fun hc => ?_) (fun hc => ?_) <;> (conv=>whnf)) | (refine Sp.mk (fun hc => ?_) (fun hc => ?_) <;> (conv=>whnf)) | (refine Fi.a ?_;conv=>whnf) | (refine Ob.b ?_;conv=>whnf)
        exact Lf
    · exact Lf
  termination_by m => m
def apartR (r : Row) : List Int × Int := if checkRow r ≠ 0 then ([], checkRow r) else (growR r r.weak.length [] [], 0)
theorem Apart_spec (r : Row) (h1 : r.lots.length < 1000000) (h2 : r.weak.length < 1000000) : Fn Try.prog 36 [rowD r] (tpl [ints (apartR r).1, int (apartR r).2]) := by
  have hc := CheckRow_spec r h1 h2
  by_cases hr : checkRow r = 0
  case neg =>
    have e : apartR r = ([], checkRow r) := if_pos hr
    rw [e]
    generalize checkRow r = c at *
    refine Fn.of_ex (cuts := []) tys hM Try.func36 rfl Try.call36 rfl ?_
    show exC Try.prog T [] _ false none 0 (entry 11 [rowD r]) (finQ T [ResultVar.tmp 2, ResultVar.tmp 3] _)
    conv => whnf
    repeat' first | ((first | refine Ob.a ?_ | refine Sp.tt ?_ | refine Sp.ff ?_ | refine Sp.yes ?_ | refine Sp.no ?_ | refine Sp.nyes ?_ | refine Sp.nno ?_);conv=>whnf) | (refine Sp.ne (fun hc => ?_) (fun hc => ?_) <;> (conv=>whnf)) | (refine Sp.dec (fun hc => ?_) (fun hc => ?_) <;> (conv=>whnf)) | (refine Sp.ndec (fun hc => ?_) (fun hc => ?_) <;> (conv=>whnf)) | (refine Sp.mk (fun hc => ?_) (fun hc => ?_) <;> (conv=>whnf)) | (apply Cl.go;(conv=>whnf); (first | refine Ob.call (hc) ?_);(conv=>whnf)) | (refine Fi.a ?_;conv=>whnf) | (refine Ob.b ?_;conv=>whnf)
    all_goals exact Lf
  have hok := checkRow_ok.1 hr
  have hG := grown_spec r hok.w12 hok.l10 r.weak.length 0 [] ⟨by omega, by omega⟩ (by simp) hok.w12
  have e : apartR r = (growR r r.weak.length [] [], 0) := if_neg (by omega)
  rw [e]
  rw [hr] at hc
  generalize growR r r.weak.length [] [] = g at *
  refine Fn.of_ex (cuts := []) tys hM Try.func36 rfl Try.call36 rfl ?_
  show exC Try.prog T [] _ false none 0 (entry 11 [rowD r]) (finQ T [ResultVar.tmp 2, ResultVar.tmp 3] _)
  conv => whnf
  repeat' first | ((first | refine Ob.a ?_ | refine Sp.tt ?_ | refine Sp.ff ?_ | refine Sp.yes ?_ | refine Sp.no ?_ | refine Sp.nyes ?_ | refine Sp.nno ?_);conv=>whnf) | (refine Sp.ne (fun hc => ?_) (fun hc => ?_) <;> (conv=>whnf)) | (refine Sp.dec (fun hc => ?_) (fun hc => ?_) <;> (conv=>whnf)) | (refine Sp.ndec (fun hc => ?_) (fun hc => ?_) <;> (conv=>whnf)) | (refine Sp.mk (fun hc => ?_) (fun hc => ?_) <;> (conv=>whnf)) | (apply Cl.go;(conv=>whnf); (first | refine Ob.call (hc) ?_ | refine Ob.call (hG) ?_);(conv=>whnf)) | (refine Fi.a ?_;conv=>whnf) | (refine Ob.b ?_;conv=>whnf)
  all_goals exact Lf
def felS (r : Row) (a : Int) : Nat → Bool := fun k => decide ((k : Int) ≠ a) && togB r a k
def fellowsR (r : Row) (a : Int) : List Int × Int := if checkRow r ≠ 0 then ([], checkRow r) else if a < 0 ∨ r.pots ≤ a then ([], 2) else (lst r.pots.toNat (felS r a), 0)
set_option maxHeartbeats 8000000 in
theorem Fellows_spec (r : Row) (a : Int) (h1 : r.lots.length < 1000000) (h2 : r.weak.length < 1000000) : Fn Try.prog 38 [rowD r, int a] (tpl [ints (fellowsR r a).1, int (fellowsR r a).2]) := by
  have hc := CheckRow_spec r h1 h2
  have hT := fun b => Together_spec r a b h1
  by_cases hr : checkRow r = 0
  case neg =>
    have e : fellowsR r a = ([], checkRow r) := if_pos hr
    rw [e]
    generalize checkRow r = c at *
    refine Fn.of_ex (cuts := []) tys hM Try.func38 rfl Try.call38 rfl ?_
    show exC Try.prog T [] _ false none 0 (entry 41 [rowD r, int a]) (finQ T [ResultVar.tmp 4, ResultVar.tmp 5] _)
    conv => whnf
    repeat' first | ((first | refine Ob.a ?_ | refine Sp.tt ?_ | refine Sp.ff ?_ | refine Sp.yes ?_ | refine Sp.no ?_ | refine Sp.nyes ?_ | refine Sp.nno ?_);conv=>whnf) | (refine Sp.ne (fun hc => ?_) (fun hc => ?_) <;> (conv=>whnf)) | (refine Sp.dec (fun hc => ?_) (fun hc => ?_) <;> (conv=>whnf)) | (refine Sp.ndec (fun hc => ?_) (fun hc => ?_) <;> (conv=>whnf)) | (refine Sp.mk (fun hc => ?_) (fun hc => ?_) <;> (conv=>whnf)) | (apply Cl.go;(conv=>whnf); (first | refine Ob.call (hc) ?_);(conv=>whnf)) | (refine Fi.a ?_;conv=>whnf) | (refine Ob.b ?_;conv=>whnf)
    all_goals exact Lf
  have hok := checkRow_ok.1 hr
  have hp1 := hok.p1
  have hp40 := hok.p40
  rw [hr] at hc
  by_cases ha : a < 0 ∨ r.pots ≤ a
  · have e : fellowsR r a = ([], 2) := by unfold fellowsR; rw [if_neg (show ¬ checkRow r ≠ 0 by omega), if_pos ha]
    rw [e]
    refine Fn.of_ex (cuts := []) tys hM Try.func38 rfl Try.call38 rfl ?_
    show exC Try.prog T [] _ false none 0 (entry 41 [rowD r, int a]) (finQ T [ResultVar.tmp 4, ResultVar.tmp 5] _)
    conv => whnf
    repeat' first | ((first | refine Ob.a ?_ | refine Sp.tt ?_ | refine Sp.ff ?_ | refine Sp.yes ?_ | refine Sp.no ?_ | refine Sp.nyes ?_ | refine Sp.nno ?_);conv=>whnf) | (refine Sp.ne (fun hc => ?_) (fun hc => ?_) <;> (conv=>whnf)) | (refine Sp.dec (fun hc => ?_) (fun hc => ?_) <;> (conv=>whnf)) | (refine Sp.ndec (fun hc => ?_) (fun hc => ?_) <;> (conv=>whnf)) | (refine Sp.mk (fun hc => ?_) (fun hc => ?_) <;> (conv=>whnf)) | (apply Cl.go;(conv=>whnf); (first | refine Ob.call (hc) ?_);(conv=>whnf)) | (refine Fi.a ?_;conv=>whnf) | (refine Ob.b ?_;conv=>whnf)
    all_goals exact Lf
  have e : fellowsR r a = (lst r.pots.toNat (felS r a), 0) := by unfold fellowsR; rw [if_neg (show ¬ checkRow r ≠ 0 by omega), if_neg ha]
  rw [e]
  generalize hfin : lst r.pots.toNat (felS r a) = fin
  refine Fn.of_ex (cuts := []) tys hM Try.func38 rfl Try.call38 rfl ?_
  show exC Try.prog T [] _ false none 0 (entry 41 [rowD r, int a]) (finQ T [ResultVar.tmp 4, ResultVar.tmp 5] _)
  conv => whnf
  repeat' first | ((first | refine Ob.a ?_ | refine Sp.tt ?_ | refine Sp.ff ?_ | refine Sp.yes ?_ | refine Sp.no ?_ | refine Sp.nyes ?_ | refine Sp.nno ?_);conv=>whnf) | (refine Sp.ne (fun hc => ?_) (fun hc => ?_) <;> (conv=>whnf)) | (refine Sp.dec (fun hc => ?_) (fun hc => ?_) <;> (conv=>whnf)) | (refine Sp.ndec (fun hc => ?_) (fun hc => ?_) <;> (conv=>whnf)) | (refine Sp.mk (fun hc => ?_) (fun hc => ?_) <;> (conv=>whnf)) | (apply Cl.go;(conv=>whnf); (first | refine Ob.call (hc) ?_);(conv=>whnf)) | (refine Fi.a ?_;conv=>whnf) | (refine Ob.b ?_;conv=>whnf)
  refine Lp.snap [0, 1, 2, 4, 5, 40] 40 ?_
  (conv=>whnf)
  refine LpB.go 41 ({q : Int × List Int // (0 ≤ q.1 ∧ q.1 ≤ r.pots) ∧ q.2 = lst q.1.toNat (felS r a)}) 0 (fun ⟨(i, o), _⟩ nx => ([(7, .d (int i)), (6, .ms 14 1 0 o.length)], [(14, .row true 3 1 o.length (rowOf int 0 o))])) (fun p => (r.pots - p.1.1).toNat) (⟨(0, []), ⟨by simp, by simp only; omega⟩, rfl⟩) ?_ ?_
  · rintro ⟨⟨i, o⟩, ⟨i0, i1⟩, ho⟩
    simp only at i0 i1 ho
    have hlen : o.length ≤ i.toNat := by rw [ho]; exact lst_length_le _ _
    have hs : lst (i + 1).toNat (felS r a) = o ++ if felS r a i.toNat = true then [i] else [] := by
      rw [show (i + 1).toNat = i.toNat + 1 by omega, lst_succ, ho, Int.toNat_of_nonneg i0]
    have he : ¬ i < r.pots → o = fin := fun hi => by rw [ho, ← hfin, show i.toNat = r.pots.toNat by omega]
    have hT := hT i
    have hf : felS r a i.toNat = (decide (i ≠ a) && togB r a i) := by unfold felS; rw [Int.toNat_of_nonneg i0]
    rw [hf] at hs
    by_cases hil : i < r.pots
    case neg =>
      have e := he hil
      conv => whnf
      repeat' first | ((first | refine Ob.a ?_ | refine Sp.tt ?_ | refine Sp.ff ?_ | refine Sp.yes ?_ | refine Sp.no ?_ | refine Sp.nyes ?_ | refine Sp.nno ?_);conv=>whnf) | (refine Sp.ne (fun hc => ?_) (fun hc => ?_) <;> (conv=>whnf)) | (refine Sp.dec (fun hc => ?_) (fun hc => ?_) <;> (conv=>whnf)) | (refine Sp.ndec (fun hc => ?_) (fun hc => ?_) <;> (conv=>whnf)) | (refine Sp.mk (fun hc => ?_) (fun hc => ?_) <;> (conv=>whnf)) | (refine Fi.a ?_;conv=>whnf) | (refine Ob.b ?_;conv=>whnf)
      exact Lf
    by_cases hia : i = a
    · rw [if_neg (by simp [hia]), List.append_nil] at hs
      conv => whnf
      repeat' first | ((first | refine Ob.a ?_ | refine Sp.tt ?_ | refine Sp.ff ?_ | refine Sp.yes ?_ | refine Sp.no ?_ | refine Sp.nyes ?_ | refine Sp.nno ?_);conv=>whnf) | (refine Sp.ne (fun hc => ?_) (fun hc => ?_) <;> (conv=>whnf)) | (refine Sp.dec (fun hc => ?_) (fun hc => ?_) <;> (conv=>whnf)) | (refine Sp.ndec (fun hc => ?_) (fun hc => ?_) <;> (conv=>whnf)) | (refine Sp.mk (fun hc => ?_) (fun hc => ?_) <;> (conv=>whnf)) | (apply Cl.go;(conv=>whnf); (first | refine Ob.call (hT) ?_);(conv=>whnf)) | (refine Fi.a ?_;conv=>whnf) | (refine Ob.b ?_;conv=>whnf)
      exact ⟨rfl, ⟨(i + 1, o), ⟨by simp only; omega, by simp only; omega⟩, hs.symm⟩, Lf, by simp only; omega⟩
    cases ht : togB r a i with
    | true =>
      rw [if_pos (by simp [hia, ht])] at hs
      rw [ht] at hT
      conv => whnf
      repeat' first | ((first | refine Ob.a ?_ | refine Sp.tt ?_ | refine Sp.ff ?_ | refine Sp.yes ?_ | refine Sp.no ?_ | refine Sp.nyes ?_ | refine Sp.nno ?_);conv=>whnf) | (refine Sp.ne (fun hc => ?_) (fun hc => ?_) <;> (conv=>whnf)) | (refine Sp.dec (fun hc => ?_) (fun hc => ?_) <;> (conv=>whnf)) | (refine Sp.ndec (fun hc => ?_) (fun hc => ?_) <;> (conv=>whnf)) | (refine Sp.mk (fun hc => ?_) (fun hc => ?_) <;> (conv=>whnf)) | (apply Cl.go;(conv=>whnf); (first | refine Ob.call (hT) ?_);(conv=>whnf)) | (refine Fi.a ?_;conv=>whnf) | (refine Ob.b ?_;conv=>whnf)
      exact ⟨rfl, ⟨(i + 1, o ++ [i]), ⟨by simp only; omega, by simp only; omega⟩, hs.symm⟩, Lf, by simp only; omega⟩
    | false =>
      rw [if_neg (by simp [ht]), List.append_nil] at hs
      rw [ht] at hT
      conv => whnf
      repeat' first | ((first | refine Ob.a ?_ | refine Sp.tt ?_ | refine Sp.ff ?_ | refine Sp.yes ?_ | refine Sp.no ?_ | refine Sp.nyes ?_ | refine Sp.nno ?_);conv=>whnf) | (refine Sp.ne (fun hc => ?_) (fun hc => ?_) <;> (conv=>whnf)) | (refine Sp.dec (fun hc => ?_) (fun hc => ?_) <;> (conv=>whnf)) | (refine Sp.ndec (fun hc => ?_) (fun hc => ?_) <;> (conv=>whnf)) | (refine Sp.mk (fun hc => ?_) (fun hc => ?_) <;> (conv=>whnf)) | (apply Cl.go;(conv=>whnf); (first | refine Ob.call (hT) ?_);(conv=>whnf)) | (refine Fi.a ?_;conv=>whnf) | (refine Ob.b ?_;conv=>whnf)
      exact ⟨rfl, ⟨(i + 1, o), ⟨by simp only; omega, by simp only; omega⟩, hs.symm⟩, Lf, by simp only; omega⟩
  · exact Lf
end Go.Px.Try
