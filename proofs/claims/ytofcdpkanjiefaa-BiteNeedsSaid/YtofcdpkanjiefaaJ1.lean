/- Texts of this proof, joined (PxA, PxB, PxC, PxD, PxE, PxF, PxG, PxH, PxI, PxIa, PxJ, PxK, PxL, PxM): a small program logic over the model, and what functions of the program give. No statement of the seat is proved here. -/
import Derived.WalkKit
import Derived.RangeFuncIn
import Derived.OrdersIn
import Derived.Scope
import Derived.Laws.StructEq
import Derived.RangeFuncRecord
set_option linter.unusedVariables false
set_option linter.unusedSimpArgs false

/-! PxA -/
namespace Go.Px
open Go Go.RowKit
/-- A map's keys: structs (or arrays) of n whole numbers, or whole numbers (n = 1); the elements are whole numbers. -/
structure KT where
  ag : Bool
  n : Nat
def aggI (l : List Int) : Value := .agg (l.map (Value.int .i64)).toArray
def keyV (kt : KT) (l : List Int) : Value := match kt.ag with
  | true => aggI l
  | false => .int .i64 (l.headD 0)
/-- What a map's entries are, m: which keys it has, and what for them. -/
structure MapOk (kt : KT) (m : List Int → Option Int) (es : Array MapEntry) (clock : Nat) : Prop where
  wf : kt.ag = false → kt.n = 1
  ent : ∀ e ∈ es.toList, ∃ k x, k.length = kt.n ∧ e.key = keyV kt k ∧ e.val = .int .i64 x ∧ m k = some x
  all : ∀ k x, m k = some x → k.length = kt.n ∧ ∃ e ∈ es.toList, e.key = keyV kt k
  nd : (es.toList.map (·.born)).Nodup
  lt : ∀ e ∈ es.toList, e.born < clock
  kn : (es.toList.map (·.key)).Nodup
/-- Data that no one writes any more: a value; whatever; an aggregate; a tuple; a slice (its elements of k cells each); a pointer into such data; a function value; a map. -/
inductive DV : Type
  | v (x : Value)
  | top
  | ag (n : Nat) (f : Nat → DV)
  | tp (n : Nat) (f : Nat → DV)
  | sl (t : Bool) (k n : Nat) (f : Nat → DV)
  | pt (x : DV) (off : Nat)
  | fn (g n m : Nat) (f c : Nat → DV)
  | mp (kt : KT) (m : List Int → Option Int)
instance : Inhabited DV := ⟨.top⟩
def Ad.at (b o : Nat) : Addr := ⟨b, o, none⟩
/-- A single cell at an address of a block of S. -/
def one (S : Nat → Prop) (W : World) (p : Value → Prop) (b o : Nat) : Prop := S b ∧ ∃ u, W.cell? ⟨b, o, none⟩ = some u ∧ p u ∧ u.oneCell' = true
/-- What a value, and what memory from an address on, must be to read as x. -/
def RR (S : Nat → Prop) (W : World) : DV → (Value → Prop) × (Nat → Nat → Prop)
  | .v x => (fun u => u = x, one S W fun u => u = x)
  | .top => (fun _ => True, fun _ _ => True)
  | .ag n f => (fun u => ∃ cs : Array Value, u = .agg cs ∧ cs.size = n ∧ ∀ j, j < n → (RR S W (f j)).1 (cs.getD j undef) ∧ (cs.getD j undef).oneCell' = true,
      fun b o => ∀ j, j < n → one S W (RR S W (f j)).1 b (o + j))
  | .tp n f => let p := fun u => ∃ cs : Array Value, u = .tuple cs ∧ cs.size = n ∧ ∀ j, j < n → (RR S W (f j)).1 (cs.getD j undef)
      (p, one S W p)
  | .sl t k n f => let p := fun u => ∃ (a : Option Addr) (cap : Nat), u = .slice a n cap ∧ n ≤ cap ∧ (t = true → cap = n) ∧ (a = none → cap = 0) ∧
        ∀ x, a = some x → ∀ i, i < n → x.spot = none ∧ (RR S W (f i)).2 x.block (x.off + i * k)
      (p, one S W p)
  | .pt x off => let p := fun u => ∃ b o, u = .pointer (some ⟨b, o + off, none⟩) ∧ (RR S W x).2 b o
      (p, one S W p)
  | .fn g n m f c => let p := fun u => ∃ fs cs : Array Value, u = .func (.func g) fs cs ∧ fs.size = n ∧ cs.size = m ∧ (∀ j, j < n → (RR S W (f j)).1 (fs.getD j undef)) ∧ ∀ j, j < m → (RR S W (c j)).1 (cs.getD j undef)
      (p, one S W p)
  | .mp kt m => let p := fun u => ∃ r es clock, u = .map (some r) ∧ S r ∧ W.heap[r]? = some (.map es clock) ∧ MapOk kt m es clock
      (p, one S W p)
def Rep (S : Nat → Prop) (W : World) (x : DV) (u : Value) : Prop := (RR S W x).1 u
def RepM (S : Nat → Prop) (W : World) (x : DV) (b o : Nat) : Prop := (RR S W x).2 b o
/-- The blocks of S are in W' as in W. -/
def Keep (S : Nat → Prop) (W W' : World) : Prop := ∀ b, S b → W'.heap[b]? = W.heap[b]?
theorem one_mono {S S' : Nat → Prop} {W W' : World} {p q : Value → Prop} (hS : ∀ b, S b → S' b) (hk : Keep S W W') (hp : ∀ u, p u → q u) {b o : Nat} (h : one S W p b o) : one S' W' q b o := by
  obtain ⟨hb, u, hu, hpu, h1⟩ := h
  exact ⟨hS b hb, u, (World.cell?_of_block (w := W) (w' := W') (a := ⟨b, o, none⟩) (hk b hb)).trans hu, hp u hpu, h1⟩
theorem RR_mono {S S' : Nat → Prop} {W W' : World} (hS : ∀ b, S b → S' b) (hk : Keep S W W') (x : DV) :
    (∀ u, (RR S W x).1 u → (RR S' W' x).1 u) ∧ (∀ b o, (RR S W x).2 b o → (RR S' W' x).2 b o) := by
  induction x with
  | v x => exact ⟨fun u h => h, fun b o h => one_mono hS hk (fun _ h => h) h⟩
  | top => exact ⟨fun _ h => h, fun _ _ h => h⟩
  | ag n f ih =>
    refine ⟨?_, fun b o h j hj => one_mono hS hk (ih j).1 (h j hj)⟩
    rintro u ⟨cs, rfl, hs, hc⟩
    exact ⟨cs, rfl, hs, fun j hj => ⟨(ih j).1 _ (hc j hj).1, (hc j hj).2⟩⟩
  | tp n f ih =>
    have h1 : ∀ u, (RR S W (.tp n f)).1 u → (RR S' W' (.tp n f)).1 u := by
      rintro u ⟨cs, rfl, hs, hc⟩
      exact ⟨cs, rfl, hs, fun j hj => (ih j).1 _ (hc j hj)⟩
    exact ⟨h1, fun b o h => one_mono hS hk h1 h⟩
  | sl t k n f ih =>
    have h1 : ∀ u, (RR S W (.sl t k n f)).1 u → (RR S' W' (.sl t k n f)).1 u := by
      rintro u ⟨a, cap, rfl, hs, ht, hn, hc⟩
      exact ⟨a, cap, rfl, hs, ht, hn, fun x hx i hi => ⟨(hc x hx i hi).1, (ih i).2 _ _ (hc x hx i hi).2⟩⟩
    exact ⟨h1, fun b o h => one_mono hS hk h1 h⟩
  | pt x off ih =>
    have h1 : ∀ u, (RR S W (.pt x off)).1 u → (RR S' W' (.pt x off)).1 u := by
      rintro u ⟨b, o, rfl, h⟩
      exact ⟨b, o, rfl, ih.2 _ _ h⟩
    exact ⟨h1, fun b o h => one_mono hS hk h1 h⟩
  | fn g n m f c ih1 ih2 =>
    have h1 : ∀ u, (RR S W (.fn g n m f c)).1 u → (RR S' W' (.fn g n m f c)).1 u := by
      rintro u ⟨fs, cs, rfl, hs, hs', hf, hc⟩
      exact ⟨fs, cs, rfl, hs, hs', fun j hj => (ih1 j).1 _ (hf j hj), fun j hj => (ih2 j).1 _ (hc j hj)⟩
    exact ⟨h1, fun b o h => one_mono hS hk h1 h⟩
  | mp kt m =>
    have h1 : ∀ u, (RR S W (.mp kt m)).1 u → (RR S' W' (.mp kt m)).1 u := by
      rintro u ⟨r, es, clock, rfl, hr, he, ho⟩
      exact ⟨r, es, clock, rfl, hS r hr, (hk r hr).trans he, ho⟩
    exact ⟨h1, fun b o h => one_mono hS hk h1 h⟩
theorem Rep.mono {S S' : Nat → Prop} {W W' : World} (hS : ∀ b, S b → S' b) (hk : Keep S W W') {x : DV} {u : Value} (h : Rep S W x u) : Rep S' W' x u := (RR_mono hS hk x).1 u h
theorem RepM.mono {S S' : Nat → Prop} {W W' : World} (hS : ∀ b, S b → S' b) (hk : Keep S W W') {x : DV} {b o : Nat} (h : RepM S W x b o) : RepM S' W' x b o := (RR_mono hS hk x).2 b o h
/-- x says no less than y. -/
def Imp (x y : DV) : Prop := ∀ S W, (∀ u, Rep S W x u → Rep S W y u) ∧ (∀ b o, RepM S W x b o → RepM S W y b o)
theorem one_imp {S : Nat → Prop} {W : World} {p q : Value → Prop} (hp : ∀ u, p u → q u) {b o : Nat} (h : one S W p b o) : one S W q b o := by
  obtain ⟨hb, u, hu, hpu, h1⟩ := h
  exact ⟨hb, u, hu, hp u hpu, h1⟩
theorem Imp.refl (x : DV) : Imp x x := fun _ _ => ⟨fun _ h => h, fun _ _ h => h⟩
theorem Imp.of_eq {x y : DV} (h : x = y) : Imp x y := h ▸ Imp.refl x
theorem Imp.trans {x y z : DV} (h : Imp x y) (k : Imp y z) : Imp x z := fun S W => ⟨fun u hu => (k S W).1 u ((h S W).1 u hu), fun b o hb => (k S W).2 b o ((h S W).2 b o hb)⟩
theorem Imp.top (x : DV) : Imp x .top := fun _ _ => ⟨fun _ _ => trivial, fun _ _ _ => trivial⟩
theorem Imp.v {x y : Value} (h : x = y) : Imp (.v x) (.v y) := Imp.of_eq (by rw [h])
theorem Imp.int {k : IntKind} {x y : Int} (h : x = y) : Imp (.v (.int k x)) (.v (.int k y)) := Imp.of_eq (by rw [h])
theorem Imp.bool {x y : Bool} (h : x = y) : Imp (.v (.bool x)) (.v (.bool y)) := Imp.of_eq (by rw [h])
theorem Imp.ag {n m : Nat} {f g : Nat → DV} (hn : n = m) (h : ∀ j, j < n → Imp (f j) (g j)) : Imp (.ag n f) (.ag m g) := by
  subst hn
  intro S W
  refine ⟨?_, fun b o hb j hj => one_imp (h j hj S W).1 (hb j hj)⟩
  rintro u ⟨cs, rfl, hs, hc⟩
  exact ⟨cs, rfl, hs, fun j hj => ⟨(h j hj S W).1 _ (hc j hj).1, (hc j hj).2⟩⟩
theorem Imp.tp {n m : Nat} {f g : Nat → DV} (hn : n = m) (h : ∀ j, j < n → Imp (f j) (g j)) : Imp (.tp n f) (.tp m g) := by
  subst hn
  intro S W
  have h1 : ∀ u, Rep S W (.tp n f) u → Rep S W (.tp n g) u := by
    rintro u ⟨cs, rfl, hs, hc⟩
    exact ⟨cs, rfl, hs, fun j hj => (h j hj S W).1 _ (hc j hj)⟩
  exact ⟨h1, fun b o hb => one_imp h1 hb⟩
theorem Imp.sl {t t' : Bool} {k n m : Nat} {f g : Nat → DV} (ht : t' = true → t = true) (hn : n = m) (h : ∀ j, j < n → Imp (f j) (g j)) : Imp (.sl t k n f) (.sl t' k m g) := by
  subst hn
  intro S W
  have h1 : ∀ u, Rep S W (.sl t k n f) u → Rep S W (.sl t' k n g) u := by
    rintro u ⟨a, cap, rfl, hs, hc, hn, hx⟩
    exact ⟨a, cap, rfl, hs, fun e => hc (ht e), hn, fun x e i hi => ⟨(hx x e i hi).1, (h i hi S W).2 _ _ (hx x e i hi).2⟩⟩
  exact ⟨h1, fun b o hb => one_imp h1 hb⟩
theorem Imp.sl0 {t t' : Bool} {k k' : Nat} {f g : Nat → DV} (ht : t' = true → t = true) : Imp (.sl t k 0 f) (.sl t' k' 0 g) := by
  intro S W
  have h1 : ∀ u, Rep S W (.sl t k 0 f) u → Rep S W (.sl t' k' 0 g) u := by
    rintro u ⟨a, cap, rfl, hs, hc, hn, hx⟩
    exact ⟨a, cap, rfl, hs, fun e => hc (ht e), hn, fun x e i hi => absurd hi (Nat.not_lt_zero i)⟩
  exact ⟨h1, fun b o hb => one_imp h1 hb⟩
theorem Imp.nil {t : Bool} {k : Nat} {f : Nat → DV} : Imp (.v (.slice none 0 0)) (.sl t k 0 f) := by
  intro S W
  have h1 : ∀ u, Rep S W (.v (.slice none 0 0)) u → Rep S W (.sl t k 0 f) u := by
    rintro u rfl
    exact ⟨none, 0, rfl, Nat.le_refl _, fun _ => rfl, fun _ => rfl, fun x e => by cases e⟩
  exact ⟨h1, fun b o hb => one_imp h1 hb⟩
theorem Imp.pt {x y : DV} {o o' : Nat} (ho : o = o') (h : Imp x y) : Imp (.pt x o) (.pt y o') := by
  subst ho
  intro S W
  have h1 : ∀ u, Rep S W (.pt x o) u → Rep S W (.pt y o) u := by
    rintro u ⟨b, p, rfl, hx⟩
    exact ⟨b, p, rfl, (h S W).2 _ _ hx⟩
  exact ⟨h1, fun b o hb => one_imp h1 hb⟩
theorem Imp.fn {g n m : Nat} {f c f' c' : Nat → DV} (hf : ∀ j, j < n → Imp (f j) (f' j)) (hc : ∀ j, j < m → Imp (c j) (c' j)) : Imp (.fn g n m f c) (.fn g n m f' c') := by
  intro S W
  have h1 : ∀ u, Rep S W (.fn g n m f c) u → Rep S W (.fn g n m f' c') u := by
    rintro u ⟨fs, cs, rfl, hs, hs', h1, h2⟩
    exact ⟨fs, cs, rfl, hs, hs', fun j hj => (hf j hj S W).1 _ (h1 j hj), fun j hj => (hc j hj S W).1 _ (h2 j hj)⟩
  exact ⟨h1, fun b o hb => one_imp h1 hb⟩
theorem Imp.mp {kt : KT} {m m' : List Int → Option Int} (h : ∀ k, m k = m' k) : Imp (.mp kt m) (.mp kt m') := Imp.of_eq (by rw [show m = m' from funext h])
/-- A list as slice, an explicit list as aggregate and as tuple. -/
def slOf {α : Type} (k : Nat) (enc : α → DV) (d : α) (xs : List α) : DV := .sl false k xs.length fun i => enc (xs.getD i d)
def st (l : List DV) : DV := .ag l.length fun j => l.getD j .top
def tpl (l : List DV) : DV := .tp l.length fun j => l.getD j .top
def int (x : Int) : DV := .v (.int .i64 x)
def bool (b : Bool) : DV := .v (.bool b)
def ints (xs : List Int) : DV := slOf 1 int 0 xs
/-- What a call of f gives at data: whatever of memory is read as such: the result reads as res; of what was there nothing has changed. -/
def Post (S : Nat → Prop) (w : World) (res : DV) (e : Ending) (w' : World) : Prop :=
  ∃ v S', e = .returned v ∧ Rep S' w' res v ∧ (∀ b, S b → S' b) ∧ (∀ b, S' b → S b ∨ (w.heap.size ≤ b ∧ b < w'.heap.size)) ∧ Below w.heap.size w w'
def Reps (S : Nat → Prop) (w : World) : List DV → List Value → Prop
  | [], [] => True
  | x :: xs, u :: us => Rep S w x u ∧ Reps S w xs us
  | _, _ => False
/-- A function that has a body. -/
def Ent (P : Program) (f : Nat) : Prop := ∀ args w, (callFunc f args).run P w = .ok (.enter f args) w
def Fn (P : Program) (f : Nat) (args : List DV) (res : DV) : Prop :=
  Ent P f ∧ ∀ (S : Nat → Prop) (w : World) (vals : List Value), (∀ b, S b → b < w.heap.size) → Reps S w args vals → Calls P f vals.toArray w (Post S w res)
theorem Reps.mono {S S' : Nat → Prop} {W W' : World} (hS : ∀ b, S b → S' b) (hk : Keep S W W') : ∀ {xs : List DV} {us : List Value}, Reps S W xs us → Reps S' W' xs us
  | [], [], _ => trivial
  | _ :: _, _ :: _, h => ⟨h.1.mono hS hk, Reps.mono hS hk h.2⟩
/-- Each of a list says no less than its fellow. -/
def Imps : List DV → List DV → Prop
  | [], [] => True
  | x :: xs, y :: ys => Imp x y ∧ Imps xs ys
  | _, _ => False
theorem Imps.refl : ∀ l, Imps l l
  | [] => trivial
  | x :: l => ⟨Imp.refl x, Imps.refl l⟩
theorem Reps.imp {S : Nat → Prop} {w : World} : ∀ {xs ys : List DV} {us : List Value}, Imps xs ys → Reps S w xs us → Reps S w ys us
  | [], [], [], _, _ => trivial
  | _ :: _, _ :: _, _ :: _, h, k => ⟨(h.1 S w).1 _ k.1, Reps.imp h.2 k.2⟩
theorem Fn.imp {P : Program} {f : Nat} {args args' : List DV} {res res' : DV} (h : Fn P f args res) (ha : Imps args' args) (hr : Imp res res') : Fn P f args' res' :=
  ⟨h.1, fun S w vals hS hv => (h.2 S w vals hS (Reps.imp ha hv)).mono fun _ w' ⟨v, S', he, hR, h1, h2, h3⟩ => ⟨v, S', he, (hr S' w').1 _ hR, h1, h2, h3⟩⟩
/-- Data that hangs on no memory. -/
def DV.flat : DV → Bool
  | .v _ => true
  | .top => true
  | .ag n f => (List.range n).all fun j => (f j).flat
  | .tp n f => (List.range n).all fun j => (f j).flat
  | _ => false
end Go.Px

/-! PxB -/
namespace Go.Px
open Go Go.RowKit
/-- A slot: data; a pointer to the cell off of the memory id; to the cell off of its element i of k cells; a slice of its elements off to off + n; an aggregate; a function value; a map; a tuple; a slice of all cells of its element i; the stamp of an entry (its name: a place that stands for the number). -/
inductive AV : Type
  | d (x : DV)
  | ref (id off : Nat)
  | el (id k i off : Nat)
  | ms (id k off n : Nat)
  | ag (n : Nat) (f : Nat → AV)
  | fn (g n m : Nat) (f c : Nat → AV)
  | mp (id : Nat)
  | tp (n : Nat) (f : Nat → AV)
  | sub (id k i : Nat)
  | stp (id : Nat)
instance : Inhabited AV := ⟨.d .top⟩
/-- Memory of one's own: n cells; n elements of k cells (T: the type that its block bears); mt: it may still be written; a map; an iterator over a map: which keys it has given, the last one; a map with an entry that is looked at (its stamp). -/
inductive Res : Type
  | cs (mt : Bool) (n : Nat) (f : Nat → AV)
  | row (mt : Bool) (T k n : Nat) (f : Nat → DV)
  | mp (mt : Bool) (kt : KT) (m : List Int → Option Int)
  | it (mt : Bool) (kt : KT) (m : List Int → Option Int) (seen : List (List Int)) (cur : Option (List Int × Int))
  | me (mt : Bool) (kt : KT) (m : List Int → Option Int) (l : List Int) (g : Nat)
structure St where
  n : Nat
  next : Nat
  tm : Nat → AV
  hp : Nat → Option Res
  gh : Option Nat
inductive Loc
  | un | nil | at (b : Nat)
structure Env where
  S : Nat → Prop
  ρ : Nat → Loc
  D : List Nat
/-- W' may differ from W in the blocks of 'own', and have more. -/
structure Stp (own : Nat → Prop) (W W' : World) : Prop where
  os : W'.os = W.os
  tape : W'.tape = W.tape
  output : W'.output = W.output
  size : W.heap.size ≤ W'.heap.size
  block : ∀ k, k < W.heap.size → ¬ own k → W'.heap[k]? = W.heap[k]?
  sh : ∀ (b : Nat) (c : Array Value) (T : TypeId), W.heap[b]? = some (Obj.cells c T (0, 0)) → ∃ c' : Array Value, W'.heap[b]? = some (Obj.cells c' T (0, 0)) ∧ c'.size = c.size
structure Base where
  ow : Nat → Prop
  S0 : Nat → Prop
  ρ0 : Nat → Loc
  G : World → Prop
  hG : ∀ W W', G W → Stp ow W W' → G W'
  how : ∀ W, G W → ∀ b, W.heap.size ≤ b → ow b
def RepA (E : Env) (W : World) : AV → Value → Prop
  | .d x, u => Rep E.S W x u
  | .ref id off, u => ∃ b, E.ρ id = .at b ∧ u = .pointer (some ⟨b, off, none⟩)
  | .el id k i off, u => ∃ b, E.ρ id = .at b ∧ u = .pointer (some ⟨b, i * k + off, none⟩)
  | .ms id k off n, u => (E.ρ id = .nil ∧ n = 0 ∧ u = .slice none 0 0) ∨
      ∃ b o cap c T, E.ρ id = .at b ∧ u = .slice (some ⟨b, o, none⟩) n cap ∧ n ≤ cap ∧ cap ≤ maxLen ∧ W.heap[b]? = some (.cells c T (0, 0)) ∧ ((o = off * k ∧ (off + cap) * k ≤ c.size) ∨ (n = 0 ∧ cap = 0))
  | .ag n f, u => ∃ cs : Array Value, u = .agg cs ∧ cs.size = n ∧ ∀ j, j < n → RepA E W (f j) (cs.getD j undef) ∧ (cs.getD j undef).oneCell' = true
  | .fn g n m f c, u => ∃ fs cs : Array Value, u = .func (.func g) fs cs ∧ fs.size = n ∧ cs.size = m ∧ (∀ j, j < n → RepA E W (f j) (fs.getD j undef)) ∧ ∀ j, j < m → RepA E W (c j) (cs.getD j undef)
  | .mp id, u => ∃ b, E.ρ id = .at b ∧ u = .map (some b)
  | .tp n f, u => ∃ cs : Array Value, u = .tuple cs ∧ cs.size = n ∧ ∀ j, j < n → RepA E W (f j) (cs.getD j undef)
  | .sub id k i, u => ∃ b, E.ρ id = .at b ∧ u = .slice (some ⟨b, i * k, none⟩) k k
  | .stp id, u => ∃ b : Nat, E.ρ id = .at b ∧ u = .int .i64 b
/-- The cells of an element. -/
def RepC (S : Nat → Prop) (W : World) (k : Nat) (x : DV) (c : Nat → Value) : Prop :=
  match x with
  | .ag n f => n = k ∧ ∀ j, j < n → Rep S W (f j) (c j)
  | .top => True
  | x => k = 1 ∧ Rep S W x (c 0)
def Own (B : Base) (E : Env) (mt : Bool) (b : Nat) : Prop := if mt then ¬ E.S b ∧ B.ow b else E.S b
def updM (m : List Int → Option Int) (l : List Int) (x : Int) : List Int → Option Int := fun j => if j = l then some x else m j
def SatR (B : Base) (E : Env) (W : World) (id : Nat) : Res → Prop
  | .cs mt n f => ∃ b c T, E.ρ id = .at b ∧ W.heap[b]? = some (.cells c T (0, 0)) ∧ c.size = n ∧ Own B E mt b ∧ ∀ j, j < n → RepA E W (f j) (c.getD j undef) ∧ (c.getD j undef).oneCell' = true
  | .row mt T k n f => (E.ρ id = .nil ∧ n = 0) ∨
      ∃ b c, E.ρ id = .at b ∧ W.heap[b]? = some (.cells c T (0, 0)) ∧ n * k ≤ c.size ∧ Own B E mt b ∧ ∀ i, i < n → RepC E.S W k (f i) (fun j => c.getD (i * k + j) undef) ∧ ∀ j, j < k → (c.getD (i * k + j) undef).oneCell' = true
  | .mp mt kt m => ∃ b es clock, E.ρ id = .at b ∧ W.heap[b]? = some (.map es clock) ∧ Own B E mt b ∧ MapOk kt m es clock
  | .it mt kt m seen cur => ∃ (b r : Nat) (es : Array MapEntry) (clock : Nat) (sn : Array Nat), E.ρ id = .at b ∧ W.heap[b]? = some (.mapIter (some r) clock sn clock) ∧ Own B E mt b ∧ E.S r ∧ W.heap[r]? = some (.map es clock) ∧ MapOk kt m es clock ∧
      (∀ e ∈ es.toList, e.born ∈ sn ↔ ∃ k ∈ seen, k.length = kt.n ∧ e.key = keyV kt k) ∧
      ∀ k x, cur = some (k, x) → k.length = kt.n ∧ ∃ (e : MapEntry) (sn' : Array Nat), sn = sn'.push e.born ∧ e ∈ es.toList ∧ e.key = keyV kt k ∧ e.val = .int .i64 x
  | .me mt kt m l g => ∃ b es clock, E.ρ id = .at b ∧ W.heap[b]? = some (.map es clock) ∧ Own B E mt b ∧ MapOk kt (updM m l ((m l).getD 0)) es clock ∧ l.length = kt.n ∧ ∃ e ∈ es.toList, e.key = keyV kt l ∧ E.ρ g = .at e.born
def mark (D : Nat) : Deferred := { target := .collected D, args := #[] }
structure Sat (B : Base) (Fr : Nat → Prop) (E : Env) (st : St) (a : Act) (W : World) : Prop where
  size : a.tmps.size = st.n
  tm : ∀ i, i < st.n → RepA E W (st.tm i) (a.tmps.getD i undef)
  hp : ∀ id r, st.hp id = some r → SatR B E W id r
  dist : ∀ i j b, st.hp i ≠ none → st.hp j ≠ none → E.ρ i = .at b → E.ρ j = .at b → i = j
  fr : ∀ id, Fr id → E.ρ id = .un
  sub : ∀ b, B.S0 b → E.S b
  sup : ∀ b, E.S b → B.S0 b ∨ (B.ow b ∧ b < W.heap.size)
  s0 : ∀ b, B.S0 b → ¬ B.ow b ∧ b < W.heap.size
  df : a.defers = E.D.map mark
  dn : E.D.Nodup
  dd : ∀ D, D ∈ E.D → B.ow D ∧ ¬ E.S D ∧ W.heap[D]? = some (.deferred (some []))
  g : B.G W
  r0 : ∀ id, B.ρ0 id ≠ .un → E.ρ id = B.ρ0 id
theorem Stp.refl (own : Nat → Prop) (W : World) : Stp own W W := ⟨rfl, rfl, rfl, Nat.le_refl _, fun _ _ _ => rfl, fun _ c _ h => ⟨c, h, rfl⟩⟩
theorem Stp.trans {own : Nat → Prop} {A W C : World} (h : Stp own A W) (k : Stp own W C) : Stp own A C :=
  ⟨k.os.trans h.os, k.tape.trans h.tape, k.output.trans h.output, Nat.le_trans h.size k.size, fun i hi ho => (k.block i (Nat.lt_of_lt_of_le hi h.size) ho).trans (h.block i hi ho), fun b c T hb => by
    obtain ⟨c1, h1, h2⟩ := h.sh b c T hb
    obtain ⟨c2, h3, h4⟩ := k.sh b c1 T h1
    exact ⟨c2, h3, h4.trans h2⟩⟩
theorem Stp.of_below {own : Nat → Prop} {W W' : World} (h : Below W.heap.size W W') : Stp own W W' := ⟨h.os, h.tape, h.output, h.size, fun k hk _ => h.block k hk, fun b c _ hb => ⟨c, (h.block b (Array.getElem?_eq_some_iff.1 hb).1).trans hb, rfl⟩⟩
theorem Stp.alloc (own : Nat → Prop) (W : World) (o : Obj) : Stp own W (W.alloc o) := .of_below ((Below.refl _ W).alloc (Nat.le_refl _) o)
theorem Stp.drew (own : Nat → Prop) (W : World) : Stp own W W.drew := ⟨rfl, rfl, rfl, Nat.le_refl _, fun _ _ _ => rfl, fun _ c _ h => ⟨c, h, rfl⟩⟩
/-- How the world and what we know of it may go on: memory that is read by others stays, and blocks keep their shapes. -/
structure Ev (E : Env) (W : World) (E' : Env) (W' : World) : Prop where
  s : ∀ b, E.S b → E'.S b
  k : Keep E.S W W'
  r : ∀ id, E.ρ id ≠ .un → E'.ρ id = E.ρ id
  sh : ∀ (b : Nat) (c : Array Value) (T : TypeId), W.heap[b]? = some (Obj.cells c T (0, 0)) → ∃ c' : Array Value, W'.heap[b]? = some (Obj.cells c' T (0, 0)) ∧ c'.size = c.size
theorem Ev.refl (E : Env) (W : World) : Ev E W E W := ⟨fun _ h => h, fun _ _ => rfl, fun _ _ => rfl, fun _ c _ h => ⟨c, h, rfl⟩⟩
theorem RepA.ev {E E' : Env} {W W' : World} (h : Ev E W E' W') : ∀ {x : AV} {u : Value}, RepA E W x u → RepA E' W' x u := by
  intro x
  induction x with
  | d x => exact fun hx => Rep.mono h.s h.k hx
  | ref id off => rintro u ⟨b, hb, rfl⟩; exact ⟨b, (h.r id (by rw [hb]; simp)).trans hb, rfl⟩
  | el id k i off => rintro u ⟨b, hb, rfl⟩; exact ⟨b, (h.r id (by rw [hb]; simp)).trans hb, rfl⟩
  | ms id k off n =>
    rintro u (⟨hb, hn, rfl⟩ | ⟨b, o, cap, c, T, hb, rfl, hn, hm, hc, hs⟩)
    · exact .inl ⟨(h.r id (by rw [hb]; simp)).trans hb, hn, rfl⟩
    · obtain ⟨c', hc', hs'⟩ := h.sh b c T hc
      exact .inr ⟨b, o, cap, c', T, (h.r id (by rw [hb]; simp)).trans hb, rfl, hn, hm, hc', by rw [hs']; exact hs⟩
  | ag n f ih => rintro u ⟨cs, rfl, hs, hc⟩; exact ⟨cs, rfl, hs, fun j hj => ⟨ih j (hc j hj).1, (hc j hj).2⟩⟩
  | fn g n m f c ih1 ih2 => rintro u ⟨fs, cs, rfl, h1, h2, h3, h4⟩; exact ⟨fs, cs, rfl, h1, h2, fun j hj => ih1 j (h3 j hj), fun j hj => ih2 j (h4 j hj)⟩
  | mp id => rintro u ⟨b, hb, rfl⟩; exact ⟨b, (h.r id (by rw [hb]; simp)).trans hb, rfl⟩
  | tp n f ih => rintro u ⟨cs, rfl, hs, hc⟩; exact ⟨cs, rfl, hs, fun j hj => ih j (hc j hj)⟩
  | sub id k i => rintro u ⟨b, hb, rfl⟩; exact ⟨b, (h.r id (by rw [hb]; simp)).trans hb, rfl⟩
  | stp id => rintro u ⟨b, hb, rfl⟩; exact ⟨b, (h.r id (by rw [hb]; simp)).trans hb, rfl⟩
theorem RepC.ev {E E' : Env} {W W' : World} (h : Ev E W E' W') {k : Nat} {x : DV} {c : Nat → Value} (hc : RepC E.S W k x c) : RepC E'.S W' k x c := by
  unfold RepC at *
  split
  · rename_i n f
    exact ⟨hc.1, fun j hj => Rep.mono h.s h.k (hc.2 j hj)⟩
  · trivial
  · rename_i x h1 h2
    revert hc
    split
    · rename_i n f; exact absurd rfl (h1 n f)
    · exact absurd rfl h2
    · exact fun hc => ⟨hc.1, Rep.mono h.s h.k hc.2⟩
/-- A memory that is not touched stays as it is. -/
theorem SatR.ev {B : Base} {E E' : Env} {W W' : World} (h : Ev E W E' W') {id : Nat} {r : Res} (hr : SatR B E W id r)
    (hb : ∀ b, E.ρ id = .at b → W'.heap[b]? = W.heap[b]?) (ho : ∀ b, E.ρ id = .at b → b < W.heap.size → ¬ E.S b → ¬ E'.S b) : SatR B E' W' id r := by
  cases r with
  | cs mt n f =>
    obtain ⟨b, c, T, h1, h2, h3, h4, h5⟩ := hr
    refine ⟨b, c, T, (h.r id (by rw [h1]; simp)).trans h1, (hb b h1).trans h2, h3, ?_, fun j hj => ⟨(h5 j hj).1.ev h, (h5 j hj).2⟩⟩
    unfold Own at *
    split
    · rename_i hm; rw [if_pos hm] at h4; exact ⟨ho b h1 (Array.getElem?_eq_some_iff.1 h2).1 h4.1, h4.2⟩
    · rename_i hm; rw [if_neg hm] at h4; exact h.s b h4
  | row mt T k n f =>
    rcases hr with ⟨h1, h2⟩ | ⟨b, c, h1, h2, h3, h4, h5⟩
    · exact .inl ⟨(h.r id (by rw [h1]; simp)).trans h1, h2⟩
    · refine .inr ⟨b, c, (h.r id (by rw [h1]; simp)).trans h1, (hb b h1).trans h2, h3, ?_, fun i hi => ⟨(h5 i hi).1.ev h, (h5 i hi).2⟩⟩
      unfold Own at *
      split
      · rename_i hm; rw [if_pos hm] at h4; exact ⟨ho b h1 (Array.getElem?_eq_some_iff.1 h2).1 h4.1, h4.2⟩
      · rename_i hm; rw [if_neg hm] at h4; exact h.s b h4
  | mp mt kt m =>
    obtain ⟨b, es, clock, h1, h2, h4, h5⟩ := hr
    refine ⟨b, es, clock, (h.r id (by rw [h1]; simp)).trans h1, (hb b h1).trans h2, ?_, h5⟩
    unfold Own at *
    split
    · rename_i hm; rw [if_pos hm] at h4; exact ⟨ho b h1 (Array.getElem?_eq_some_iff.1 h2).1 h4.1, h4.2⟩
    · rename_i hm; rw [if_neg hm] at h4; exact h.s b h4
  | me mt kt m l born =>
    obtain ⟨b, es, clock, h1, h2, h4, h5, h6, e, h7, h8, h9⟩ := hr
    refine ⟨b, es, clock, (h.r id (by rw [h1]; simp)).trans h1, (hb b h1).trans h2, ?_, h5, h6, e, h7, h8, (h.r _ (by rw [h9]; simp)).trans h9⟩
    unfold Own at *
    split
    · rename_i hm; rw [if_pos hm] at h4; exact ⟨ho b h1 (Array.getElem?_eq_some_iff.1 h2).1 h4.1, h4.2⟩
    · rename_i hm; rw [if_neg hm] at h4; exact h.s b h4
  | it mt kt m seen cur =>
    obtain ⟨b, r, es, clock, sn, h1, h2, h4, h5, h6, h7⟩ := hr
    refine ⟨b, r, es, clock, sn, (h.r id (by rw [h1]; simp)).trans h1, (hb b h1).trans h2, ?_, h.s r h5, (h.k r h5).trans h6, h7⟩
    unfold Own at *
    split
    · rename_i hm; rw [if_pos hm] at h4; exact ⟨ho b h1 (Array.getElem?_eq_some_iff.1 h2).1 h4.1, h4.2⟩
    · rename_i hm; rw [if_neg hm] at h4; exact h.s b h4
theorem Ev.r0 {B : Base} {E E' : Env} {W W' : World} (h : Ev E W E' W') (h0 : ∀ id, B.ρ0 id ≠ .un → E.ρ id = B.ρ0 id) : ∀ id, B.ρ0 id ≠ .un → E'.ρ id = B.ρ0 id :=
  fun id hid => (h.r id (by rw [h0 id hid]; exact hid)).trans (h0 id hid)
/-- A slot written. -/
noncomputable def St.put (st : St) (dst : Option Nat) (x : AV) : St :=
  match dst with
  | some d => St.rec (motive := fun _ => St) (fun n nx tm hp gh => ⟨n, nx, fun j => bif Nat.beq j d then x else tm j, hp, gh⟩) st
  | none => st
theorem Sat.put {B : Base} {Fr : Nat → Prop} {E : Env} {st : St} {a : Act} {W : World} (h : Sat B Fr E st a W) (dst : Option Nat) {x : AV} {u : Value} (hx : RepA E W x u) :
    Sat B Fr E (st.put dst x) (a.put dst u) W := by
  cases dst with
  | none => exact h
  | some d =>
    refine ⟨?_, ?_, h.hp, h.dist, h.fr, h.sub, h.sup, h.s0, h.df, h.dn, h.dd, h.g, h.r0⟩
    · show (a.tmps.setIfInBounds d u).size = st.n
      rw [Array.size_setIfInBounds]; exact h.size
    · intro i hi
      have hi' : i < a.tmps.size := by rw [h.size]; exact hi
      show RepA E W (bif Nat.beq i d then x else st.tm i) ((a.tmps.setIfInBounds d u).getD i undef)
      by_cases e : i = d
      · subst e
        have : (a.tmps.setIfInBounds i u).getD i undef = u := by simp [Array.getD, hi']
        rw [this, show Nat.beq i i = true from Nat.beq_refl i]; exact hx
      · have e2 : (a.tmps.setIfInBounds d u).getD i undef = a.tmps.getD i undef := by
          simp only [Array.getD_eq_getD_getElem?]
          rw [Array.getElem?_setIfInBounds_ne (fun h => e h.symm)]
        have e3 : Nat.beq i d = false := by cases hb : Nat.beq i d with
          | false => rfl
          | true => exact absurd (Nat.eq_of_beq_eq_true hb) e
        rw [e2, e3]; exact h.tm i hi
/-- The world goes on, the memories as they are. -/
theorem Sat.go {B : Base} {Fr : Nat → Prop} {E E' : Env} {st : St} {a : Act} {W W' : World} (h : Sat B Fr E st a W) (he : Ev E W E' W')
    (hb : ∀ id b, st.hp id ≠ none → E.ρ id = .at b → W'.heap[b]? = W.heap[b]?) (ho : ∀ id b, st.hp id ≠ none → E.ρ id = .at b → b < W.heap.size → ¬ E.S b → ¬ E'.S b)
    (hr : ∀ id, E'.ρ id = E.ρ id) (hsup : ∀ b, E'.S b → B.S0 b ∨ (B.ow b ∧ b < W'.heap.size)) (hD : E'.D = E.D)
    (hdd : ∀ D, D ∈ E.D → W'.heap[D]? = W.heap[D]? ∧ ¬ E'.S D) (hst : Stp B.ow W W') : Sat B Fr E' st a W' :=
  ⟨h.size, fun i hi => (h.tm i hi).ev he, fun id r hid => (h.hp id r hid).ev he (fun b => hb id b (by rw [hid]; simp)) (fun b => ho id b (by rw [hid]; simp)),
   fun i j b hi hj h1 h2 => h.dist i j b hi hj (by rw [← hr]; exact h1) (by rw [← hr]; exact h2), fun id hid => by rw [hr]; exact h.fr id hid, fun b hb' => he.s b (h.sub b hb'), hsup, fun b hb' => ⟨(h.s0 b hb').1, Nat.lt_of_lt_of_le (h.s0 b hb').2 hst.size⟩,
   by rw [hD]; exact h.df, by rw [hD]; exact h.dn, fun D hD' => by
     rw [hD] at hD'
     obtain ⟨h1, h2, h3⟩ := h.dd D hD'
     exact ⟨h1, (hdd D hD').2, (hdd D hD').1.trans h3⟩, B.hG W W' h.g hst, fun id hid => (hr id).trans (h.r0 id hid)⟩
theorem Ev.below {E : Env} {W W' : World} (hS : ∀ b, E.S b → b < W.heap.size) (hb : Below W.heap.size W W') : Ev E W E W' :=
  ⟨fun _ h => h, fun b h => hb.block b (hS b h), fun _ _ => rfl, fun b c _ h => ⟨c, (hb.block b (Array.getElem?_eq_some_iff.1 h).1).trans h, rfl⟩⟩
theorem Sat.S_lt {B : Base} {Fr : Nat → Prop} {E : Env} {st : St} {a : Act} {W : World} (h : Sat B Fr E st a W) : ∀ b, E.S b → b < W.heap.size := by
  intro b hb
  rcases h.sup b hb with h1 | h1
  · exact (h.s0 b h1).2
  · exact h1.2
theorem Sat.at_lt {B : Base} {Fr : Nat → Prop} {E : Env} {st : St} {a : Act} {W : World} (h : Sat B Fr E st a W) {id b : Nat} (hi : st.hp id ≠ none) (hb : E.ρ id = .at b) : b < W.heap.size := by
  cases hr : st.hp id with
  | none => exact absurd hr hi
  | some r =>
    have := h.hp id r hr
    cases r with
    | cs mt n f => obtain ⟨b', c, T, h1, h2, _⟩ := this; rw [hb] at h1; cases h1; exact (Array.getElem?_eq_some_iff.1 h2).1
    | row mt T k n f =>
      rcases this with ⟨h1, _⟩ | ⟨b', c, h1, h2, _⟩
      · rw [hb] at h1; cases h1
      · rw [hb] at h1; cases h1; exact (Array.getElem?_eq_some_iff.1 h2).1
    | mp mt kt m => obtain ⟨b', es, c, h1, h2, _⟩ := this; rw [hb] at h1; cases h1; exact (Array.getElem?_eq_some_iff.1 h2).1
    | it mt kt m seen cur => obtain ⟨b', r, es, c, sn, h1, h2, _⟩ := this; rw [hb] at h1; cases h1; exact (Array.getElem?_eq_some_iff.1 h2).1
    | me mt kt m l born => obtain ⟨b', es, c, h1, h2, _⟩ := this; rw [hb] at h1; cases h1; exact (Array.getElem?_eq_some_iff.1 h2).1
/-- New memory, nothing else. -/
theorem Sat.below {B : Base} {Fr : Nat → Prop} {E : Env} {st : St} {a : Act} {W W' : World} (h : Sat B Fr E st a W) (hb : Below W.heap.size W W') : Sat B Fr E st a W' :=
  h.go (Ev.below h.S_lt hb) (fun _ b hi hr => hb.block b (h.at_lt hi hr)) (fun _ _ _ _ _ hn => hn) (fun _ => rfl)
    (fun b hS => (h.sup b hS).imp id fun x => ⟨x.1, Nat.lt_of_lt_of_le x.2 hb.size⟩) rfl
    (fun D hD => ⟨hb.block D (Array.getElem?_eq_some_iff.1 (h.dd D hD).2.2).1, (h.dd D hD).2.1⟩) (.of_below hb)
theorem Sat.drew {B : Base} {Fr : Nat → Prop} {E : Env} {st : St} {a : Act} {W : World} (h : Sat B Fr E st a W) : Sat B Fr E st a W.drew := h.below (Below.refl _ W).drew
end Go.Px

/-! PxC -/
namespace Go.Px
open Go Go.RowKit
theorem keyV_inj {kt : KT} (hw : kt.ag = false → kt.n = 1) {k k' : List Int} (h1 : k.length = kt.n) (h2 : k'.length = kt.n) (h : keyV kt k = keyV kt k') : k = k' := by
  unfold keyV at h
  cases hg : kt.ag with
  | true =>
    rw [hg] at h
    simp only [aggI, Value.agg.injEq] at h
    have := congrArg Array.toList h
    simp only [List.map_inj_right (f := Value.int .i64) (fun a b e => by cases e; rfl)] at this
    exact this
  | false =>
    rw [hg] at h
    have hn := hw hg
    rw [hn] at h1 h2
    obtain ⟨x, rfl⟩ := List.length_eq_one_iff.1 h1
    obtain ⟨y, rfl⟩ := List.length_eq_one_iff.1 h2
    simp at h
    rw [h]
/-- Values of n whole numbers can be compared. -/
structure EqT (P : Program) (t n : Nat) : Prop where
  gd : P.eqGuardType P.depth t = false
  eq : ∀ (l l' : List Int) w, l.length = n → l'.length = n → (Op.equalIn 10000 t (aggI l) (aggI l')).run P w = .ok (decide (l = l')) w
/-- What is asked of a key's type. -/
structure KeyOk (P : Program) (kT : Nat) (kt : KT) : Prop where
  wf : kt.ag = false → kt.n = 1
  chk : ∀ (em : Bool) (k : List Int) w, k.length = kt.n → (Instr.checkKey em 10000 kT (keyV kt k)).run P w = .ok () w
  fnd : ∀ (k : List Int) (es : List MapEntry) w, k.length = kt.n → (∀ e ∈ es, ∃ k' : List Int, k'.length = kt.n ∧ e.key = keyV kt k') →
    ((Instr.findKey kT (keyV kt k) es).run P w = .ok none w ∧ ∀ e ∈ es, e.key ≠ keyV kt k) ∨
    ∃ (j : Nat) (e : MapEntry), (Instr.findKey kT (keyV kt k) es).run P w = .ok (some (j, e.val)) w ∧ es[j]? = some e ∧ e.key = keyV kt k
/-- A map's type. -/
def MapT (P : Program) (t : Nat) (kt : KT) : Prop :=
  ∃ kT eT, P.underlying t = some (.map kT eT) ∧ KeyOk P kT kt ∧ ∀ w, (zeroValue eT).run P w = .ok (.int .i64 0) w
structure TI where
  d : TypeDesc
  z : Value
  size : Nat
  bytes : Nat
  qe : Option Nat
  mp : Option KT
def TI.agg (ti : TI) : Bool := match ti.d with | .struct _ | .array _ _ => true | _ => false
structure TOk (P : Program) (ti : TI) (t : Nat) : Prop where
  u : P.underlying t = some ti.d
  i : (P.info? t).map (fun i => (i.zero, i.size, i.bytes)) = some (some ti.z, ti.size, ti.bytes)
  zs : ti.z.cells.size = ti.size
  z1 : ∀ u ∈ ti.z.cells, u.oneCell' = true
  z0 : ti.agg = false → ti.size = 1 ∧ ti.z.oneCell' = true
  qe : ∀ n, ti.qe = some n → EqT P t n
  mp : ∀ kt, ti.mp = some kt → MapT P t kt
def TsOk (P : Program) (T : Nat → Option TI) : Prop := ∀ t ti, T t = some ti → TOk P ti t
section runs
variable {P : Program} {ti : TI} {t : Nat}
theorem TOk.info (h : TOk P ti t) : ∃ i, P.info? t = some i ∧ i.zero = some ti.z ∧ i.size = ti.size ∧ i.bytes = ti.bytes := by
  have := h.i
  cases hi : P.info? t with
  | none => rw [hi] at this; cases this
  | some i =>
    rw [hi] at this
    simp only [Option.map_some, Option.some.injEq, Prod.mk.injEq] at this
    exact ⟨i, rfl, this.1, this.2.1, this.2.2⟩
theorem TOk.und (h : TOk P ti t) (w : World) : (underlying t).run P w = .ok ti.d w := run_underlying h.u w
theorem TOk.sizeOf (h : TOk P ti t) (w : World) : (sizeOf t).run P w = .ok ti.size w := by
  obtain ⟨i, hi, _, hs, _⟩ := h.info
  simp [Go.sizeOf, typeInfo, hi, hs]
theorem TOk.typeInfo (h : TOk P ti t) (w : World) : ∃ i, (typeInfo t).run P w = .ok i w ∧ i.bytes = ti.bytes ∧ i.size = ti.size := by
  obtain ⟨i, hi, _, hs, hb⟩ := h.info
  exact ⟨i, by simp [Go.typeInfo, hi], hb, hs⟩
theorem TOk.zeroValue (h : TOk P ti t) (w : World) : (zeroValue t).run P w = .ok ti.z w := by
  obtain ⟨i, hi, hz, _, _⟩ := h.info
  simp [Go.zeroValue, Go.typeInfo, hi, hz]
theorem TOk.isAgg (h : TOk P ti t) (w : World) : (isAgg t).run P w = .ok ti.agg w := by
  simp only [Go.isAgg, Sem.run_bind, h.und, Result.andThen_ok, TI.agg]
  split <;> rename_i h1 <;> simp_all
end runs
/-- What an operand is. -/
def cv (v : Value) : AV :=
  match v with
  | .agg cs => bif cs.toList.all Value.oneCell' then .d (.ag cs.size fun j => .v (cs.getD j undef)) else .d .top
  | x => .d (.v x)
def St.ev (st : St) : Operand → AV
  | .tmp t => bif Nat.blt t st.n then st.tm t else .d .top
  | .const v => cv v
  | .global _ => .d .top
  | .func f => .d (.fn f 0 0 (fun _ => .top) (fun _ => .top))
theorem blt_iff {a b : Nat} : Nat.blt a b = true ↔ a < b := by
  constructor
  · intro h; exact Nat.le_of_ble_eq_true h
  · intro h; exact Nat.ble_eq_true_of_le h
theorem RepA.cv {E : Env} {W : World} (v : Value) : RepA E W (cv v) v := by
  unfold Px.cv
  split
  · rename_i cs
    cases hc : cs.toList.all Value.oneCell' with
    | false => exact trivial
    | true =>
      refine ⟨cs, rfl, rfl, fun j hj => ⟨rfl, ?_⟩⟩
      have := List.all_eq_true.1 hc cs[j] (by simp)
      rw [Array.getD_eq_getD_getElem?, Array.getElem?_eq_getElem hj]
      simpa using this
  · rename_i x h
    show Rep E.S W (.v v) v
    rfl
theorem Sat.ev {B : Base} {Fr : Nat → Prop} {E : Env} {st : St} {a : Act} {W : World} (h : Sat B Fr E st a W) (x : Operand) : RepA E W (st.ev x) (a.eval x) := by
  cases x with
  | tmp t =>
    show RepA E W (bif Nat.blt t st.n then st.tm t else .d .top) (a.tmps.getD t undef)
    cases hb : Nat.blt t st.n with
    | false => exact trivial
    | true => exact h.tm t (blt_iff.1 hb)
  | const v => exact RepA.cv v
  | global g => exact trivial
  | func f => exact ⟨#[], #[], rfl, rfl, rfl, fun j hj => absurd hj (Nat.not_lt_zero j), fun j hj => absurd hj (Nat.not_lt_zero j)⟩
/-- Surely one cell. -/
def vOne : Value → Bool
  | .agg _ | .tuple _ => false
  | _ => true
def avOne : AV → Bool
  | .d (.v x) => vOne x
  | .d (.sl ..) | .d (.pt ..) | .d (.fn ..) | .d (.mp ..) => true
  | .d _ => false
  | .ag .. => false
  | .tp .. => false
  | _ => true
theorem RepA.one {E : Env} {W : World} {x : AV} {u : Value} (h : RepA E W x u) (h1 : avOne x = true) : u.oneCell' = true := by
  cases x with
  | d x =>
    cases x with
    | v x => cases (show u = x from h); cases u <;> first | rfl | exact h1
    | top => cases h1
    | ag n f => cases h1
    | tp n f => cases h1
    | sl t k n f => obtain ⟨a, cap, rfl, _⟩ := h; rfl
    | pt x o => obtain ⟨b, o, rfl, _⟩ := h; rfl
    | fn g n m f c => obtain ⟨a, b, rfl, _⟩ := h; rfl
    | mp kt m => obtain ⟨r, es, c, rfl, _⟩ := h; rfl
  | ref id off => obtain ⟨b, _, rfl⟩ := h; rfl
  | el id k i off => obtain ⟨b, _, rfl⟩ := h; rfl
  | ms id k off n =>
    rcases h with ⟨_, _, rfl⟩ | ⟨b, o, cap, c, T, _, rfl, _⟩ <;> rfl
  | ag n f => cases h1
  | fn g n m f c => obtain ⟨a, b, rfl, _⟩ := h; rfl
  | mp id => obtain ⟨b, _, rfl⟩ := h; rfl
  | tp n f => cases h1
  | sub id k i => obtain ⟨b, _, rfl⟩ := h; rfl
  | stp id => obtain ⟨b, _, rfl⟩ := h; rfl
/-- A number of its kind. -/
def inR : IntKind → Int → Prop
  | .i8, x => -128 ≤ x ∧ x ≤ 127
  | .i16, x => -32768 ≤ x ∧ x ≤ 32767
  | .i32, x => -2147483648 ≤ x ∧ x ≤ 2147483647
  | .i64, x => -9223372036854775808 ≤ x ∧ x ≤ 9223372036854775807
  | .u8, x => 0 ≤ x ∧ x ≤ 255
  | .u16, x => 0 ≤ x ∧ x ≤ 65535
  | .u32, x => 0 ≤ x ∧ x ≤ 4294967295
  | .u64, x => 0 ≤ x ∧ x ≤ 18446744073709551615
theorem wrap_in {k : IntKind} {x : Int} (h : inR k x) : k.wrap x = x := by
  cases k <;> simp only [inR] at h <;> simp only [IntKind.wrap, IntKind.bits, IntKind.signed] <;> simp <;> omega
def band (k : IntKind) (x y : Int) : Int := k.wrap ((BitVec.ofInt k.bits x &&& BitVec.ofInt k.bits y).toNat : Int)
def bor (k : IntKind) (x y : Int) : Int := k.wrap ((BitVec.ofInt k.bits x ||| BitVec.ofInt k.bits y).toNat : Int)
def bandn (k : IntKind) (x y : Int) : Int := k.wrap ((BitVec.ofInt k.bits x &&& ~~~ BitVec.ofInt k.bits y).toNat : Int)
def intBin (op : BinOp) (k : IntKind) (x y : Int) : Option (Prop × Value) :=
  match op with
  | .add => some (inR k (x + y), .int k (x + y))
  | .sub => some (inR k (x - y), .int k (x - y))
  | .mul => some (inR k (x * y), .int k (x * y))
  | .quo => some (0 ≤ x ∧ 0 < y ∧ inR k x, .int k (x / y))
  | .rem => some (0 ≤ x ∧ 0 < y, .int k (x % y))
  | .and => some (True, .int k (band k x y))
  | .or => some (True, .int k (bor k x y))
  | .andNot => some (True, .int k (bandn k x y))
  | .eql => some (True, .bool (decide (x = y)))
  | .neq => some (True, .bool (decide (x ≠ y)))
  | .lss => some (True, .bool (decide (x < y)))
  | .leq => some (True, .bool (decide (x ≤ y)))
  | .gtr => some (True, .bool (decide (y < x)))
  | .geq => some (True, .bool (decide (y ≤ x)))
  | _ => none
def shiftBin (op : BinOp) (k : IntKind) (x y : Int) : Option (Prop × Value) :=
  match op with
  | .shl => some (0 ≤ y ∧ y < k.bits ∧ inR k (x * 2 ^ y.toNat), .int k (x * 2 ^ y.toNat))
  | .shr => some (0 ≤ y ∧ y < k.bits, .int k (x / 2 ^ y.toNat))
  | _ => none
def IntKind.eq : IntKind → IntKind → Bool
  | .i8, .i8 | .i16, .i16 | .i32, .i32 | .i64, .i64 | .u8, .u8 | .u16, .u16 | .u32, .u32 | .u64, .u64 => true
  | _, _ => false
theorem IntKind.eq_of {j k : IntKind} (h : IntKind.eq j k = true) : j = k := by cases j <;> cases k <;> first | rfl | cases h
def isShift : BinOp → Bool
  | .shl | .shr => true
  | _ => false
/-- Are aggregates of n whole numbers equal? -/
def isI (x : AV) : Prop := ∃ z, x = .d (.v (.int .i64 z))
def intA (x : AV) : Int := match x with
  | .d (.v (.int _ z)) => z
  | _ => 0
def eqAg (op : BinOp) (n : Nat) (f g : Nat → AV) : Option (Prop × Value) :=
  match op with
  | .eql => some (∀ j, j < n → isI (f j) ∧ isI (g j), .bool (decide (∀ j, j < n → intA (f j) = intA (g j))))
  | .neq => some (∀ j, j < n → isI (f j) ∧ isI (g j), .bool (!decide (∀ j, j < n → intA (f j) = intA (g j))))
  | _ => none
/-- The cells of an aggregate. -/
def aggV : AV → Option (Nat × (Nat → AV))
  | .ag n f => some (n, f)
  | .d (.ag n f) => some (n, fun j => .d (f j))
  | _ => none
def binV (T : Nat → Option TI) (op : BinOp) (t : Nat) (x y : AV) : Option (Prop × Value) :=
  match x, y with
  | .d (.v (.int j x)), .d (.v (.int k y)) => bif isShift op then shiftBin op j x y else (bif IntKind.eq j k then intBin op j x y else none)
  | .d (.v (.bool x)), .d (.v (.bool y)) =>
    match T t with
    | some { d := .bool, .. } => match op with
      | .eql => some (True, .bool (x == y))
      | .neq => some (True, .bool (x != y))
      | _ => none
    | _ => none
  | .d (.mp _ _), .d (.v (.map none)) => match T t with
    | some { d := .map _ _, .. } => match op with
      | .eql => some (True, .bool false)
      | .neq => some (True, .bool true)
      | _ => none
    | _ => none
  | x, y => match aggV x, aggV y, T t with
    | some (n, f), some (m, g), some { qe := some q, .. } => bif Nat.beq n q && Nat.beq m q then eqAg op n f g else none
    | _, _, _ => none
theorem intBin_run {P : Program} {W : World} {op : BinOp} {k : IntKind} {x y : Int} {c : Prop} {v : Value} (hs : isShift op = false) (h : intBin op k x y = some (c, v)) (hc : c) (t : Nat) :
    (binOp op t (.int k x) (.int k y)).run P W = .ok v W := by
  unfold intBin at h
  split at h <;> first | (simp only [Option.some.injEq, Prod.mk.injEq] at h; obtain ⟨rfl, rfl⟩ := h) | cases h
  all_goals simp only [binOp, Op.intArith, Op.intDiv, Op.intBits, Op.intCmp, band, bor, bandn, ne_eq, not_true, if_false, Sem.run_pure]
  · rw [wrap_in hc]
  · rw [wrap_in hc]
  · rw [wrap_in hc]
  · have hy : ¬ y = 0 := by omega
    simp only [hy, if_false, Sem.run_pure]
    have : x.tdiv y = x / y := Int.tdiv_eq_ediv_of_nonneg hc.1
    rw [this, wrap_in]
    have h1 : x / y ≤ x := Int.ediv_le_self _ hc.1
    have h2 : 0 ≤ x / y := Int.ediv_nonneg hc.1 (by omega)
    have h3 := hc.2.2
    cases k <;> simp only [inR] at h3 ⊢ <;> omega
  · have hy : ¬ y = 0 := by omega
    simp only [hy, if_false, Sem.run_pure]
    rw [Int.tmod_eq_emod_of_nonneg hc.1]
  all_goals first
    | rfl
    | (congr 2; rw [Bool.eq_iff_iff]; simp; done)
theorem fdiv_pow (x : Int) (n : Nat) : x.fdiv (2 ^ n) = x / 2 ^ n := Int.fdiv_eq_ediv_of_nonneg _ (Int.le_of_lt (Int.pow_pos (by decide)))
theorem shiftBin_run {P : Program} {W : World} {op : BinOp} {j k : IntKind} {x y : Int} {c : Prop} {v : Value} (h : shiftBin op j x y = some (c, v)) (hc : c) (t : Nat) :
    (binOp op t (.int j x) (.int k y)).run P W = .ok v W := by
  unfold shiftBin at h
  split at h <;> first | (simp only [Option.some.injEq, Prod.mk.injEq] at h; obtain ⟨rfl, rfl⟩ := h) | cases h
  · have hy : ¬ y < 0 := by omega
    have hm : min y.toNat j.bits = y.toNat := by omega
    simp only [binOp, Op.shift, hy, if_false, hm, Sem.run_pure]
    rw [wrap_in hc.2.2]
  · have hy : ¬ y < 0 := by omega
    have hm : min y.toNat j.bits = y.toNat := by omega
    simp only [binOp, Op.shift, hy, if_false, hm, Sem.run_pure, fdiv_pow]
theorem aggV_of {E : Env} {W : World} {x : AV} {u : Value} {n : Nat} {f : Nat → AV} (h : RepA E W x u) (hx : aggV x = some (n, f)) : ∃ cs : Array Value, u = .agg cs ∧ cs.size = n ∧ ∀ j, j < n → RepA E W (f j) (cs.getD j undef) := by
  unfold aggV at hx
  split at hx
  · cases hx; obtain ⟨cs, rfl, h1, h2⟩ := h; exact ⟨cs, rfl, h1, fun j hj => (h2 j hj).1⟩
  · cases hx; obtain ⟨cs, rfl, h1, h2⟩ := h; exact ⟨cs, rfl, h1, fun j hj => (h2 j hj).1⟩
  · cases hx
theorem aggI_of {E : Env} {W : World} {cs : Array Value} {n : Nat} {f : Nat → AV} (hs : cs.size = n) (hc : ∀ j, j < n → RepA E W (f j) (cs.getD j undef)) (hi : ∀ j, j < n → isI (f j)) :
    Value.agg cs = aggI ((List.range n).map fun j => intA (f j)) := by
  unfold aggI
  congr 1
  apply Array.ext
  · simp [hs]
  · intro j h1 h2
    have hj : j < n := hs ▸ h1
    obtain ⟨z, hz⟩ := hi j hj
    have := hc j hj
    rw [hz] at this
    have : cs.getD j undef = .int .i64 z := this
    rw [Array.getD_eq_getD_getElem?, Array.getElem?_eq_getElem h1] at this
    simp only [Option.getD_some] at this
    simp [this, hz, intA]
theorem eqAg_run {P : Program} {E : Env} {W : World} {op : BinOp} {t n : Nat} (hq : EqT P t n) {f g : Nat → AV} {cs ds : Array Value} (h1 : cs.size = n) (h2 : ds.size = n) (hf : ∀ j, j < n → RepA E W (f j) (cs.getD j undef)) (hg : ∀ j, j < n → RepA E W (g j) (ds.getD j undef))
    {c : Prop} {v : Value} (h : eqAg op n f g = some (c, v)) (hc : c) (x y : Operand) :
    (eqGuard op t x y (.agg cs) (.agg ds)).run P W = .ok () W ∧ (binOp op t (.agg cs) (.agg ds)).run P W = .ok v W := by
  have hiff : ((List.range n).map fun j => intA (f j)) = ((List.range n).map fun j => intA (g j)) ↔ ∀ j, j < n → intA (f j) = intA (g j) := by
    constructor
    · intro h j hj
      have := congrArg (·[j]?) h
      simpa [hj] using this
    · intro h
      exact List.map_congr_left fun j hj => h j (List.mem_range.1 hj)
  have hgd : ∀ op, (eqGuard op t x y (.agg cs) (.agg ds)).run P W = .ok () W := fun op => run_eqGuard_agg W op t x y cs ds hq.gd
  refine ⟨hgd op, ?_⟩
  unfold eqAg at h
  split at h
  · cases h
    rw [run_eql_struct, aggI_of h1 hf fun j hj => (hc j hj).1, aggI_of h2 hg fun j hj => (hc j hj).2, hq.eq _ _ W (by simp) (by simp)]
    simp only [Result.andThen, hiff]
  · cases h
    rw [run_neq_struct, aggI_of h1 hf fun j hj => (hc j hj).1, aggI_of h2 hg fun j hj => (hc j hj).2, hq.eq _ _ W (by simp) (by simp)]
    simp only [Result.andThen, hiff]
  · cases h
end Go.Px

/-! PxD -/
namespace Go.Px
open Go Go.RowKit
def asI : AV → Option (IntKind × Int)
  | .d (.v (.int k x)) => some (k, x)
  | _ => none
/-- A cell, or a part, of an aggregate. -/
def cellD (x : DV) (j : Nat) : DV := match x with | .ag _ f => f j | y => y
def cellA (x : AV) (j : Nat) : AV := match x with | .ag _ f => f j | .d y => .d (cellD y j) | y => y
/-- How many cells, where it is sure. -/
def lenA : AV → Option Nat
  | .ag n _ => some n
  | .d (.ag n _) => some n
  | x => bif avOne x then some 1 else none
def aggA : AV → Bool
  | .ag .. => true
  | .d (.ag ..) => true
  | _ => false
/-- The part of the cells from o on. -/
def partV (ti : TI) (x : AV) (o : Nat) : Option (Prop × AV) :=
  bif aggA x then
    match lenA x with
    | some n => bif ti.agg then some (o + ti.size ≤ n, .ag ti.size fun j => cellA x (j + o)) else some (o < n, cellA x o)
    | none => none
  else none
def fillA (z : Nat → AV) : List (Nat × Nat × AV) → (Nat → AV)
  | [] => z
  | (o, s, x) :: r => fillA (fun j => bif (Nat.ble o j && Nat.blt j (o + s)) then cellA x (j - o) else z j) r
/-- The places of a struct's fields. -/
def fldOf (T : Nat → Option TI) (ti : TI) (i : Nat) : Option (Nat × TI) :=
  match ti.d with
  | .struct fs => match fs[i]? with
    | some f => match T f.type with
      | some tf => some (f.offset, tf)
      | none => none
    | none => none
  | _ => none
def partsV (T : Nat → Option TI) (ti : TI) (ev : Operand → AV) : List (Nat × Operand) → Option (List (Nat × Nat × AV))
  | [] => some []
  | (i, x) :: r => match fldOf T ti i with
    | some (o, tf) => match lenA (ev x) with
      | some n => bif Nat.beq n tf.size && Nat.ble (o + n) ti.size then (partsV T ti ev r).map ((o, n, ev x) :: ·) else none
      | none => none
    | none => none
def optI (ev : Operand → AV) : Option Operand → Option (Option Int)
  | none => some none
  | some x => match asI (ev x) with
    | some (_, i) => some (some i)
    | none => none
/-- A part of a slice that others read: from l to h; with a third index, which must be the second. -/
def slV (tt : Bool) (k n : Nat) (f : Nat → DV) (lo hi mx : Option Int) : Option (Prop × AV) :=
  match lo, hi, mx with
  | none, none, none => some (True, .d (.sl tt k n f))
  | none, some h, none => some (0 ≤ h ∧ h ≤ n, .d (.sl false k h.toNat f))
  | some l, none, none => some (0 ≤ l ∧ l ≤ n, .d (.sl tt k (n - l.toNat) fun i => f (l.toNat + i)))
  | some l, some h, none => some (0 ≤ l ∧ l ≤ h ∧ h ≤ n, .d (.sl false k (h.toNat - l.toNat) fun i => f (l.toNat + i)))
  | none, some h, some m => some (0 ≤ h ∧ h ≤ n ∧ m = h, .d (.sl true k h.toNat f))
  | _, _, _ => none
def msV (id k off n : Nat) (lo hi mx : Option Int) : Option (Prop × AV) :=
  match lo, hi, mx with
  | none, none, none => some (True, .ms id k off n)
  | none, some h, none => some (0 ≤ h ∧ h ≤ n, .ms id k off h.toNat)
  | some l, none, none => some (0 ≤ l ∧ l ≤ n, .ms id k (off + l.toNat) (n - l.toNat))
  | some l, some h, none => some (0 ≤ l ∧ l ≤ h ∧ h ≤ n, .ms id k (off + l.toNat) (h.toNat - l.toNat))
  | _, _, _ => none
def maxL (k : IntKind) : Int → List AV → Option Int
  | x, [] => some x
  | x, y :: r => match asI y with
    | some (j, y) => bif IntKind.eq j k then maxL k (max x y) r else none
    | none => none
def minL (k : IntKind) : Int → List AV → Option Int
  | x, [] => some x
  | x, y :: r => match asI y with
    | some (j, y) => bif IntKind.eq j k then minL k (min x y) r else none
    | none => none
def builtinV (T : Nat → Option TI) (b : Builtin) (args : List Operand) (ts : List Nat) (ev : Operand → AV) : Option (Prop × AV) :=
  match b with
  | .len => match args, ts with
    | [x], [t] => match T t with
      | some ti => match ti.d with
        | .slice _ => match ev x with
          | .d (.sl _ _ n _) => some (True, .d (.v (.int .i64 n)))
          | .ms _ _ _ n => some (True, .d (.v (.int .i64 n)))
          | .d (.v (.slice _ n _)) => some (True, .d (.v (.int .i64 n)))
          | _ => none
        | .array n _ => some (True, .d (.v (.int .i64 n)))
        | _ => none
      | none => none
    | _, _ => none
  | .max => match args with
    | x :: r => match asI (ev x) with
      | some (k, x) => (maxL k x (r.map ev)).map fun m => (True, .d (.v (.int k m)))
      | none => none
    | [] => none
  | .min => match args with
    | x :: r => match asI (ev x) with
      | some (k, x) => (minL k x (r.map ev)).map fun m => (True, .d (.v (.int k m)))
      | none => none
    | [] => none
  | _ => none
def isZ64 : Value → Bool
  | .int .i64 0 => true
  | _ => false
def pureV (T : Nat → Option TI) (op : Op) (ev : Operand → AV) : Option (Prop × AV) :=
  match op with
  | .move x => some (True, ev x)
  | .assign x => some (True, ev x)
  | .pick c a b => match ev c with
    | .d (.v (.bool c)) => match c with
      | true => some (True, ev a)
      | false => some (True, ev b)
    | _ => none
  | .nilCheck x => match ev x with
    | .ref id off => some (True, .ref id off)
    | .el id k i off => some (True, .el id k i off)
    | .d (.pt y o) => some (True, .d (.pt y o))
    | .fn g n m f c => some (True, .fn g n m f c)
    | .d (.fn g n m f c) => some (True, .d (.fn g n m f c))
    | _ => none
  | .binOp op t x y _ => match binV T op t (ev x) (ev y) with
    | some (c, v) => some (c, .d (.v v))
    | none => none
  | .unOp op _ x => match op, ev x with
    | .not, .d (.v (.bool b)) => some (True, .d (.v (.bool !b)))
    | .neg, .d (.v (.int k x)) => some (inR k (0 - x), .d (.v (.int k (0 - x))))
    | _, _ => none
  | .convert s t x => match T s, T t, ev x with
    | some _, some { d := .int k, .. }, .d (.v (.int _ x)) => some (inR k x, .d (.v (.int k x)))
    | _, _, _ => none
  | .makeFunc (.func g) first captured => some (True, .fn g first.size captured.size (fun j => ev (first.getD j (.const undef))) fun j => ev (captured.getD j (.const undef)))
  | .fieldAddr s x i => match T s with
    | some ti => match fldOf T ti i with
      | some (o, tf) => bif Nat.beq tf.size 0 then none else match ev x with
        | .ref id off => some (True, .ref id (off + o))
        | .el id k i off => some (True, .el id k i (off + o))
        | .d (.pt y p) => some (True, .d (.pt y (p + o)))
        | _ => none
      | none => none
    | none => none
  | .field s x i => match T s with
    | some ti => match fldOf T ti i with
      | some (o, tf) => partV tf (ev x) o
      | none => none
    | none => none
  | .indexAddr t x i => match T t, asI (ev i) with
    | some ti, some (_, i) => match ti.d with
      | .slice e => match T e with
        | some te => match ev x with
          | .d (.sl _ k n f) => bif Nat.beq k te.size then some (0 ≤ i ∧ i < n, .d (.pt (f i.toNat) 0)) else none
          | .ms id k off n => bif Nat.beq k te.size then some (0 ≤ i ∧ i < n, .el id k (off + i.toNat) 0) else none
          | _ => none
        | none => none
      | .array len e => match T e with
        | some te => match ev x with
          | .d (.pt y o) => some (0 ≤ i ∧ i < len, .d (.pt y (o + i.toNat * te.size)))
          | .el id k i0 0 => bif Nat.beq k te.size then some (0 ≤ i ∧ i < len, .el id k (i0 + i.toNat) 0) else some (0 ≤ i ∧ i < len, .el id k i0 (i.toNat * te.size))
          | _ => none
        | none => none
      | _ => none
    | _, _ => none
  | .index t x i => match T t, asI (ev i) with
    | some ti, some (_, i) => match ti.d with
      | .array len e => match T e with
        | some te => bif te.agg then none else bif Nat.beq te.size 1 then
            match partV te (ev x) i.toNat with
            | some (c, y) => some (0 ≤ i ∧ i < len ∧ c, y)
            | none => none
          else none
        | none => none
      | _ => none
    | _, _ => none
  | .extract x i => match ev x with
    | .d (.tp n f) => some (i < n, .d (f i))
    | .tp n f => some (i < n, f i)
    | _ => none
  | .slice t x lo hi mx => match T t, optI ev lo, optI ev hi, optI ev mx with
    | some ti, some lo, some hi, some mx => match ti.d with
      | .slice e => match T e with
        | some te => match ev x with
          | .d (.sl tt k n f) => bif Nat.beq k te.size then slV tt k n f lo hi mx else none
          | .ms id k off n => bif Nat.beq k te.size then msV id k off n lo hi mx else none
          | _ => none
        | none => none
      | _ => none
    | _, _, _, _ => none
  | .build t parts => match T t with
    | some ti => match partsV T ti ev parts.toList with
      | some l => match ti.d with
        | .struct fs => bif fs.toList.all fun f => (T f.type).isSome then some (True, .ag ti.size (fillA (fun j => .d (.v (ti.z.cells.getD j undef))) l)) else none
        | .array _ e => match T e, parts.toList with
          | some _, [] => bif ti.z.cells.toList.all isZ64 then some (True, .d (.ag ti.size fun _ => .v (.int .i64 0))) else none
          | _, _ => none
        | _ => none
      | none => none
    | none => none
  | .call c => match c.callee with
    | .builtin b => builtinV T b c.args.toList c.argTypes.toList ev
    | _ => none
  | _ => none
/-! ### It is so -/
section sound
variable {P : Program} {T : Nat → Option TI} (hT : TsOk P T) {E : Env} {W : World} {ev : Operand → AV} {ρ : Operand → Value} (hev : ∀ x, RepA E W (ev x) (ρ x))
theorem asI_of {x : AV} {u : Value} {k : IntKind} {i : Int} (h : RepA E W x u) (hx : asI x = some (k, i)) : u = .int k i := by
  unfold asI at hx
  split at hx
  · simp only [Option.some.injEq, Prod.mk.injEq] at hx
    obtain ⟨rfl, rfl⟩ := hx
    exact h
  · cases hx
theorem cellA_of {x : AV} {u : Value} {n : Nat} (h : RepA E W x u) (ha : aggA x = true) (hn : lenA x = some n) : ∃ cs : Array Value, u = .agg cs ∧ cs.size = n ∧ ∀ j, j < n → RepA E W (cellA x j) (cs.getD j undef) ∧ (cs.getD j undef).oneCell' = true := by
  cases x with
  | ag m f =>
    simp only [lenA, Option.some.injEq] at hn
    subst hn
    exact h
  | d y =>
    cases y with
    | ag m f =>
      simp only [lenA, Option.some.injEq] at hn
      subst hn
      exact h
    | _ => cases ha
  | _ => cases ha
theorem cells_of {x : AV} {u : Value} {n : Nat} (h : RepA E W x u) (hn : lenA x = some n) : u.cells.size = n ∧ ∀ j, j < n → RepA E W (cellA x j) (u.cells.getD j undef) ∧ (u.cells.getD j undef).oneCell' = true := by
  by_cases ha : aggA x = true
  · obtain ⟨cs, rfl, h1, h2⟩ := cellA_of h ha hn
    exact ⟨h1, h2⟩
  · have h0 : (bif avOne x then some 1 else none) = some n := by
      cases x with
      | ag m f => exact absurd rfl ha
      | d y => cases y with
        | ag m f => exact absurd rfl ha
        | _ => exact hn
      | _ => exact hn
    cases h1 : avOne x with
    | false => rw [h1] at h0; cases h0
    | true =>
      rw [h1] at h0
      simp only [cond_true, Option.some.injEq] at h0
      subst h0
      have ho := h.one h1
      have hc : u.cells = #[u] := by cases u <;> first | rfl | cases ho
      rw [hc]
      refine ⟨rfl, fun j hj => ?_⟩
      obtain rfl : j = 0 := by omega
      refine ⟨?_, ho⟩
      have : cellA x 0 = x := by
        cases x with
        | ag m f => exact absurd rfl ha
        | d y => cases y with
          | ag m f => exact absurd rfl ha
          | _ => rfl
        | _ => rfl
      rw [this]; exact h
theorem part_run (hT : TsOk P T) {t : Nat} {ti : TI} (ht : T t = some ti) {x : AV} {u : Value} {o : Nat} {c : Prop} {y : AV} (h : RepA E W x u) (hp : partV ti x o = some (c, y)) (hc : c) :
    ∃ cs v, u = .agg cs ∧ (part t cs o).run P W = .ok v W ∧ RepA E W y v := by
  unfold partV at hp
  cases ha : aggA x with
  | false => rw [ha] at hp; cases hp
  | true =>
    rw [ha] at hp
    simp only [cond_true] at hp
    cases hn : lenA x with
    | none => rw [hn] at hp; cases hp
    | some n =>
      rw [hn] at hp
      simp only [] at hp
      obtain ⟨cs, rfl, hs, hcs⟩ := cellA_of h ha hn
      have hk := hT t ti ht
      cases hg : ti.agg with
      | true =>
        rw [hg] at hp
        simp only [cond_true, Option.some.injEq, Prod.mk.injEq] at hp
        obtain ⟨rfl, rfl⟩ := hp
        refine ⟨cs, .agg (cs.extract o (o + ti.size)), rfl, ?_, ?_⟩
        · simp only [part, Sem.run_bind, hk.isAgg, hg, Result.andThen_ok, if_true, hk.sizeOf, Sem.run_pure]
        · refine ⟨_, rfl, by simp; omega, fun j hj => ?_⟩
          have : (cs.extract o (o + ti.size)).getD j undef = cs.getD (j + o) undef := by
            simp only [Array.getD_eq_getD_getElem?, Array.getElem?_extract]
            rw [if_pos (by omega), Nat.add_comm]
          rw [this]
          exact hcs (j + o) (by omega)
      | false =>
        rw [hg] at hp
        simp only [cond_false, Option.some.injEq, Prod.mk.injEq] at hp
        obtain ⟨rfl, rfl⟩ := hp
        refine ⟨cs, cs.getD o undef, rfl, ?_, (hcs o hc).1⟩
        have : cs[o]? = some (cs.getD o undef) := by
          rw [Array.getD_eq_getD_getElem?, Array.getElem?_eq_getElem (by omega)]; rfl
        simp only [part, Sem.run_bind, hk.isAgg, hg, Result.andThen_ok, Bool.false_eq_true, if_false, this, Sem.run_pure]
end sound
end Go.Px

/-! PxE -/
namespace Go.Px
open Go Go.RowKit
def oN (m : Option Int) (d : Nat) : Nat := match m with | some i => i.toNat | none => d
def oI (m : Option Int) (d : Int) : Int := match m with | some i => i | none => d
section sound
variable {P : Program} {T : Nat → Option TI} {E : Env} {W : World} {ev : Operand → AV} {ρ : Operand → Value}
theorem opt_run (hev : ∀ x, RepA E W (ev x) (ρ x)) {x : Option Operand} {l : Option Int} (h : optI ev x = some l) :
    (x = none ∧ l = none) ∨ ∃ y k i, x = some y ∧ l = some i ∧ ρ y = .int k i := by
  cases x with
  | none => simp only [optI, Option.some.injEq] at h; exact .inl ⟨rfl, h.symm⟩
  | some y =>
    simp only [optI] at h
    cases ha : asI (ev y) with
    | none => rw [ha] at h; cases h
    | some p =>
      obtain ⟨k, i⟩ := p
      rw [ha] at h
      simp only [Option.some.injEq] at h
      exact .inr ⟨y, k, i, rfl, h.symm, asI_of (hev y) ha⟩
theorem bound_run {k : IntKind} {i : Int} {n : Nat} (c : BoundsCode) (h0 : 0 ≤ i) (h1 : i ≤ n) : (Instr.sliceBound (.int k i) n c).run P W = .ok i.toNat W := by
  simp [Instr.sliceBound, asIntOf, h0, h1]
theorem max_run {k : IntKind} : ∀ (r : List AV) (us : List Value) (x m : Int), r.length = us.length → (∀ j, j < r.length → RepA E W (r.getD j (.d .top)) (us.getD j undef)) → maxL k x r = some m →
    (us.foldlM Builtin.max2 (.int k x)).run P W = .ok (.int k m) W
  | [], [], x, m, _, _, h => by simp only [maxL, Option.some.injEq] at h; subst h; rfl
  | y :: r, u :: us, x, m, hl, hr, h => by
    simp only [maxL] at h
    cases ha : asI y with
    | none => rw [ha] at h; cases h
    | some p =>
      obtain ⟨j, i⟩ := p
      rw [ha] at h
      simp only [] at h
      cases hk : IntKind.eq j k with
      | false => rw [hk] at h; cases h
      | true =>
        rw [hk] at h
        obtain rfl := IntKind.eq_of hk
        have hu : u = .int j i := asI_of (by simpa using hr 0 (by simp)) ha
        subst hu
        have ih := max_run r us (max x i) m (by simpa using hl) (fun j hj => by simpa using hr (j + 1) (by simpa using hj)) h
        rw [List.foldlM_cons, Sem.run_bind]
        have : (Builtin.max2 (.int j x) (.int j i)).run P W = .ok (.int j (max x i)) W := by
          simp only [Builtin.max2, Sem.run_pure]
          congr 2
          rw [Int.max_def]
          split <;> split <;> omega
        rw [this]
        exact ih
theorem min_run {k : IntKind} : ∀ (r : List AV) (us : List Value) (x m : Int), r.length = us.length → (∀ j, j < r.length → RepA E W (r.getD j (.d .top)) (us.getD j undef)) → minL k x r = some m →
    (us.foldlM Builtin.min2 (.int k x)).run P W = .ok (.int k m) W
  | [], [], x, m, _, _, h => by simp only [minL, Option.some.injEq] at h; subst h; rfl
  | y :: r, u :: us, x, m, hl, hr, h => by
    simp only [minL] at h
    cases ha : asI y with
    | none => rw [ha] at h; cases h
    | some p =>
      obtain ⟨j, i⟩ := p
      rw [ha] at h
      simp only [] at h
      cases hk : IntKind.eq j k with
      | false => rw [hk] at h; cases h
      | true =>
        rw [hk] at h
        obtain rfl := IntKind.eq_of hk
        have hu : u = .int j i := asI_of (by simpa using hr 0 (by simp)) ha
        subst hu
        have ih := min_run r us (min x i) m (by simpa using hl) (fun j hj => by simpa using hr (j + 1) (by simpa using hj)) h
        rw [List.foldlM_cons, Sem.run_bind]
        have : (Builtin.min2 (.int j x) (.int j i)).run P W = .ok (.int j (min x i)) W := by
          simp only [Builtin.min2, Sem.run_pure]
          congr 2
          rw [Int.min_def]
          split <;> split <;> omega
        rw [this]
        exact ih
/-- What a build fills. -/
theorem fill_run {ti : TI} {places : Nat → Option (Nat × Nat)} : ∀ (l : List (Nat × Operand)) (z : Nat → AV) (cells : Array Value) (al : List (Nat × Nat × AV)), TsOk P T → (∀ x, RepA E W (ev x) (ρ x)) → partsV T ti ev l = some al → cells.size = ti.size →
    (∀ i o tf, fldOf T ti i = some (o, tf) → places i = some (o, tf.size)) → (∀ j, j < ti.size → RepA E W (z j) (cells.getD j undef) ∧ (cells.getD j undef).oneCell' = true) →
    ∃ cs, Instr.fill places cells (l.map fun (i, x) => (i, ρ x)) = some cs ∧ cs.size = ti.size ∧ ∀ j, j < ti.size → RepA E W (fillA z al j) (cs.getD j undef) ∧ (cs.getD j undef).oneCell' = true
  | [], z, cells, al, _, _, h, hs, _, hz => by
    simp only [partsV, Option.some.injEq] at h
    subst h
    exact ⟨cells, rfl, hs, hz⟩
  | (i, x) :: l, z, cells, al, hT, hev, h, hs, hp, hz => by
    simp only [partsV] at h
    cases hf : fldOf T ti i with
    | none => rw [hf] at h; cases h
    | some p =>
      obtain ⟨o, tf⟩ := p
      rw [hf] at h
      simp only [] at h
      cases hn : lenA (ev x) with
      | none => rw [hn] at h; cases h
      | some n =>
        rw [hn] at h
        simp only [] at h
        cases hb : (Nat.beq n tf.size && Nat.ble (o + n) ti.size) with
        | false => rw [hb] at h; cases h
        | true =>
          rw [hb] at h
          simp only [cond_true, Option.map_eq_some_iff] at h
          obtain ⟨al', hal, rfl⟩ := h
          rw [Bool.and_eq_true] at hb
          have hb1 : n = tf.size := Nat.eq_of_beq_eq_true hb.1
          have hb2 : o + n ≤ ti.size := Nat.le_of_ble_eq_true hb.2
          obtain ⟨hcs, hcj⟩ := cells_of (hev x) hn
          have hpl := hp i o tf hf
          simp only [List.map_cons, Instr.fill, hpl]
          rw [if_neg (by simp only [Bool.or_eq_true, decide_eq_true_eq, ne_eq, not_or, Classical.not_not]; exact ⟨hcs.trans hb1, by omega⟩)]
          have key : ∀ (us : List Value) (d : Nat) (cur : Array Value), o + d + us.length ≤ cur.size → ((us.zipIdx d).foldl (fun (cs : Array Value) (c, j) => cs.setIfInBounds (o + j) c) cur).size = cur.size ∧
              ∀ j, ((us.zipIdx d).foldl (fun (cs : Array Value) (c, j) => cs.setIfInBounds (o + j) c) cur).getD j undef = if o + d ≤ j ∧ j < o + d + us.length then us.getD (j - (o + d)) undef else cur.getD j undef := by
            intro us
            induction us with
            | nil => intro d cur _; exact ⟨rfl, fun j => by rw [if_neg (by simp), List.zipIdx_nil, List.foldl_nil]⟩
            | cons u us ih =>
              intro d cur hle
              simp only [List.length_cons] at hle
              rw [List.zipIdx_cons, List.foldl_cons]
              obtain ⟨i1, i2⟩ := ih (d + 1) (cur.setIfInBounds (o + d) u) (by rw [Array.size_setIfInBounds]; omega)
              refine ⟨by rw [i1, Array.size_setIfInBounds], fun j => ?_⟩
              rw [i2]
              by_cases h1 : o + (d + 1) ≤ j ∧ j < o + (d + 1) + us.length
              · rw [if_pos h1, if_pos (by simp only [List.length_cons]; omega)]
                obtain ⟨e, he⟩ : ∃ e, j - (o + d) = e + 1 := ⟨j - (o + d) - 1, by omega⟩
                rw [he, List.getD_cons_succ]
                congr 1; omega
              · rw [if_neg h1]
                by_cases h2 : j = o + d
                · subst h2
                  rw [if_pos (by simp only [List.length_cons]; omega), Nat.sub_self, List.getD_cons_zero]
                  rw [Array.getD_eq_getD_getElem?, Array.getElem?_setIfInBounds_self_of_lt (by omega)]; rfl
                · rw [if_neg (by simp only [List.length_cons]; omega)]
                  rw [Array.getD_eq_getD_getElem?, Array.getD_eq_getD_getElem?, Array.getElem?_setIfInBounds_ne (by omega)]
          have hz' := key (ρ x).cells.toList 0 cells (by rw [Array.length_toList, hcs, hs]; omega)
          have hfold : (ρ x).cells.zipIdx.foldl (fun (cs : Array Value) (c, j) => cs.setIfInBounds (o + j) c) cells = ((ρ x).cells.toList.zipIdx 0).foldl (fun (cs : Array Value) (c, j) => cs.setIfInBounds (o + j) c) cells := by
            rw [← Array.foldl_toList, Array.toList_zipIdx]
          rw [hfold]
          refine fill_run l _ _ al' hT hev hal (by rw [hz'.1, hs]) hp fun j hj => ?_
          rw [hz'.2]
          simp only [Nat.add_zero, Array.length_toList, hcs]
          by_cases hin : o ≤ j ∧ j < o + n
          · rw [if_pos hin]
            have e1 : (Nat.ble o j && Nat.blt j (o + n)) = true := by
              rw [Bool.and_eq_true]; exact ⟨Nat.ble_eq_true_of_le hin.1, blt_iff.2 hin.2⟩
            rw [e1]
            have e2 : (ρ x).cells.toList.getD (j - o) undef = (ρ x).cells.getD (j - o) undef := by
              rw [Array.getD_eq_getD_getElem?, List.getD_eq_getElem?_getD, Array.getElem?_toList]
            rw [e2]
            exact hcj (j - o) (by omega)
          · rw [if_neg hin]
            have e1 : (Nat.ble o j && Nat.blt j (o + n)) = false := by
              cases hx : (Nat.ble o j && Nat.blt j (o + n)) with
              | false => rfl
              | true => rw [Bool.and_eq_true] at hx; exact absurd ⟨Nat.le_of_ble_eq_true hx.1, blt_iff.1 hx.2⟩ hin
            rw [e1]
            exact hz j hj
/-- The runs of slices' bounds. -/
theorem bounds_run {isS : Bool} {len cap : Nat} {lo hi mx : Option Operand} {l h m : Option Int} (hl : (lo = none ∧ l = none) ∨ ∃ y k i, lo = some y ∧ l = some i ∧ ρ y = .int k i)
    (hh : (hi = none ∧ h = none) ∨ ∃ y k i, hi = some y ∧ h = some i ∧ ρ y = .int k i) (hm : (mx = none ∧ m = none) ∨ ∃ y k i, mx = some y ∧ m = some i ∧ ρ y = .int k i)
    (h1 : ∀ i, m = some i → 0 ≤ i ∧ i ≤ cap ∧ h ≠ none) (h2 : ∀ i, h = some i → 0 ≤ i ∧ i ≤ oI m (cap : Int)) (h3 : ∀ i, l = some i → 0 ≤ i ∧ i ≤ oI h (len : Int)) :
    (Instr.sliceBounds isS len cap (lo.map ρ) (hi.map ρ) (mx.map ρ)).run P W =
      .ok ((oN l 0), (oN h len), (oN m cap)) W := by
  rcases hl with ⟨rfl, rfl⟩ | ⟨yl, kl, il, rfl, rfl, el⟩ <;> rcases hh with ⟨rfl, rfl⟩ | ⟨yh, kh, ih, rfl, rfl, eh⟩ <;> rcases hm with ⟨rfl, rfl⟩ | ⟨ym, km, im, rfl, rfl, em⟩
  all_goals try (exact absurd rfl (h1 _ rfl).2.2)
  all_goals simp only [Instr.sliceBounds, Option.map_none, Option.map_some, Sem.run_bind, Sem.run_pure, Result.andThen_ok]
  all_goals try simp only [em]
  all_goals try simp only [eh]
  all_goals try simp only [el]
  · rfl
  · rw [bound_run _ (h2 _ rfl).1 (h2 _ rfl).2]; rfl
  · rw [bound_run _ (h1 _ rfl).1 (h1 _ rfl).2.1, Result.andThen_ok, bound_run _ (h2 _ rfl).1 (by have := (h2 _ rfl).2; have := (h1 _ rfl).1; simp only [oI] at *; omega)]; rfl
  · rw [bound_run _ (h3 _ rfl).1 (h3 _ rfl).2]; rfl
  · rw [bound_run _ (h2 _ rfl).1 (h2 _ rfl).2, Result.andThen_ok, bound_run _ (h3 _ rfl).1 (by have := (h3 _ rfl).2; have := (h2 _ rfl).1; simp only [oI] at *; omega)]; rfl
  · rw [bound_run _ (h1 _ rfl).1 (h1 _ rfl).2.1, Result.andThen_ok, bound_run _ (h2 _ rfl).1 (by have := (h2 _ rfl).2; have := (h1 _ rfl).1; simp only [oI] at *; omega), Result.andThen_ok,
      bound_run _ (h3 _ rfl).1 (by have := (h3 _ rfl).2; have := (h2 _ rfl).1; simp only [oI] at *; omega)]; rfl
end sound
end Go.Px

/-! PxF -/
namespace Go.Px
open Go Go.RowKit
section sound
variable {P : Program} {T : Nat → Option TI} {E : Env} {W : World} {ev : Operand → AV} {ρ : Operand → Value}
/-- One operation, run, hands back a value that reads as x, and leaves memory as it was. -/
def Quiet (P : Program) (E : Env) (W : World) (ρ : Operand → Value) (o : Oper) (x : AV) : Prop := ∃ v, (execOp ρ o).run P W = .ok (.value v) W ∧ RepA E W x v
theorem q_binOp (hT : TsOk P T) (hev : ∀ x, RepA E W (ev x) (ρ x)) (o : Oper) {op : BinOp} {t : Nat} {x y : Operand} {t' : Nat} (ho : o.op = .binOp op t x y t') {c : Prop} {v : Value}
    (h : binV T op t (ev x) (ev y) = some (c, v)) (hc : c) : Quiet P E W ρ o (.d (.v v)) := by
  have hx := hev x
  have hy := hev y
  refine ⟨v, ?_, rfl⟩
  unfold binV at h
  split at h
  · rename_i j i k i' e1 e2
    rw [e1] at hx; rw [e2] at hy
    have hx : ρ x = .int j i := hx
    have hy : ρ y = .int k i' := hy
    have hb : (binOp op t (.int j i) (.int k i')).run P W = .ok v W := by
      cases hs : isShift op with
      | true => rw [hs] at h; exact shiftBin_run h hc t
      | false =>
        rw [hs] at h
        simp only [cond_false] at h
        cases hk : IntKind.eq j k with
        | false => rw [hk] at h; cases h
        | true => rw [hk] at h; obtain rfl := IntKind.eq_of hk; exact intBin_run hs h hc t
    have hg : (eqGuard op t x y (.int j i) (.int k i')).run P W = .ok () W := by
      unfold eqGuard
      split <;> rfl
    simp only [execOp, ho, hx, hy, Sem.run_bind, hg, Result.andThen_ok, hb, Sem.run_pure]
  · rename_i i i' e1 e2
    rw [e1] at hx; rw [e2] at hy
    have hx : ρ x = .bool i := hx
    have hy : ρ y = .bool i' := hy
    split at h
    · rename_i ti z s b e3
      have hk := hT t _ e3
      have heq : (Op.equal t (.bool i) (.bool i')).run P W = .ok (i == i') W := by
        rw [show Op.equal t (.bool i) (.bool i') = Op.equalIn (9999 + 1) t (.bool i) (.bool i') from rfl, Op.equalIn]
        simp only [Sem.run_bind, hk.und, Result.andThen_ok, Sem.run_pure]
      have hg : (eqGuard op t x y (.bool i) (.bool i')).run P W = .ok () W := by
        unfold eqGuard
        split <;> rfl
      cases op <;> first | cases h | skip
      · simp only [execOp, ho, hx, hy, Sem.run_bind, hg, Result.andThen_ok, binOp, heq, Sem.run_pure]
      · simp only [execOp, ho, hx, hy, Sem.run_bind, hg, Result.andThen_ok, binOp, heq, Sem.run_pure]; rfl
    · cases h
  · rename_i kt mm e1 e2
    rw [e1] at hx; rw [e2] at hy
    obtain ⟨r, es, clock, hx, _⟩ := hx
    have hy : ρ y = .map none := hy
    split at h
    · rename_i ki ei z s b q mp e3
      have hk := hT t _ e3
      have heq : (Op.equal t (.map (some r)) (.map none)).run P W = .ok false W := by
        rw [show Op.equal t (.map (some r)) (.map none) = Op.equalIn (9999 + 1) t (.map (some r)) (.map none) from rfl, Op.equalIn]
        simp only [Sem.run_bind, hk.und, Result.andThen_ok, Sem.run_pure]
      have hg : (eqGuard op t x y (.map (some r)) (.map none)).run P W = .ok () W := by
        unfold eqGuard
        split <;> rfl
      cases op <;> first | cases h | skip
      · simp only [execOp, ho, hx, hy, Sem.run_bind, hg, Result.andThen_ok, binOp, heq, Sem.run_pure]
      · simp only [execOp, ho, hx, hy, Sem.run_bind, hg, Result.andThen_ok, binOp, heq, Sem.run_pure]; rfl
    · cases h
  · split at h
    · rename_i n f m g ti z s b q mp e1 e2 e3
      cases hb : (Nat.beq n q && Nat.beq m q) with
      | false => rw [hb] at h; cases h
      | true =>
        rw [hb] at h
        simp only [Bool.and_eq_true] at hb
        obtain rfl := Nat.eq_of_beq_eq_true hb.1
        obtain rfl := Nat.eq_of_beq_eq_true hb.2
        obtain ⟨cs, h1, h2, h3⟩ := aggV_of hx e1
        obtain ⟨ds, h4, h5, h6⟩ := aggV_of hy e2
        obtain ⟨hg, hb⟩ := eqAg_run ((hT t _ e3).qe _ rfl) h2 h5 h3 h6 h hc x y
        simp only [execOp, ho, h1, h4, Sem.run_bind, hg, Result.andThen_ok, hb, Sem.run_pure]
    · cases h
theorem q_fieldAddr (hT : TsOk P T) {s i o0 : Nat} {ti tf : TI} (hs : T s = some ti) (hf : fldOf T ti i = some (o0, tf)) (hz : Nat.beq tf.size 0 = false) (b p : Nat) :
    (Instr.fieldAt s (.pointer (some ⟨b, p, none⟩)) i).run P W = .ok (.pointer (some ⟨b, p + o0, none⟩)) W := by
  unfold fldOf at hf
  split at hf
  · rename_i fs hd
    split at hf
    · rename_i f hfi
      split at hf
      · rename_i tf' htf
        simp only [Option.some.injEq, Prod.mk.injEq] at hf
        obtain ⟨rfl, rfl⟩ := hf
        have hk := hT s ti hs
        have hkf := hT _ _ htf
        have hz' : ¬ tf'.size = 0 := by
          intro e
          rw [e] at hz
          cases hz
        have hadd : (⟨b, p, none⟩ : Addr).add f.offset = ⟨b, p + f.offset, none⟩ := by unfold Addr.add; split <;> simp_all
        simp only [Instr.fieldAt, Sem.run_bind, hk.und, hd, Result.andThen_ok, hfi, Instr.sureAddr, Sem.run_pure, fieldPlace, hkf.sizeOf, hz', if_false, hadd]
      · cases hf
    · cases hf
  · cases hf
theorem q_index_slice (hT : TsOk P T) {t e : Nat} {ti te : TI} (ht : T t = some ti) (hd : ti.d = .slice e) (hte : T e = some te) {k : IntKind} {i : Int} {n cap b o : Nat} (h0 : 0 ≤ i) (h1 : i < n) :
    (Instr.indexAt t (.slice (some ⟨b, o, none⟩) n cap) (.int k i)).run P W = .ok (.pointer (some ⟨b, o + i.toNat * te.size, none⟩)) W := by
  have hk := hT t ti ht
  have hke := hT e te hte
  have hadd : (⟨b, o, none⟩ : Addr).add (i.toNat * te.size) = ⟨b, o + i.toNat * te.size, none⟩ := by unfold Addr.add; split <;> simp_all
  simp only [Instr.indexAt, asIntOf, Sem.run_bind, Sem.run_pure, Result.andThen_ok, hk.und, hd, Sem.run_ite, h0, h1, and_self, if_true, hke.sizeOf, hadd]
theorem q_index_array (hT : TsOk P T) {t e len : Nat} {ti te : TI} (ht : T t = some ti) (hd : ti.d = .array len e) (hte : T e = some te) {k : IntKind} {i : Int} {b o : Nat} (h0 : 0 ≤ i) (h1 : i < len) :
    (Instr.indexAt t (.pointer (some ⟨b, o, none⟩)) (.int k i)).run P W = .ok (.pointer (some ⟨b, o + i.toNat * te.size, none⟩)) W := by
  have hk := hT t ti ht
  have hke := hT e te hte
  have hadd : (⟨b, o, none⟩ : Addr).add (i.toNat * te.size) = ⟨b, o + i.toNat * te.size, none⟩ := by unfold Addr.add; split <;> simp_all
  simp only [Instr.indexAt, asIntOf, Sem.run_bind, Sem.run_pure, Result.andThen_ok, hk.und, hd, Instr.sureAddr, Sem.run_ite, h0, h1, and_self, if_true, hke.sizeOf, hadd]
theorem slice_run (hT : TsOk P T) (hev : ∀ x, RepA E W (ev x) (ρ x)) {t e : Nat} {ti te : TI} (ht : T t = some ti) (hd : ti.d = .slice e) (hte : T e = some te) {lo hi mx : Option Operand} {l h m : Option Int}
    (hl : optI ev lo = some l) (hh : optI ev hi = some h) (hm : optI ev mx = some m) {n cap : Nat} {ao : Option Addr}
    (h1 : ∀ i, m = some i → 0 ≤ i ∧ i ≤ cap ∧ h ≠ none) (h2 : ∀ i, h = some i → 0 ≤ i ∧ i ≤ oI m (cap : Int)) (h3 : ∀ i, l = some i → 0 ≤ i ∧ i ≤ oI h (n : Int)) :
    (Instr.sliceAt t (.slice ao n cap) (lo.map ρ) (hi.map ρ) (mx.map ρ)).run P W =
      .ok (.slice (if (oN m cap) = (oN l 0) then ao else ao.map (·.add ((oN l 0) * te.size)))
        ((oN h n) - (oN l 0)) ((oN m cap) - (oN l 0))) W := by
  have hk := hT t ti ht
  have hke := hT e te hte
  have hb := bounds_run (P := P) (W := W) (isS := true) (len := n) (cap := cap) (opt_run hev hl) (opt_run hev hh) (opt_run hev hm) h1 h2 h3
  simp only [Instr.sliceAt, Sem.run_bind, hk.und, hd, Result.andThen_ok, Instr.slice, hb, hke.sizeOf, Sem.run_pure]
theorem rep_slV {tt : Bool} {k n : Nat} {f : Nat → DV} {lo hi mx : Option Int} {c : Prop} {x : AV} (h : slV tt k n f lo hi mx = some (c, x)) (hc : c) {u : Value} (hu : Rep E.S W (.sl tt k n f) u) :
    ∃ ao cap, u = .slice ao n cap ∧ (∀ i, mx = some i → 0 ≤ i ∧ i ≤ cap ∧ hi ≠ none) ∧ (∀ i, hi = some i → 0 ≤ i ∧ i ≤ oI mx (cap : Int)) ∧ (∀ i, lo = some i → 0 ≤ i ∧ i ≤ oI hi (n : Int)) ∧
      RepA E W x (.slice (if (oN mx cap) = (oN lo 0) then ao else ao.map (·.add ((oN lo 0) * k)))
        ((oN hi n) - (oN lo 0)) ((oN mx cap) - (oN lo 0))) := by
  obtain ⟨a, cap, rfl, hn, ht, ha, hx⟩ := hu
  refine ⟨_, cap, rfl, ?_⟩
  -- the one statement behind all of them: elements from l to h' of it, m its new end
  have gen : ∀ (tt' : Bool) (l h' m : Nat), l ≤ h' → h' ≤ n → h' ≤ m → m ≤ cap → (tt' = true → m = h') → Rep E.S W (.sl tt' k (h' - l) fun i => f (l + i))
      (.slice (if m = l then a else a.map (·.add (l * k))) (h' - l) (m - l)) := by
    intro tt' l h' m h1 h2 h2' h3 h4
    refine ⟨if m = l then a else a.map (·.add (l * k)), m - l, rfl, by omega, fun e => by have := h4 e; omega, ?_, ?_⟩
    · intro e
      have : a = none := by
        by_cases hm : m = l
        · rw [if_pos hm] at e; exact e
        · rw [if_neg hm] at e; cases a with | none => rfl | some x => cases e
      have := ha this
      omega
    · intro x e i hi
      have hm : ¬ m = l := by omega
      rw [if_neg hm] at e
      cases a with
      | none => cases e
      | some y =>
        simp only [Option.map_some, Option.some.injEq] at e
        subst e
        obtain ⟨hsp, this⟩ := hx y rfl (l + i) (by omega)
        obtain ⟨b, o, s⟩ := y
        simp only at hsp
        subst hsp
        have e : (⟨b, o, none⟩ : Addr).add (l * k) = ⟨b, o + l * k, none⟩ := by unfold Addr.add; split <;> simp_all
        rw [e]
        refine ⟨rfl, ?_⟩
        simp only [] at this ⊢
        rw [show o + l * k + i * k = o + (l + i) * k from by rw [Nat.add_mul]; omega]
        exact this
  unfold slV at h
  split at h <;> first | cases h | (simp only [Option.some.injEq, Prod.mk.injEq] at h; obtain ⟨rfl, rfl⟩ := h)
  · refine ⟨by simp, by simp, by simp, ?_⟩
    have := gen tt 0 n cap (by omega) (by omega) hn (by omega) ht
    simp only [Nat.zero_add, Nat.sub_zero] at this
    exact this
  · rename_i hh
    refine ⟨by simp, ?_, by simp, ?_⟩
    · rintro i e; cases e; simp only [oI]; omega
    · have := gen false 0 hh.toNat cap (by omega) (by omega) (by omega) (by omega) (by simp)
      simp only [Nat.zero_add, Nat.sub_zero] at this
      exact this
  · rename_i l
    refine ⟨by simp, by simp, ?_, ?_⟩
    · rintro i e; cases e; simp only [oI]; omega
    · exact gen tt l.toNat n cap (by omega) (by omega) hn (by omega) ht
  · rename_i l hh
    refine ⟨by simp, ?_, ?_, ?_⟩
    · rintro i e; cases e; simp only [oI]; omega
    · rintro i e; cases e; simp only [oI]; omega
    · exact gen false l.toNat hh.toNat cap (by omega) (by omega) (by omega) (by omega) (by simp)
  · rename_i hh m
    obtain ⟨h1, h2, rfl⟩ := hc
    refine ⟨?_, ?_, by simp, ?_⟩
    · rintro i e; cases e; exact ⟨by omega, by omega, by simp⟩
    · rintro i e; cases e; simp only [oI]; omega
    · have := gen true 0 m.toNat m.toNat (by omega) (by omega) (by omega) (by omega) (fun _ => rfl)
      simp only [Nat.zero_add, Nat.sub_zero] at this
      exact this
theorem rep_msV {id k off n : Nat} {lo hi mx : Option Int} {c : Prop} {x : AV} (h : msV id k off n lo hi mx = some (c, x)) (hc : c) {u : Value} (hu : RepA E W (.ms id k off n) u) :
    ∃ ao cap, u = .slice ao n cap ∧ (∀ i, mx = some i → 0 ≤ i ∧ i ≤ cap ∧ hi ≠ none) ∧ (∀ i, hi = some i → 0 ≤ i ∧ i ≤ oI mx (cap : Int)) ∧ (∀ i, lo = some i → 0 ≤ i ∧ i ≤ oI hi (n : Int)) ∧
      RepA E W x (.slice (if (oN mx cap) = (oN lo 0) then ao else ao.map (·.add ((oN lo 0) * k)))
        ((oN hi n) - (oN lo 0)) ((oN mx cap) - (oN lo 0))) := by
  have gen : ∀ (ao : Option Addr) (cap : Nat), RepA E W (.ms id k off n) (.slice ao n cap) → ∀ (l h' : Nat), l ≤ h' → h' ≤ n → RepA E W (.ms id k (off + l) (h' - l))
      (.slice (if cap = l then ao else ao.map (·.add (l * k))) (h' - l) (cap - l)) := by
    rintro ao cap (⟨h1, rfl, h3⟩ | ⟨b, o, cap', cc, T', h1, h2, h3, h3', h4, h5⟩) l h' hl hn'
    · cases h3
      obtain rfl : h' = 0 := by omega
      obtain rfl : l = 0 := by omega
      exact .inl ⟨h1, rfl, by simp⟩
    · cases h2
      by_cases hm : cap = l
      · rw [if_pos hm]
        exact .inr ⟨b, o, cap - l, cc, T', h1, rfl, by omega, by omega, h4, .inr ⟨by omega, by omega⟩⟩
      · rw [if_neg hm]
        refine .inr ⟨b, o + l * k, cap - l, cc, T', h1, ?_, by omega, by omega, h4, ?_⟩
        · simp only [Option.map_some, Value.slice.injEq, Option.some.injEq, and_true]; unfold Addr.add; split <;> simp_all
        · rcases h5 with ⟨rfl, h6⟩ | ⟨h6, h7⟩
          · exact .inl ⟨by rw [Nat.add_mul], by rw [show off + l + (cap - l) = off + cap by omega]; exact h6⟩
          · exact .inr ⟨by omega, by omega⟩
  have hshape : ∃ ao cap, u = .slice ao n cap ∧ n ≤ cap := by
    rcases hu with ⟨_, rfl, rfl⟩ | ⟨b, o, cap, cc, T', _, rfl, h3, _⟩
    · exact ⟨none, 0, rfl, Nat.le_refl _⟩
    · exact ⟨_, cap, rfl, h3⟩
  obtain ⟨ao, cap, rfl, hncap⟩ := hshape
  refine ⟨ao, cap, rfl, ?_⟩
  unfold msV at h
  split at h <;> first | cases h | (simp only [Option.some.injEq, Prod.mk.injEq] at h; obtain ⟨rfl, rfl⟩ := h)
  · refine ⟨by simp, by simp, by simp, ?_⟩
    have := gen ao cap hu 0 n (by omega) (by omega)
    simpa [oN] using this
  · rename_i hh
    refine ⟨by simp, ?_, by simp, ?_⟩
    · rintro i e; cases e; simp only [oI]; omega
    · have := gen ao cap hu 0 hh.toNat (by omega) (by omega)
      simpa [oN] using this
  · rename_i l
    refine ⟨by simp, by simp, ?_, ?_⟩
    · rintro i e; cases e; simp only [oI]; omega
    · exact gen ao cap hu l.toNat n (by omega) (by omega)
  · rename_i l hh
    refine ⟨by simp, ?_, ?_, ?_⟩
    · rintro i e; cases e; simp only [oI]; omega
    · rintro i e; cases e; simp only [oI]; omega
    · exact gen ao cap hu l.toNat hh.toNat (by omega) (by omega)
end sound
end Go.Px

/-! PxG -/
namespace Go.Px
open Go Go.RowKit
section sound
variable {P : Program} {T : Nat → Option TI} {E : Env} {W : World} {ev : Operand → AV} {ρ : Operand → Value}
theorem q_of {o : Oper} {x : AV} {v : Value} (h : (execOp ρ o).run P W = .ok (.value v) W) (hx : RepA E W x v) : Quiet P E W ρ o x := ⟨v, h, hx⟩
theorem q_nilCheck (hev : ∀ x, RepA E W (ev x) (ρ x)) (o : Oper) {x : Operand} (ho : o.op = .nilCheck x) {c : Prop} {y : AV} (h : pureV T (.nilCheck x) ev = some (c, y)) : Quiet P E W ρ o y := by
  have hx := hev x
  simp only [pureV] at h
  split at h <;> first | (simp only [Option.some.injEq, Prod.mk.injEq] at h; obtain ⟨-, rfl⟩ := h) | cases h
  · rename_i id off e
    rw [e] at hx
    obtain ⟨b, hb, hr⟩ := hx
    exact q_of (by simp only [execOp, ho, hr, Sem.run_pure]) ⟨b, hb, rfl⟩
  · rename_i id k i off e
    rw [e] at hx
    obtain ⟨b, hb, hr⟩ := hx
    exact q_of (by simp only [execOp, ho, hr, Sem.run_pure]) ⟨b, hb, rfl⟩
  · rename_i y p e
    rw [e] at hx
    have hx' := hx
    obtain ⟨b, q, hr, _⟩ := hx
    refine q_of (v := ρ x) ?_ hx'
    rw [hr]
    simp only [execOp, ho, hr, Sem.run_pure]
  · rename_i g n m f c e
    rw [e] at hx
    have hx' := hx
    obtain ⟨fs, cs, hr, _⟩ := hx
    refine q_of (v := ρ x) ?_ hx'
    rw [hr]
    simp only [execOp, ho, hr, Sem.run_pure]
  · rename_i g n m f c e
    rw [e] at hx
    have hx' := hx
    obtain ⟨fs, cs, hr, _⟩ := hx
    refine q_of (v := ρ x) ?_ hx'
    rw [hr]
    simp only [execOp, ho, hr, Sem.run_pure]
theorem q_unOp (hev : ∀ x, RepA E W (ev x) (ρ x)) (o : Oper) {op : UnOp} {t : Nat} {x : Operand} (ho : o.op = .unOp op t x) {c : Prop} {y : AV} (h : pureV T (.unOp op t x) ev = some (c, y)) (hc : c) : Quiet P E W ρ o y := by
  have hx := hev x
  simp only [pureV] at h
  split at h <;> first | (simp only [Option.some.injEq, Prod.mk.injEq] at h; obtain ⟨rfl, rfl⟩ := h) | cases h
  · rename_i b e
    rw [e] at hx
    have hr : ρ x = .bool b := hx
    exact q_of (by simp only [execOp, ho, hr, Op.unary, Sem.run_bind, Sem.run_pure, Result.andThen_ok]) rfl
  · rename_i k i e
    rw [e] at hx
    have hr : ρ x = .int k i := hx
    exact q_of (by simp only [execOp, ho, hr, Op.unary, Op.intArith, wrap_in hc, Sem.run_bind, Sem.run_pure, Result.andThen_ok]) rfl
theorem q_convert (hT : TsOk P T) (hev : ∀ x, RepA E W (ev x) (ρ x)) (o : Oper) {s t : Nat} {x : Operand} (ho : o.op = .convert s t x) {c : Prop} {y : AV} (h : pureV T (.convert s t x) ev = some (c, y)) (hc : c) : Quiet P E W ρ o y := by
  have hx := hev x
  simp only [pureV] at h
  split at h
  · rename_i ti k z sz by_ qe mp k' i e1 e2 e3
    simp only [Option.some.injEq, Prod.mk.injEq] at h
    obtain ⟨rfl, rfl⟩ := h
    rw [e3] at hx
    have hr : ρ x = .int k' i := hx
    have hs := hT s _ e1
    have ht := hT t _ e2
    refine q_of (v := .int k i) ?_ rfl
    have : (convert s t (.int k' i)).run P W = .ok (.int k i) W := by
      simp only [convert, Sem.run_bind, hs.und, ht.und, Result.andThen_ok]
      cases ti.d <;> simp only [Conv.intToInt, Sem.run_pure, wrap_in hc]
    simp only [execOp, ho, hr, Sem.run_bind, this, Result.andThen_ok, Sem.run_pure]
  · cases h
theorem q_makeFunc (hev : ∀ x, RepA E W (ev x) (ρ x)) (o : Oper) {g : Nat} {first captured : Array Operand} (ho : o.op = .makeFunc (.func g) first captured) :
    Quiet P E W ρ o (.fn g first.size captured.size (fun j => ev (first.getD j (.const undef))) fun j => ev (captured.getD j (.const undef))) := by
  refine q_of (v := .func (.func g) (first.map ρ) (captured.map ρ)) (by simp only [execOp, ho, Instr.makeFunc, Sem.run_bind, Sem.run_pure, Result.andThen_ok]) ?_
  have key : ∀ (l : Array Operand) (j : Nat), j < l.size → RepA E W (ev (l.getD j (.const undef))) ((l.map ρ).getD j undef) := by
    intro l j hj
    have e1 : (l.map ρ).getD j undef = ρ (l.getD j (.const undef)) := by
      rw [Array.getD_eq_getD_getElem?, Array.getD_eq_getD_getElem?, Array.getElem?_map, Array.getElem?_eq_getElem hj]; rfl
    rw [e1]; exact hev _
  exact ⟨_, _, rfl, by simp, by simp, key first, key captured⟩
theorem q_field (hT : TsOk P T) (hev : ∀ x, RepA E W (ev x) (ρ x)) (o : Oper) {s i : Nat} {x : Operand} (ho : o.op = .field s x i) {c : Prop} {y : AV} (h : pureV T (.field s x i) ev = some (c, y)) (hc : c) : Quiet P E W ρ o y := by
  have hx := hev x
  simp only [pureV] at h
  cases hs : T s with
  | none => rw [hs] at h; cases h
  | some ti =>
    rw [hs] at h
    simp only [] at h
    cases hf : fldOf T ti i with
    | none => rw [hf] at h; cases h
    | some p =>
      obtain ⟨q, tf⟩ := p
      rw [hf] at h
      simp only [] at h
      unfold fldOf at hf
      split at hf
      · rename_i fs hd
        split at hf
        · rename_i f hfi
          split at hf
          · rename_i tf' htf
            simp only [Option.some.injEq, Prod.mk.injEq] at hf
            obtain ⟨rfl, rfl⟩ := hf
            obtain ⟨cs, v, hr, hp, hy⟩ := part_run (P := P) (W := W) hT htf hx h hc
            have hk := hT s ti hs
            refine q_of (v := v) ?_ hy
            simp only [execOp, ho, hr, Instr.field, Sem.run_bind, hk.und, hd, Result.andThen_ok, hfi, asAgg, Sem.run_pure, hp]
          · cases hf
        · cases hf
      · cases hf
theorem q_index (hT : TsOk P T) (hev : ∀ x, RepA E W (ev x) (ρ x)) (o : Oper) {t : Nat} {x i : Operand} (ho : o.op = .index t x i) {c : Prop} {y : AV} (h : pureV T (.index t x i) ev = some (c, y)) (hc : c) : Quiet P E W ρ o y := by
  have hx := hev x
  simp only [pureV] at h
  cases ht : T t with
  | none => rw [ht] at h; cases h
  | some ti =>
    cases hi : asI (ev i) with
    | none => rw [ht, hi] at h; cases h
    | some p =>
      obtain ⟨k, ix⟩ := p
      have hri := asI_of (hev i) hi
      rw [ht, hi] at h
      simp only [] at h
      split at h
      · rename_i len e hd
        cases he : T e with
        | none => rw [he] at h; cases h
        | some te =>
          rw [he] at h
          simp only [] at h
          cases hg : te.agg with
          | true => rw [hg] at h; cases h
          | false =>
            rw [hg] at h
            simp only [cond_false] at h
            cases hz : Nat.beq te.size 1 with
            | false => rw [hz] at h; cases h
            | true =>
              rw [hz] at h
              simp only [cond_true] at h
              have hz1 := Nat.eq_of_beq_eq_true hz
              split at h
              · rename_i c' y' hp
                simp only [Option.some.injEq, Prod.mk.injEq] at h
                obtain ⟨rfl, rfl⟩ := h
                obtain ⟨h0, h1, hc'⟩ := hc
                obtain ⟨cs, v, hr, hpr, hy⟩ := part_run (P := P) (W := W) hT he hx hp hc'
                have hk := hT t ti ht
                have hke := hT e te he
                refine q_of (v := v) ?_ hy
                simp only [execOp, ho, hr, hri, Instr.index, asIntOf, Sem.run_bind, Sem.run_pure, Result.andThen_ok, hk.und, hd, Sem.run_ite, h0, h1, and_self, if_true, hke.sizeOf, hz1, Nat.mul_one, hpr]
              · cases h
      · cases h
theorem q_extract (hev : ∀ x, RepA E W (ev x) (ρ x)) (o : Oper) {i : Nat} {x : Operand} (ho : o.op = .extract x i) {c : Prop} {y : AV} (h : pureV T (.extract x i) ev = some (c, y)) (hc : c) : Quiet P E W ρ o y := by
  have hx := hev x
  simp only [pureV] at h
  split at h
  · rename_i n f e
    simp only [Option.some.injEq, Prod.mk.injEq] at h
    obtain ⟨rfl, rfl⟩ := h
    rw [e] at hx
    obtain ⟨cs, hr, hs, hcs⟩ := hx
    have hi : cs[i]? = some (cs.getD i undef) := by rw [Array.getD_eq_getD_getElem?, Array.getElem?_eq_getElem (by omega)]; rfl
    exact q_of (v := cs.getD i undef) (by simp only [execOp, ho, hr, Instr.extract, hi, Sem.run_bind, Sem.run_pure, Result.andThen_ok]) (hcs i hc)
  · rename_i n f e
    simp only [Option.some.injEq, Prod.mk.injEq] at h
    obtain ⟨rfl, rfl⟩ := h
    rw [e] at hx
    obtain ⟨cs, hr, hs, hcs⟩ := hx
    have hi : cs[i]? = some (cs.getD i undef) := by rw [Array.getD_eq_getD_getElem?, Array.getElem?_eq_getElem (by omega)]; rfl
    exact q_of (v := cs.getD i undef) (by simp only [execOp, ho, hr, Instr.extract, hi, Sem.run_bind, Sem.run_pure, Result.andThen_ok]) (hcs i hc)
  · cases h
theorem q_fieldAddr' (hT : TsOk P T) (hev : ∀ x, RepA E W (ev x) (ρ x)) (o : Oper) {s i : Nat} {x : Operand} (ho : o.op = .fieldAddr s x i) {c : Prop} {y : AV} (h : pureV T (.fieldAddr s x i) ev = some (c, y)) : Quiet P E W ρ o y := by
  have hx := hev x
  simp only [pureV] at h
  cases hs : T s with
  | none => rw [hs] at h; cases h
  | some ti =>
    rw [hs] at h
    simp only [] at h
    cases hf : fldOf T ti i with
    | none => rw [hf] at h; cases h
    | some p =>
      obtain ⟨q, tf⟩ := p
      rw [hf] at h
      simp only [] at h
      cases hz : Nat.beq tf.size 0 with
      | true => rw [hz] at h; cases h
      | false =>
        rw [hz] at h
        simp only [cond_false] at h
        split at h <;> first | (simp only [Option.some.injEq, Prod.mk.injEq] at h; obtain ⟨-, rfl⟩ := h) | cases h
        · rename_i id off e
          rw [e] at hx
          obtain ⟨b, hb, hr⟩ := hx
          exact q_of (by simp only [execOp, ho, hr, Sem.run_bind, q_fieldAddr hT hs hf hz, Result.andThen_ok, Sem.run_pure]) ⟨b, hb, rfl⟩
        · rename_i id k j off e
          rw [e] at hx
          obtain ⟨b, hb, hr⟩ := hx
          exact q_of (v := .pointer (some ⟨b, j * k + off + q, none⟩)) (by simp only [execOp, ho, hr, Sem.run_bind, q_fieldAddr hT hs hf hz, Result.andThen_ok, Sem.run_pure]) ⟨b, hb, by rw [Nat.add_assoc]⟩
        · rename_i y p e
          rw [e] at hx
          obtain ⟨b, p', hr, hm⟩ := hx
          exact q_of (v := .pointer (some ⟨b, p' + p + q, none⟩)) (by simp only [execOp, ho, hr, Sem.run_bind, q_fieldAddr hT hs hf hz, Result.andThen_ok, Sem.run_pure]) ⟨b, p', by rw [Nat.add_assoc], hm⟩
theorem q_indexAddr (hT : TsOk P T) (hev : ∀ x, RepA E W (ev x) (ρ x)) (o : Oper) {t : Nat} {x i : Operand} (ho : o.op = .indexAddr t x i) {c : Prop} {y : AV} (h : pureV T (.indexAddr t x i) ev = some (c, y)) (hc : c) : Quiet P E W ρ o y := by
  have hx := hev x
  simp only [pureV] at h
  cases ht : T t with
  | none => rw [ht] at h; cases h
  | some ti =>
    cases hi : asI (ev i) with
    | none => rw [ht, hi] at h; cases h
    | some p =>
      obtain ⟨k, ix⟩ := p
      have hri := asI_of (hev i) hi
      rw [ht, hi] at h
      simp only [] at h
      split at h
      · rename_i e hd
        cases he : T e with
        | none => rw [he] at h; cases h
        | some te =>
          rw [he] at h
          simp only [] at h
          split at h
          · rename_i tt k' n f e1
            cases hz : Nat.beq k' te.size with
            | false => rw [hz] at h; cases h
            | true =>
              rw [hz] at h
              simp only [cond_true, Option.some.injEq, Prod.mk.injEq] at h
              obtain ⟨rfl, rfl⟩ := h
              have hz1 := Nat.eq_of_beq_eq_true hz
              rw [e1] at hx
              obtain ⟨a, cap, hr, hn, _, ha, hm⟩ := hx
              have hlt : ix.toNat < n := by omega
              cases a with
              | none => have := ha rfl; omega
              | some a =>
                obtain ⟨hsp, this⟩ := hm a rfl ix.toNat hlt
                obtain ⟨ab, ao, asp⟩ := a
                simp only at hsp
                subst hsp
                refine q_of (v := .pointer (some ⟨ab, ao + ix.toNat * te.size, none⟩)) (by simp only [execOp, ho, hr, hri, Option.map_some, Sem.run_bind, q_index_slice hT ht hd he hc.1 hc.2, Result.andThen_ok, Sem.run_pure]) ⟨ab, ao + ix.toNat * te.size, rfl, ?_⟩
                rw [← hz1]; exact this
          · rename_i id k' off n e1
            cases hz : Nat.beq k' te.size with
            | false => rw [hz] at h; cases h
            | true =>
              rw [hz] at h
              simp only [cond_true, Option.some.injEq, Prod.mk.injEq] at h
              obtain ⟨rfl, rfl⟩ := h
              have hz1 := Nat.eq_of_beq_eq_true hz
              rw [e1] at hx
              rcases hx with ⟨_, hn, _⟩ | ⟨b, q, cap, cc, T', hb, hr, hn, _, _, hs⟩
              · omega
              · rcases hs with ⟨rfl, _⟩ | ⟨h1, _⟩
                · refine q_of (v := .pointer (some ⟨b, off * k' + ix.toNat * te.size, none⟩)) (by simp only [execOp, ho, hr, hri, Sem.run_bind, q_index_slice hT ht hd he hc.1 hc.2, Result.andThen_ok, Sem.run_pure]) ⟨b, hb, ?_⟩
                  rw [← hz1, Nat.add_mul]; rfl
                · omega
          · cases h
      · rename_i len e hd
        cases he : T e with
        | none => rw [he] at h; cases h
        | some te =>
          rw [he] at h
          simp only [] at h
          split at h
          · rename_i y' p' e1
            simp only [Option.some.injEq, Prod.mk.injEq] at h
            obtain ⟨rfl, rfl⟩ := h
            rw [e1] at hx
            obtain ⟨b, q, hr, hm⟩ := hx
            exact q_of (v := .pointer (some ⟨b, q + p' + ix.toNat * te.size, none⟩)) (by simp only [execOp, ho, hr, hri, Sem.run_bind, q_index_array hT ht hd he hc.1 hc.2, Result.andThen_ok, Sem.run_pure]) ⟨b, q, by rw [Nat.add_assoc], hm⟩
          · rename_i id k' i0 e1
            cases hz : Nat.beq k' te.size with
            | false =>
              rw [hz] at h
              simp only [cond_false, Option.some.injEq, Prod.mk.injEq] at h
              obtain ⟨rfl, rfl⟩ := h
              rw [e1] at hx
              obtain ⟨b, hb, hr⟩ := hx
              exact q_of (v := .pointer (some ⟨b, i0 * k' + ix.toNat * te.size, none⟩)) (by simp only [execOp, ho, hr, hri, Nat.add_zero, Sem.run_bind, q_index_array hT ht hd he hc.1 hc.2, Result.andThen_ok, Sem.run_pure]) ⟨b, hb, rfl⟩
            | true =>
              rw [hz] at h
              simp only [cond_true, Option.some.injEq, Prod.mk.injEq] at h
              obtain ⟨rfl, rfl⟩ := h
              have hz1 := Nat.eq_of_beq_eq_true hz
              rw [e1] at hx
              obtain ⟨b, hb, hr⟩ := hx
              refine q_of (v := .pointer (some ⟨b, i0 * k' + ix.toNat * te.size, none⟩)) (by simp only [execOp, ho, hr, hri, Nat.add_zero, Sem.run_bind, q_index_array hT ht hd he hc.1 hc.2, Result.andThen_ok, Sem.run_pure]) ⟨b, hb, ?_⟩
              rw [← hz1, Nat.add_mul]; rfl
          · cases h
      · cases h
theorem q_slice (hT : TsOk P T) (hev : ∀ x, RepA E W (ev x) (ρ x)) (o : Oper) {t : Nat} {x : Operand} {lo hi mx : Option Operand} (ho : o.op = .slice t x lo hi mx) {c : Prop} {y : AV} (h : pureV T (.slice t x lo hi mx) ev = some (c, y)) (hc : c) : Quiet P E W ρ o y := by
  have hx := hev x
  simp only [pureV] at h
  split at h
  · rename_i ti l hh m ht hl hhi hm
    split at h
    · rename_i e hd
      cases he : T e with
      | none => rw [he] at h; cases h
      | some te =>
        rw [he] at h
        simp only [] at h
        split at h
        · rename_i tt k n f e1
          cases hz : Nat.beq k te.size with
          | false => rw [hz] at h; cases h
          | true =>
            rw [hz] at h
            have hz1 := Nat.eq_of_beq_eq_true hz
            rw [e1] at hx
            obtain ⟨ao, cap, hr, h1, h2, h3, hy⟩ := rep_slV h hc hx
            refine q_of ?_ hy
            rw [hz1]
            simp only [execOp, ho, hr, Sem.run_bind, slice_run (P := P) (W := W) hT hev ht hd he hl hhi hm h1 h2 h3, Result.andThen_ok, Sem.run_pure]
        · rename_i id k off n e1
          cases hz : Nat.beq k te.size with
          | false => rw [hz] at h; cases h
          | true =>
            rw [hz] at h
            have hz1 := Nat.eq_of_beq_eq_true hz
            rw [e1] at hx
            obtain ⟨ao, cap, hr, h1, h2, h3, hy⟩ := rep_msV h hc hx
            refine q_of ?_ hy
            rw [hz1]
            simp only [execOp, ho, hr, Sem.run_bind, slice_run (P := P) (W := W) hT hev ht hd he hl hhi hm h1 h2 h3, Result.andThen_ok, Sem.run_pure]
        · cases h
    · cases h
  · cases h
theorem mapM_fields (hT : TsOk P T) : ∀ (fs : List Field), (∀ f ∈ fs, ∃ tf, T f.type = some tf) →
    ∃ r, (fs.mapM fun (f : Field) => (do pure (f.offset, ← sizeOf f.type) : Sem (Nat × Nat))).run P W = .ok r W ∧ r.length = fs.length ∧ ∀ (i : Nat) (f : Field) (tf : TI), fs[i]? = some f → T f.type = some tf → r[i]? = some (f.offset, tf.size)
  | [], _ => ⟨[], rfl, rfl, by simp⟩
  | f :: fs, h => by
    obtain ⟨tf, htf⟩ := h f (by simp)
    obtain ⟨r, hr, hl, hx⟩ := mapM_fields hT fs fun g hg => h g (by simp [hg])
    refine ⟨(f.offset, tf.size) :: r, ?_, by simp [hl], ?_⟩
    · rw [List.mapM_cons]
      simp only [Sem.run_bind, (hT _ _ htf).sizeOf, Result.andThen_ok, Sem.run_pure, hr]
    · intro i g tg hg htg
      cases i with
      | zero => simp at hg; subst hg; rw [htf] at htg; cases htg; rfl
      | succ i => simpa using hx i g tg (by simpa using hg) htg
theorem cell_zero {ti : TI} {t : Nat} (hk : TOk P ti t) (j : Nat) (hj : j < ti.size) : RepA E W (.d (.v (ti.z.cells.getD j undef))) (ti.z.cells.getD j undef) ∧ (ti.z.cells.getD j undef).oneCell' = true := by
  refine ⟨rfl, hk.z1 _ ?_⟩
  have hlt : j < ti.z.cells.size := by rw [hk.zs]; exact hj
  rw [Array.getD_eq_getD_getElem?, Array.getElem?_eq_getElem hlt]
  simp
theorem q_build (hT : TsOk P T) (hev : ∀ x, RepA E W (ev x) (ρ x)) (o : Oper) {t : Nat} {parts : Array (Nat × Operand)} (ho : o.op = .build t parts) {c : Prop} {y : AV} (h : pureV T (.build t parts) ev = some (c, y)) : Quiet P E W ρ o y := by
  simp only [pureV] at h
  cases ht : T t with
  | none => rw [ht] at h; cases h
  | some ti =>
    rw [ht] at h
    simp only [] at h
    cases hp : partsV T ti ev parts.toList with
    | none => rw [hp] at h; cases h
    | some l =>
      rw [hp] at h
      simp only [] at h
      split at h
      · rename_i fs hd
        cases ha : (fs.toList.all fun f => (T f.type).isSome) with
        | false => rw [ha] at h; cases h
        | true =>
          rw [ha] at h
          simp only [cond_true, Option.some.injEq, Prod.mk.injEq] at h
          obtain ⟨-, rfl⟩ := h
          have hk := hT t ti ht
          obtain ⟨r, hr, hl, hx⟩ := mapM_fields (P := P) (W := W) hT fs.toList fun f hf => by
            have := List.all_eq_true.1 ha f hf
            exact Option.isSome_iff_exists.1 this
          obtain ⟨cs, hf, hs, hcs⟩ := fill_run (P := P) (T := T) (E := E) (W := W) (ev := ev) (ρ := ρ) (ti := ti) (places := fun i => r.toArray[i]?) parts.toList (fun j => .d (.v (ti.z.cells.getD j undef))) ti.z.cells l hT hev hp hk.zs
            (fun i q tf hf => by
              unfold fldOf at hf
              rw [hd] at hf
              simp only [] at hf
              split at hf
              · rename_i f hfi
                split at hf
                · rename_i tf' htf
                  simp only [Option.some.injEq, Prod.mk.injEq] at hf
                  obtain ⟨rfl, rfl⟩ := hf
                  simpa using hx i f tf' (by simpa using hfi) htf
                · cases hf
              · cases hf) (fun j hj => cell_zero hk j hj)
          refine q_of (v := .agg cs) ?_ ⟨cs, rfl, hs, hcs⟩
          have hm : (fs.mapM fun (f : Field) => (do pure (f.offset, ← sizeOf f.type) : Sem (Nat × Nat))).run P W = .ok r.toArray W := by
            rw [Array.mapM_eq_mapM_toList, Sem.run_map, hr]; rfl
          have hb : (Instr.build t (parts.map fun (i, x) => (i, ρ x))).run P W = .ok (.agg cs) W := by
            simp only [Instr.build, Sem.run_bind, hk.zeroValue, hk.und, hd, Result.andThen_ok]
            rw [hm]
            simp only [Result.andThen_ok]
            rw [Array.toList_map, hf]
            rfl
          simp only [execOp, ho, Sem.run_bind, hb, Result.andThen_ok, Sem.run_pure]
      · rename_i n e hd
        split at h
        · rename_i te hte hpl
          cases ha : ti.z.cells.toList.all isZ64 with
          | false => rw [ha] at h; cases h
          | true =>
            rw [ha] at h
            simp only [cond_true, Option.some.injEq, Prod.mk.injEq] at h
            obtain ⟨-, rfl⟩ := h
            have hk := hT t ti ht
            have hpe : parts = #[] := by rw [← Array.toList_inj]; exact hpl
            subst hpe
            refine q_of (v := .agg ti.z.cells) ?_ ⟨ti.z.cells, rfl, hk.zs, fun j hj => ?_⟩
            · have hb : (Instr.build t #[]).run P W = .ok (.agg ti.z.cells) W := by
                simp only [Instr.build, Sem.run_bind, hk.zeroValue, hk.und, hd, Result.andThen_ok, (hT e te hte).sizeOf, Instr.fill, Sem.run_pure]
              simp only [execOp, ho, Sem.run_bind, List.map_toArray, List.map_nil, hb, Result.andThen_ok, Sem.run_pure]
            · have hlt : j < ti.z.cells.size := by rw [hk.zs]; exact hj
              have hz : ti.z.cells.getD j undef = .int .i64 0 := by
                rw [Array.getD_eq_getD_getElem?, Array.getElem?_eq_getElem hlt]
                have := List.all_eq_true.1 ha ti.z.cells[j] (by simp)
                simp only [Option.getD_some]
                unfold isZ64 at this
                split at this
                · assumption
                · cases this
              rw [hz]; exact ⟨rfl, rfl⟩
        · cases h
      · cases h
theorem q_len (hT : TsOk P T) (hev : ∀ x, RepA E W (ev x) (ρ x)) (o : Oper) {args : Array Operand} {ts : Array Nat} (ho : o.op = .call { callee := .builtin .len, args, argTypes := ts }) {c : Prop} {y : AV}
    (h : builtinV T .len args.toList ts.toList ev = some (c, y)) : Quiet P E W ρ o y := by
  simp only [builtinV] at h
  split at h
  · rename_i x t ea et
    have hx := hev x
    have ea' : args = #[x] := by rw [← Array.toList_inj]; simpa using ea
    have et' : ts = #[t] := by rw [← Array.toList_inj]; simpa using et
    subst ea' et'
    have step : ∀ v, (Builtin.len_ #[t] o.type #[ρ x]).run P W = .ok v W → (execOp ρ o).run P W = .ok (.value v) W := by
      intro v hv
      simp only [execOp, ho, resolve, invoke, builtin, Sem.run_bind, Sem.run_pure, Result.andThen_ok, List.map_toArray, List.map_cons, List.map_nil, hv]
    cases ht : T t with
    | none => rw [ht] at h; cases h
    | some ti =>
      rw [ht] at h
      simp only [] at h
      have hk := hT t ti ht
      split at h
      · rename_i e hd
        split at h <;> first | (simp only [Option.some.injEq, Prod.mk.injEq] at h; obtain ⟨-, rfl⟩ := h) | cases h
        · rename_i tt k n f e1
          rw [e1] at hx
          obtain ⟨a, cap, hr, _⟩ := hx
          refine q_of (step _ ?_) rfl
          simp only [Builtin.len_, hr, List.getElem?_toArray, List.getElem?_cons_zero, Sem.run_bind, hk.und, hd, Result.andThen_ok, goInt, Sem.run_pure]
        · rename_i id k off n e1
          rw [e1] at hx
          have hr : ∃ a cap, ρ x = .slice a n cap := by
            rcases hx with ⟨_, rfl, hr⟩ | ⟨b, q, cap, cc, T', _, hr, _⟩
            · exact ⟨_, _, hr⟩
            · exact ⟨_, _, hr⟩
          obtain ⟨a, cap, hr⟩ := hr
          refine q_of (step _ ?_) rfl
          simp only [Builtin.len_, hr, List.getElem?_toArray, List.getElem?_cons_zero, Sem.run_bind, hk.und, hd, Result.andThen_ok, goInt, Sem.run_pure]
        · rename_i a n cap e1
          rw [e1] at hx
          have hr : ρ x = .slice a n cap := hx
          refine q_of (step _ ?_) rfl
          simp only [Builtin.len_, hr, List.getElem?_toArray, List.getElem?_cons_zero, Sem.run_bind, hk.und, hd, Result.andThen_ok, goInt, Sem.run_pure]
      · rename_i n e hd
        simp only [Option.some.injEq, Prod.mk.injEq] at h
        obtain ⟨-, rfl⟩ := h
        refine q_of (step _ ?_) rfl
        simp only [Builtin.len_, List.getElem?_toArray, List.getElem?_cons_zero, Sem.run_bind, hk.und, hd, Result.andThen_ok, goInt, Sem.run_pure]
      · cases h
  · cases h
theorem q_minmax (hev : ∀ x, RepA E W (ev x) (ρ x)) (o : Oper) (b : Bool) {args : Array Operand} {ts : Array Nat} (ho : o.op = .call { callee := .builtin (if b then .max else .min), args, argTypes := ts }) {c : Prop} {y : AV}
    (h : builtinV T (if b then .max else .min) args.toList ts.toList ev = some (c, y)) : Quiet P E W ρ o y := by
  cases hl : args.toList with
  | nil => cases b <;> simp only [builtinV, hl, Bool.false_eq_true, if_false, if_true] at h <;> cases h
  | cons x r =>
    cases ha : asI (ev x) with
    | none => cases b <;> simp only [builtinV, hl, ha, Bool.false_eq_true, if_false, if_true] at h <;> cases h
    | some p =>
      obtain ⟨k, i⟩ := p
      have hx := asI_of (hev x) ha
      have hlist : (args.map ρ).toList = .int k i :: r.map ρ := by rw [Array.toList_map, hl, List.map_cons, hx]
      have hrep : ∀ j, j < (r.map ev).length → RepA E W ((r.map ev).getD j (.d .top)) ((r.map ρ).getD j undef) := by
        intro j hj
        have hj' : j < r.length := by simpa using hj
        rw [List.getD_eq_getElem?_getD, List.getD_eq_getElem?_getD, List.getElem?_map, List.getElem?_map, List.getElem?_eq_getElem hj']
        exact hev _
      cases b with
      | true =>
        simp only [builtinV, hl, ha, if_true, Option.map_eq_some_iff] at h
        obtain ⟨m, hm, he⟩ := h
        simp only [Prod.mk.injEq] at he
        obtain ⟨-, rfl⟩ := he
        refine q_of (v := .int k m) ?_ rfl
        have := max_run (P := P) (r.map ev) (r.map ρ) i m (by simp) hrep hm
        simp only [execOp, ho, if_true, resolve, invoke, builtin, Sem.run_bind, Sem.run_pure, Result.andThen_ok, Builtin.max_, hlist, this]
      | false =>
        simp only [builtinV, hl, ha, Bool.false_eq_true, if_false, Option.map_eq_some_iff] at h
        obtain ⟨m, hm, he⟩ := h
        simp only [Prod.mk.injEq] at he
        obtain ⟨-, rfl⟩ := he
        refine q_of (v := .int k m) ?_ rfl
        have := min_run (P := P) (r.map ev) (r.map ρ) i m (by simp) hrep hm
        simp only [execOp, ho, Bool.false_eq_true, if_false, resolve, invoke, builtin, Sem.run_bind, Sem.run_pure, Result.andThen_ok, Builtin.min_, hlist, this]
/-- **The abstract run of an operation that touches no memory is sound.** -/
theorem pure_sound (hT : TsOk P T) (hev : ∀ x, RepA E W (ev x) (ρ x)) (o : Oper) {c : Prop} {y : AV} (h : pureV T o.op ev = some (c, y)) (hc : c) : Quiet P E W ρ o y := by
  obtain ⟨dst, op, ty, pos, after, guard⟩ := o
  simp only at h
  revert h
  cases op with
  | move x => intro h; simp only [pureV, Option.some.injEq, Prod.mk.injEq] at h; obtain ⟨-, rfl⟩ := h; exact q_of (by simp only [execOp, Sem.run_pure]) (hev x)
  | assign x => intro h; simp only [pureV, Option.some.injEq, Prod.mk.injEq] at h; obtain ⟨-, rfl⟩ := h; exact q_of (by simp only [execOp, Sem.run_pure]) (hev x)
  | pick x a b =>
    intro h
    have hx := hev x
    simp only [pureV] at h
    split at h
    · rename_i t e
      rw [e] at hx
      have hr : ρ x = .bool t := hx
      cases t <;> simp only [Option.some.injEq, Prod.mk.injEq] at h <;> obtain ⟨-, rfl⟩ := h
      · exact q_of (by simp only [execOp, hr, asBool, Sem.run_bind, Sem.run_pure, Result.andThen_ok, Bool.false_eq_true, if_false]) (hev b)
      · exact q_of (by simp only [execOp, hr, asBool, Sem.run_bind, Sem.run_pure, Result.andThen_ok, if_true]) (hev a)
    · cases h
  | nilCheck x => exact fun h => q_nilCheck hev _ rfl h
  | binOp op t x y t' =>
    intro h
    simp only [pureV] at h
    split at h
    · rename_i c' v hb
      simp only [Option.some.injEq, Prod.mk.injEq] at h
      obtain ⟨rfl, rfl⟩ := h
      exact q_binOp hT hev _ rfl hb hc
    · cases h
  | unOp op t x => exact fun h => q_unOp hev _ rfl h hc
  | convert s t x => exact fun h => q_convert hT hev _ rfl h hc
  | makeFunc fn first captured =>
    cases fn with
    | func g => intro h; simp only [pureV, Option.some.injEq, Prod.mk.injEq] at h; obtain ⟨-, rfl⟩ := h; exact q_makeFunc hev _ rfl
    | _ => exact fun h => by simp only [pureV] at h; cases h
  | fieldAddr s x i => exact fun h => q_fieldAddr' hT hev _ rfl h
  | field s x i => exact fun h => q_field hT hev _ rfl h hc
  | indexAddr t x i => exact fun h => q_indexAddr hT hev _ rfl h hc
  | index t x i => exact fun h => q_index hT hev _ rfl h hc
  | extract x i => exact fun h => q_extract hev _ rfl h hc
  | slice t x lo hi mx => exact fun h => q_slice hT hev _ rfl h hc
  | build t parts => exact fun h => q_build hT hev _ rfl h
  | call cl =>
    obtain ⟨callee, args, ts⟩ := cl
    intro h
    cases callee with
    | builtin b =>
      simp only [pureV] at h
      cases b with
      | len => exact q_len hT hev _ rfl h
      | max => exact q_minmax hev _ true rfl h
      | min => exact q_minmax hev _ false rfl h
      | _ => simp only [builtinV] at h; cases h
    | _ => simp only [pureV] at h; cases h
  | _ => exact fun h => by simp only [pureV] at h; cases h
end sound
end Go.Px

/-! PxH -/
namespace Go.Px
open Go Go.RowKit
/-- What a load gives. -/
def loadV (ti : TI) (hp : Nat → Option Res) : AV → Option (Prop × AV)
  | .ref id off => match hp id with
    | some (.cs _ n f) => bif ti.agg then some (off + ti.size ≤ n, .ag ti.size fun j => f (j + off)) else some (off < n, f off)
    | _ => none
  | .el id k i off => match hp id with
    | some (.row _ _ k' n f) => bif Nat.beq k k' then
        (bif ti.agg then
          (bif Nat.ble (off + ti.size) k then some (i < n, .d (.ag ti.size fun j => cellD (f i) (j + off)))
            else bif Nat.beq k 1 && Nat.beq off 0 then some (i + ti.size ≤ n, .d (.ag ti.size fun j => cellD (f (j + i)) 0)) else none)
          else bif Nat.blt k 4 then (bif Nat.blt off k then some (i < n, .d (cellD (f i) off)) else none) else some (i < n ∧ off < k, .d (cellD (f i) off)))
        else none
    | _ => none
  | .d (.pt x o) => match x with
    | .ag n f => bif ti.agg then some (o + ti.size ≤ n, .d (.ag ti.size fun j => f (j + o))) else some (o < n, .d (f o))
    | .top => none
    | y => bif ti.agg then some (o = 0 ∧ ti.size = 1, .d (.ag 1 fun _ => y)) else some (o = 0, .d y)
  | _ => none
theorem loadVar_one {P : Program} {W : World} {t : Nat} {ti : TI} (hk : TOk P ti t) (hg : ti.agg = false) {b o : Nat} {u : Value} (h : W.cell? ⟨b, o, none⟩ = some u) : (loadVar t ⟨b, o, none⟩).run P W = .ok u W := by
  simp only [loadVar, Sem.run_bind, hk.isAgg, hg, Result.andThen_ok, Bool.false_eq_true, if_false, run_load, h]
theorem loadVar_agg {P : Program} {W : World} {t : Nat} {ti : TI} (hk : TOk P ti t) (hg : ti.agg = true) {b o : Nat} (g : Nat → Value) (h : ∀ j, j < ti.size → W.cell? ⟨b, o + j, none⟩ = some (g j)) :
    (loadVar t ⟨b, o, none⟩).run P W = .ok (.agg ((List.range ti.size).map g).toArray) W := by
  have hadd : ∀ j, (⟨b, o, none⟩ : Addr).add j = ⟨b, o + j, none⟩ := fun j => by unfold Addr.add; split <;> simp_all
  have := run_loadCells_list (P := P) W ⟨b, o, none⟩ ((List.range ti.size).map g) (fun j v hj => by
    rw [List.getElem?_map] at hj
    by_cases hlt : j < ti.size
    · rw [List.getElem?_range hlt] at hj
      simp only [Option.map_some, Option.some.injEq] at hj
      rw [hadd, h j hlt, hj]
    · rw [List.getElem?_eq_none (by simpa using hlt)] at hj; cases hj)
  simp only [List.length_map, List.length_range] at this
  simp only [loadVar, Sem.run_bind, hk.isAgg, hg, Result.andThen_ok, if_true, hk.sizeOf, this, Sem.run_pure]
theorem getD_map_range (n : Nat) (g : Nat → Value) (j : Nat) (h : j < n) : ((List.range n).map g).toArray.getD j undef = g j := by
  rw [Array.getD_eq_getD_getElem?, List.getElem?_toArray, List.getElem?_map, List.getElem?_range h]; rfl
theorem cellD_of {S : Nat → Prop} {W : World} {k : Nat} {x : DV} {c : Nat → Value} (h : RepC S W k x c) {j : Nat} (hj : j < k) : Rep S W (cellD x j) (c j) := by
  cases x with
  | ag n f => exact h.2 j (by have := h.1; omega)
  | top => exact trivial
  | v y => obtain ⟨rfl, h⟩ := h; obtain rfl : j = 0 := by omega
           exact h
  | tp n f => obtain ⟨rfl, h⟩ := h; obtain rfl : j = 0 := by omega
              exact h
  | sl t k n f => obtain ⟨rfl, h⟩ := h; obtain rfl : j = 0 := by omega
                  exact h
  | pt y o => obtain ⟨rfl, h⟩ := h; obtain rfl : j = 0 := by omega
              exact h
  | fn g n m f c => obtain ⟨rfl, h⟩ := h; obtain rfl : j = 0 := by omega
                    exact h
  | mp kt m => obtain ⟨rfl, h⟩ := h; obtain rfl : j = 0 := by omega
               exact h
theorem cell_at {W : World} {b : Nat} {c : Array Value} {T : TypeId} {fz : Nat × Nat} (h : W.heap[b]? = some (Obj.cells c T fz)) {o : Nat} (ho : o < c.size) : W.cell? ⟨b, o, none⟩ = some (c.getD o undef) := by
  simp only [World.cell?, h, Option.isSome_none, Bool.false_eq_true, if_false]
  rw [Array.getD_eq_getD_getElem?, Array.getElem?_eq_getElem ho]; rfl
/-- What a load of a pointer into data gives: one cell, where the data are no aggregate. -/
theorem mem_one {S : Nat → Prop} {W : World} {x : DV} {b o : Nat} (h : RepM S W x b o) (hx : ∀ n f, x ≠ .ag n f) (ht : x ≠ .top) : one S W (Rep S W x) b o := by
  cases x with
  | ag n f => exact absurd rfl (hx n f)
  | top => exact absurd rfl ht
  | _ => exact h
theorem load_sound {P : Program} {T : Nat → Option TI} (hT : TsOk P T) {B : Base} {Fr : Nat → Prop} {E : Env} {st : St} {a : Act} {W : World} (hs : Sat B Fr E st a W) {t : Nat} {ti : TI} (ht : T t = some ti) {ad : AV} {u : Value} (hu : RepA E W ad u)
    {c : Prop} {x : AV} (h : loadV ti st.hp ad = some (c, x)) (hc : c) : ∃ v, (Instr.loadAt t u).run P W = .ok v W ∧ RepA E W x v := by
  have hk := hT t ti ht
  have fin : ∀ {b o : Nat} {v : Value}, u = .pointer (some ⟨b, o, none⟩) → (loadVar t ⟨b, o, none⟩).run P W = .ok v W → RepA E W x v → ∃ v, (Instr.loadAt t u).run P W = .ok v W ∧ RepA E W x v := by
    intro b o v hu' hl hx
    exact ⟨v, by rw [hu']; simp only [Instr.loadAt, Instr.sureAddr, Sem.run_bind, Sem.run_pure, Result.andThen_ok, hl], hx⟩
  unfold loadV at h
  split at h
  · rename_i id off
    obtain ⟨b, hb, hu'⟩ := hu
    split at h
    · rename_i mt n f hid
      obtain ⟨b', cc, T', hb', hh, hsz, _, hcells⟩ := hs.hp id _ hid
      rw [hb] at hb'; cases hb'
      cases hg : ti.agg with
      | true =>
        rw [hg] at h
        simp only [cond_true, Option.some.injEq, Prod.mk.injEq] at h
        obtain ⟨rfl, rfl⟩ := h
        refine fin hu' (loadVar_agg hk hg (fun j => cc.getD (off + j) undef) fun j hj => cell_at hh (by omega)) ⟨_, rfl, by simp, fun j hj => ?_⟩
        rw [getD_map_range _ _ _ hj]
        have := hcells (j + off) (by omega)
        rw [show off + j = j + off from Nat.add_comm _ _]
        exact this
      | false =>
        rw [hg] at h
        simp only [cond_false, Option.some.injEq, Prod.mk.injEq] at h
        obtain ⟨rfl, rfl⟩ := h
        exact fin hu' (loadVar_one hk hg (cell_at hh (by omega))) (hcells off hc).1
    · cases h
  · rename_i id k i off
    obtain ⟨b, hb, hu'⟩ := hu
    split at h
    · rename_i mt T' k' n f hid
      cases hkk : Nat.beq k k' with
      | false => rw [hkk] at h; cases h
      | true =>
        rw [hkk] at h
        simp only [cond_true] at h
        obtain rfl := Nat.eq_of_beq_eq_true hkk
        rcases hs.hp id _ hid with ⟨hnil, hn0⟩ | ⟨b', cc, hb', hh, hsz, _, hcells⟩
        · rw [hb] at hnil; cases hnil
        · rw [hb] at hb'; cases hb'
          have hbig : ∀ i', i' < n → ∀ o', o' < k → i' * k + o' < cc.size := fun i' hi' o' ho' => by
            have : (i' + 1) * k ≤ n * k := Nat.mul_le_mul_right k hi'
            rw [Nat.add_mul] at this; omega
          cases hg : ti.agg with
          | true =>
            rw [hg] at h
            simp only [cond_true] at h
            cases hle : Nat.ble (off + ti.size) k with
            | true =>
              rw [hle] at h
              simp only [cond_true, Option.some.injEq, Prod.mk.injEq] at h
              obtain ⟨rfl, rfl⟩ := h
              have hle' := Nat.le_of_ble_eq_true hle
              refine fin hu' (loadVar_agg hk hg (fun j => cc.getD (i * k + off + j) undef) fun j hj => cell_at hh (by have := hbig i hc (off + j) (by omega); omega)) ⟨_, rfl, by simp, fun j hj => ?_⟩
              rw [getD_map_range _ _ _ hj]
              have h1 := cellD_of (hcells i hc).1 (j := j + off) (by omega)
              have h2 := (hcells i hc).2 (j + off) (by omega)
              rw [show i * k + (j + off) = i * k + off + j from by omega] at h1 h2
              exact ⟨h1, h2⟩
            | false =>
              rw [hle] at h
              simp only [cond_false] at h
              cases h1 : (Nat.beq k 1 && Nat.beq off 0) with
              | false => rw [h1] at h; cases h
              | true =>
                rw [h1] at h
                simp only [cond_true, Option.some.injEq, Prod.mk.injEq] at h
                obtain ⟨rfl, rfl⟩ := h
                rw [Bool.and_eq_true] at h1
                obtain rfl := Nat.eq_of_beq_eq_true h1.1
                obtain rfl := Nat.eq_of_beq_eq_true h1.2
                refine fin hu' (loadVar_agg hk hg (fun j => cc.getD (i * 1 + 0 + j) undef) fun j hj => cell_at hh (by omega)) ⟨_, rfl, by simp, fun j hj => ?_⟩
                rw [getD_map_range _ _ _ hj]
                have h1 := cellD_of (hcells (j + i) (by omega)).1 (j := 0) (by omega)
                have h2 := (hcells (j + i) (by omega)).2 0 (by omega)
                rw [show (j + i) * 1 + 0 = i * 1 + 0 + j from by omega] at h1 h2
                exact ⟨h1, h2⟩
          | false =>
            rw [hg] at h
            simp only [cond_false] at h
            cases hk4 : Nat.blt k 4 with
            | true =>
              rw [hk4] at h
              simp only [cond_true] at h
              cases hlt : Nat.blt off k with
              | false => rw [hlt] at h; cases h
              | true =>
                rw [hlt] at h
                simp only [cond_true, Option.some.injEq, Prod.mk.injEq] at h
                obtain ⟨rfl, rfl⟩ := h
                exact fin hu' (loadVar_one hk hg (cell_at hh (hbig i hc off (blt_iff.1 hlt)))) (cellD_of (hcells i hc).1 (blt_iff.1 hlt))
            | false =>
              rw [hk4] at h
              simp only [cond_false, Option.some.injEq, Prod.mk.injEq] at h
              obtain ⟨rfl, rfl⟩ := h
              exact fin hu' (loadVar_one hk hg (cell_at hh (hbig i hc.1 off hc.2))) (cellD_of (hcells i hc.1).1 hc.2)
    · cases h
  · rename_i x' o
    obtain ⟨b, p, hu', hm⟩ := hu
    split at h
    · rename_i n f
      cases hg : ti.agg with
      | true =>
        rw [hg] at h
        simp only [cond_true, Option.some.injEq, Prod.mk.injEq] at h
        obtain ⟨rfl, rfl⟩ := h
        have hall : ∀ j, j < ti.size → ∃ u, W.cell? ⟨b, p + o + j, none⟩ = some u ∧ Rep E.S W (f (j + o)) u ∧ u.oneCell' = true := fun j hj => by
          obtain ⟨_, u, h1, h2, h3⟩ := hm (j + o) (by omega)
          exact ⟨u, by rw [show p + o + j = p + (j + o) from by omega]; exact h1, h2, h3⟩
        have hg' : ∀ j, j < ti.size → W.cell? ⟨b, p + o + j, none⟩ = some ((W.cell? ⟨b, p + o + j, none⟩).getD undef) := fun j hj => by
          obtain ⟨u, h1, _⟩ := hall j hj; rw [h1]; rfl
        refine fin hu' (loadVar_agg hk hg _ hg') ⟨_, rfl, by simp, fun j hj => ?_⟩
        rw [getD_map_range _ _ _ hj]
        obtain ⟨u, h1, h2, h3⟩ := hall j hj
        rw [h1]; exact ⟨h2, h3⟩
      | false =>
        rw [hg] at h
        simp only [cond_false, Option.some.injEq, Prod.mk.injEq] at h
        obtain ⟨rfl, rfl⟩ := h
        obtain ⟨_, u, h1, h2, _⟩ := hm o hc
        exact fin hu' (loadVar_one hk hg h1) h2
    · cases h
    · rename_i hx ht'
      obtain ⟨_, u, h1, h2, h3⟩ := mem_one (x := x') hm (fun n f e => hx n f e) ht'
      cases hg : ti.agg with
      | true =>
        rw [hg] at h
        simp only [cond_true, Option.some.injEq, Prod.mk.injEq] at h
        obtain ⟨rfl, rfl⟩ := h
        obtain ⟨rfl, hs1⟩ := hc
        refine fin hu' (loadVar_agg hk hg (fun _ => u) fun j hj => by rw [hs1] at hj; obtain rfl : j = 0 := by omega
                                                                      exact h1) ⟨_, rfl, by simp [hs1], fun j hj => ?_⟩
        rw [getD_map_range _ _ _ (by omega)]
        exact ⟨h2, h3⟩
      | false =>
        rw [hg] at h
        simp only [cond_false, Option.some.injEq, Prod.mk.injEq] at h
        obtain ⟨rfl, rfl⟩ := h
        subst hc
        exact fin hu' (loadVar_one hk hg h1) h2
  · cases h
/-- A memory set. -/
noncomputable def St.set (st : St) (id : Nat) (r : Option Res) : St := St.rec (motive := fun _ => St) (fun n nx tm hp gh => ⟨n, nx, tm, fun j => bif Nat.beq j id then r else hp j, gh⟩) st
def Env.set (E : Env) (id : Nat) (l : Loc) : Env := { E with ρ := fun j => bif Nat.beq j id then l else E.ρ j }
theorem beq_self (i : Nat) : Nat.beq i i = true := Nat.beq_refl i
theorem beq_ne {i j : Nat} (h : i ≠ j) : Nat.beq i j = false := by
  cases hb : Nat.beq i j with
  | false => rfl
  | true => exact absurd (Nat.eq_of_beq_eq_true hb) h
/-- A memory forgotten. -/
theorem Sat.drop {B : Base} {Fr : Nat → Prop} {E : Env} {st : St} {a : Act} {W : World} (h : Sat B Fr E st a W) (id : Nat) : Sat B Fr E (st.set id none) a W := by
  have hne : ∀ i, (st.set id none).hp i ≠ none → st.hp i ≠ none ∧ i ≠ id := by
    intro i hi
    by_cases e : i = id
    · subst e; exact absurd (show (bif Nat.beq i i then none else st.hp i) = none by rw [beq_self]; rfl) hi
    · exact ⟨by have : (bif Nat.beq i id then none else st.hp i) ≠ none := hi; rw [beq_ne e] at this; exact this, e⟩
  refine ⟨h.size, h.tm, fun i r hi => ?_, fun i j b hi hj h1 h2 => h.dist i j b (hne i hi).1 (hne j hj).1 h1 h2, h.fr, h.sub, h.sup, h.s0, h.df, h.dn, h.dd, h.g, h.r0⟩
  have hi' : (bif Nat.beq i id then none else st.hp i) = some r := hi
  by_cases e : i = id
  · subst e; rw [beq_self] at hi'; cases hi'
  · rw [beq_ne e] at hi'; exact h.hp i r hi'
theorem Ev.set {E : Env} {W : World} {id : Nat} {l : Loc} (h : E.ρ id = .un) : Ev E W (E.set id l) W :=
  ⟨fun _ h => h, fun _ _ => rfl, fun i hi => by
    have : i ≠ id := fun e => hi (e ▸ h)
    show (bif Nat.beq i id then l else E.ρ i) = E.ρ i
    rw [beq_ne this]; rfl, fun _ c _ h => ⟨c, h, rfl⟩⟩
/-- A new block under a new name. -/
theorem Sat.newO {B : Base} {Fr : Nat → Prop} {E : Env} {st : St} {a : Act} {W : World} (h : Sat B Fr E st a W) {id : Nat} (hf : Fr id) {o : Obj} {r : Res}
    (hr : SatR B (E.set id (.at W.heap.size)) (W.alloc o) id r) :
    Sat B (fun j => Fr j ∧ j ≠ id) (E.set id (.at W.heap.size)) (st.set id (some r)) a (W.alloc o) := by
  have hun := h.fr id hf
  have hbel : Below W.heap.size W (W.alloc o) := (Below.refl _ W).alloc (Nat.le_refl _) _
  have hev : Ev E W (E.set id (.at W.heap.size)) (W.alloc o) :=
    ⟨fun _ h => h, fun b hb => hbel.block b (h.S_lt b hb), (Ev.set (W := W) hun).r, fun b cc _ hcc => ⟨cc, (hbel.block b (Array.getElem?_eq_some_iff.1 hcc).1).trans hcc, rfl⟩⟩
  have hne : ∀ i, i ≠ id → (E.set id (.at W.heap.size)).ρ i = E.ρ i := fun i e => by show (bif Nat.beq i id then _ else _) = _; rw [beq_ne e]; rfl
  have hid : (E.set id (.at W.heap.size)).ρ id = .at W.heap.size := by show (bif Nat.beq id id then _ else _) = _; rw [beq_self]; rfl
  have hh : ∀ i, i ≠ id → (st.set id (some r)).hp i = st.hp i := fun i e => by show (bif Nat.beq i id then _ else _) = _; rw [beq_ne e]; rfl
  refine ⟨h.size, fun i hi => (h.tm i hi).ev hev, fun i r' hi => ?_, fun i j b hi hj h1 h2 => ?_, fun j hj => ?_, h.sub, fun b hb => (h.sup b hb).imp (fun x => x) fun x => ⟨x.1, Nat.lt_of_lt_of_le x.2 hbel.size⟩, fun b hb => ⟨(h.s0 b hb).1, Nat.lt_of_lt_of_le (h.s0 b hb).2 hbel.size⟩, h.df, h.dn, fun D hD => ?_, B.hG _ _ h.g (.of_below hbel), hev.r0 h.r0⟩
  · by_cases e : i = id
    · subst e
      have : (st.set i (some r)).hp i = some r := by show (bif Nat.beq i i then _ else _) = _; rw [beq_self]; rfl
      rw [this] at hi; cases hi; exact hr
    · rw [hh i e] at hi
      exact (h.hp i r' hi).ev hev (fun b hb => hbel.block b (h.at_lt (by rw [hi]; simp) hb)) (fun b hb _ hn => hn)
  · by_cases ei : i = id <;> by_cases ej : j = id
    · rw [ei, ej]
    · subst ei
      rw [hid] at h1; cases h1
      rw [hne j ej] at h2
      rw [hh j ej] at hj
      exact absurd (h.at_lt hj h2) (Nat.lt_irrefl _)
    · subst ej
      rw [hid] at h2; cases h2
      rw [hne i ei] at h1
      rw [hh i ei] at hi
      exact absurd (h.at_lt hi h1) (Nat.lt_irrefl _)
    · rw [hne i ei] at h1; rw [hne j ej] at h2; rw [hh i ei] at hi; rw [hh j ej] at hj
      exact h.dist i j b hi hj h1 h2
  · rw [hne j hj.2]; exact h.fr j hj.1
  · obtain ⟨h1, h2, h3⟩ := h.dd D hD
    exact ⟨h1, h2, (hbel.block D (Array.getElem?_eq_some_iff.1 h3).1).trans h3⟩
theorem Sat.new {B : Base} {Fr : Nat → Prop} {E : Env} {st : St} {a : Act} {W : World} (h : Sat B Fr E st a W) {id : Nat} (hf : Fr id) {c : Array Value} {T : TypeId} {r : Res}
    (hr : SatR B (E.set id (.at W.heap.size)) (W.alloc (.cells c T (0, 0))) id r) :
    Sat B (fun j => Fr j ∧ j ≠ id) (E.set id (.at W.heap.size)) (st.set id (some r)) a (W.alloc (.cells c T (0, 0))) := h.newO hf hr
/-- A nil slice under a new name. -/
theorem Sat.newNil {B : Base} {Fr : Nat → Prop} {E : Env} {st : St} {a : Act} {W : World} (h : Sat B Fr E st a W) {id : Nat} (hf : Fr id) {T k : Nat} {f : Nat → DV} :
    Sat B (fun j => Fr j ∧ j ≠ id) (E.set id .nil) (st.set id (some (.row true T k 0 f))) a W := by
  have hun := h.fr id hf
  have hev : Ev E W (E.set id .nil) W := Ev.set hun
  have hne : ∀ i, i ≠ id → (E.set id .nil).ρ i = E.ρ i := fun i e => by show (bif Nat.beq i id then _ else _) = _; rw [beq_ne e]; rfl
  have hid : (E.set id .nil).ρ id = .nil := by show (bif Nat.beq id id then _ else _) = _; rw [beq_self]; rfl
  have hh : ∀ i, i ≠ id → (st.set id (some (.row true T k 0 f))).hp i = st.hp i := fun i e => by show (bif Nat.beq i id then _ else _) = _; rw [beq_ne e]; rfl
  refine ⟨h.size, fun i hi => (h.tm i hi).ev hev, fun i r' hi => ?_, fun i j b hi hj h1 h2 => ?_, fun j hj => ?_, h.sub, h.sup, h.s0, h.df, h.dn, h.dd, h.g, hev.r0 h.r0⟩
  · by_cases e : i = id
    · subst e
      have : (st.set i (some (.row true T k 0 f))).hp i = some (.row true T k 0 f) := by show (bif Nat.beq i i then _ else _) = _; rw [beq_self]; rfl
      rw [this] at hi; cases hi; exact .inl ⟨hid, rfl⟩
    · rw [hh i e] at hi
      exact (h.hp i r' hi).ev hev (fun _ _ => rfl) (fun _ _ _ hn => hn)
  · have hi' : i ≠ id := fun e => by subst e; rw [hid] at h1; cases h1
    have hj' : j ≠ id := fun e => by subst e; rw [hid] at h2; cases h2
    rw [hne i hi'] at h1; rw [hne j hj'] at h2; rw [hh i hi'] at hi; rw [hh j hj'] at hj
    exact h.dist i j b hi hj h1 h2
  · rw [hne j hj.2]; exact h.fr j hj.1
/-- A block of one's own written. -/
theorem Sat.write {B : Base} {Fr : Nat → Prop} {E : Env} {st : St} {a : Act} {W : World} (h : Sat B Fr E st a W) {id b : Nat} {c c' : Array Value} {T : TypeId} {r : Res} (hne0 : st.hp id ≠ none) (hb : E.ρ id = .at b)
    (hc : W.heap[b]? = some (Obj.cells c T (0, 0))) (hown : ¬ E.S b ∧ B.ow b) (hs : c'.size = c.size) (hr : SatR B E (W.setRow b c') id r) : Sat B Fr E (st.set id (some r)) a (W.setRow b c') := by
  have hset : (W.setRow b c').heap[b]? = some (Obj.cells c' T (0, 0)) := setRow_heap W b c _ T _ hc
  have hoth : ∀ k, k ≠ b → (W.setRow b c').heap[k]? = W.heap[k]? := fun k hk => setRow_other W b k _ hk
  have hsz : (W.setRow b c').heap.size = W.heap.size := by simp [World.setRow]
  have hev : Ev E W E (W.setRow b c') :=
    ⟨fun _ h => h, fun k hk => hoth k (fun e => hown.1 (e ▸ hk)), fun _ _ => rfl, fun k cc T' hcc => by
      by_cases e : k = b
      · subst e; rw [hc] at hcc; cases hcc; exact ⟨c', hset, hs⟩
      · exact ⟨cc, (hoth k e).trans hcc, rfl⟩⟩
  have hh : ∀ i, i ≠ id → (st.set id (some r)).hp i = st.hp i := fun i e => by show (bif Nat.beq i id then _ else _) = _; rw [beq_ne e]; rfl
  have hlive : ∀ i, (st.set id (some r)).hp i ≠ none → st.hp i ≠ none := fun i hi => by
    by_cases e : i = id
    · rw [e]; exact hne0
    · rw [hh i e] at hi; exact hi
  have hst : Stp B.ow W (W.setRow b c') := by
    exact ⟨rfl, rfl, rfl, by rw [hsz]; exact Nat.le_refl _, fun k _ hk => hoth k fun e => hk (e ▸ hown.2), hev.sh⟩
  refine ⟨h.size, fun i hi => (h.tm i hi).ev hev, fun i r' hi => ?_, fun i j k hi hj h1 h2 => h.dist i j k (hlive i hi) (hlive j hj) h1 h2, h.fr, h.sub, fun k hk => by rw [hsz]; exact h.sup k hk, fun k hk => by rw [hsz]; exact h.s0 k hk, h.df, h.dn, fun D hD => ?_, B.hG _ _ h.g hst, h.r0⟩
  · by_cases e : i = id
    · subst e
      have : (st.set i (some r)).hp i = some r := by show (bif Nat.beq i i then _ else _) = _; rw [beq_self]; rfl
      rw [this] at hi; cases hi; exact hr
    · have hi2 := hi
      rw [hh i e] at hi
      refine (h.hp i r' hi).ev hev (fun k hk => hoth k fun ek => ?_) (fun _ _ _ hn => hn)
      subst ek
      exact e (h.dist i id k (by rw [hi]; simp) hne0 hk hb)
  · obtain ⟨h1, h2, h3⟩ := h.dd D hD
    refine ⟨h1, h2, (hoth D fun e => ?_).trans h3⟩
    subst e
    rw [hc] at h3; cases h3
/-- A block of one's own, of no variables, written. -/
theorem Sat.writeO {B : Base} {Fr : Nat → Prop} {E : Env} {st : St} {a : Act} {W : World} (h : Sat B Fr E st a W) {id b : Nat} {o o' : Obj} {r : Res} (hne0 : st.hp id ≠ none) (hb : E.ρ id = .at b)
    (hc : W.heap[b]? = some o) (hnc : ∀ c T, o ≠ .cells c T (0, 0)) (hnd : ∀ ds, o ≠ .deferred ds) (hown : ¬ E.S b ∧ B.ow b) (hr : SatR B E (W.putObj b o') id r) : Sat B Fr E (st.set id (some r)) a (W.putObj b o') := by
  have hlt : b < W.heap.size := (Array.getElem?_eq_some_iff.1 hc).1
  have hoth : ∀ k, k ≠ b → (W.putObj b o').heap[k]? = W.heap[k]? := fun k hk => World.putObj_heap_other hk
  have hsz : (W.putObj b o').heap.size = W.heap.size := World.putObj_size
  have hev : Ev E W E (W.putObj b o') :=
    ⟨fun _ h => h, fun k hk => hoth k (fun e => hown.1 (e ▸ hk)), fun _ _ => rfl, fun k cc T' hcc => by
      by_cases e : k = b
      · subst e; rw [hc] at hcc; cases hcc; exact absurd rfl (hnc _ _)
      · exact ⟨cc, (hoth k e).trans hcc, rfl⟩⟩
  have hh : ∀ i, i ≠ id → (st.set id (some r)).hp i = st.hp i := fun i e => by show (bif Nat.beq i id then _ else _) = _; rw [beq_ne e]; rfl
  have hlive : ∀ i, (st.set id (some r)).hp i ≠ none → st.hp i ≠ none := fun i hi => by
    by_cases e : i = id
    · rw [e]; exact hne0
    · rw [hh i e] at hi; exact hi
  have hst : Stp B.ow W (W.putObj b o') := ⟨rfl, rfl, rfl, by rw [hsz]; exact Nat.le_refl _, fun k _ hk => hoth k fun e => hk (e ▸ hown.2), hev.sh⟩
  refine ⟨h.size, fun i hi => (h.tm i hi).ev hev, fun i r' hi => ?_, fun i j k hi hj h1 h2 => h.dist i j k (hlive i hi) (hlive j hj) h1 h2, h.fr, h.sub, fun k hk => by rw [hsz]; exact h.sup k hk, fun k hk => by rw [hsz]; exact h.s0 k hk, h.df, h.dn, fun D hD => ?_, B.hG _ _ h.g hst, h.r0⟩
  · by_cases e : i = id
    · subst e
      have : (st.set i (some r)).hp i = some r := by show (bif Nat.beq i i then _ else _) = _; rw [beq_self]; rfl
      rw [this] at hi; cases hi; exact hr
    · have hi2 := hi
      rw [hh i e] at hi
      refine (h.hp i r' hi).ev hev (fun k hk => hoth k fun ek => ?_) (fun _ _ _ hn => hn)
      subst ek
      exact e (h.dist i id k (by rw [hi]; simp) hne0 hk hb)
  · obtain ⟨h1, h2, h3⟩ := h.dd D hD
    refine ⟨h1, h2, (hoth D fun e => ?_).trans h3⟩
    subst e
    rw [hc] at h3; cases h3; exact hnd _ rfl
end Go.Px

/-! PxI -/
noncomputable section
namespace Go.Px
open Go Go.RowKit
theorem SatR.name {B : Base} {E E' : Env} {W : World} {i j : Nat} {r : Res} (hev : Ev E W E' W) (hS : ∀ b, E'.S b → E.S b) (hl : E'.ρ j = E.ρ i) (h : SatR B E W i r) : SatR B E' W j r := by
  have ho : ∀ mt b, Own B E mt b → Own B E' mt b := by
    intro mt b ho
    unfold Own at *
    cases mt with
    | true => exact ⟨fun hx => ho.1 (hS b hx), ho.2⟩
    | false => exact hev.s b ho
  cases r with
  | cs mt n f =>
    obtain ⟨b, c, T, h1, h2, h3, h4, h5⟩ := h
    exact ⟨b, c, T, hl.trans h1, h2, h3, ho _ _ h4, fun j hj => ⟨(h5 j hj).1.ev hev, (h5 j hj).2⟩⟩
  | row mt T k n f =>
    rcases h with ⟨h1, h2⟩ | ⟨b, c, h1, h2, h3, h4, h5⟩
    · exact .inl ⟨hl.trans h1, h2⟩
    · exact .inr ⟨b, c, hl.trans h1, h2, h3, ho _ _ h4, fun i hi => ⟨(h5 i hi).1.ev hev, (h5 i hi).2⟩⟩
  | mp mt kt m =>
    obtain ⟨b, es, c, h1, h2, h4, h5⟩ := h
    exact ⟨b, es, c, hl.trans h1, h2, ho _ _ h4, h5⟩
  | me mt kt m l born =>
    obtain ⟨b, es, c, h1, h2, h4, h5, h6, e, h7, h8, h9⟩ := h
    exact ⟨b, es, c, hl.trans h1, h2, ho _ _ h4, h5, h6, e, h7, h8, (hev.r _ (by rw [h9]; simp)).trans h9⟩
  | it mt kt m seen cur =>
    obtain ⟨b, r, es, c, sn, h1, h2, h4, h5, h6⟩ := h
    exact ⟨b, r, es, c, sn, hl.trans h1, h2, ho _ _ h4, hev.s r h5, h6⟩
/-- A memory under a new name. -/
theorem Sat.move {B : Base} {Fr : Nat → Prop} {E : Env} {st : St} {a : Act} {W : World} (h : Sat B Fr E st a W) {id i : Nat} {r : Res} (hid : st.hp id = some r) (hf : Fr i) (hun : E.ρ id ≠ .un) :
    Sat B (fun j => Fr j ∧ j ≠ i) (E.set i (E.ρ id)) ((st.set id none).set i (some r)) a W := by
  have hu := h.fr i hf
  have hne0 : id ≠ i := fun e => hun (e ▸ hu)
  have hev : Ev E W (E.set i (E.ρ id)) W := Ev.set hu
  have hr : ∀ j, j ≠ i → (E.set i (E.ρ id)).ρ j = E.ρ j := fun j e => by show (bif Nat.beq j i then _ else _) = _; rw [beq_ne e]; rfl
  have hi : (E.set i (E.ρ id)).ρ i = E.ρ id := by show (bif Nat.beq i i then _ else _) = _; rw [beq_self]; rfl
  have hpi : ((st.set id none).set i (some r)).hp i = some r := by show (bif Nat.beq i i then _ else _) = _; rw [beq_self]; rfl
  have hpo : ∀ j, j ≠ i → ((st.set id none).set i (some r)).hp j = (st.set id none).hp j := fun j e => by show (bif Nat.beq j i then _ else _) = _; rw [beq_ne e]; rfl
  have hpd : ∀ j, j ≠ i → ((st.set id none).set i (some r)).hp j ≠ none → st.hp j ≠ none ∧ j ≠ id ∧ ((st.set id none).set i (some r)).hp j = st.hp j := by
    intro j e hj
    rw [hpo j e] at hj ⊢
    by_cases e2 : j = id
    · subst e2; exact absurd (show (bif Nat.beq j j then none else st.hp j) = none by rw [beq_self]; rfl) hj
    · have e3 : (st.set id none).hp j = st.hp j := by show (bif Nat.beq j id then none else st.hp j) = _; rw [beq_ne e2]; rfl
      exact ⟨e3 ▸ hj, e2, e3⟩
  refine ⟨h.size, fun j hj => (h.tm j hj).ev hev, fun j r' hj => ?_, fun j k b hj hk h1 h2 => ?_, fun j hj => ?_, h.sub, h.sup, h.s0, h.df, h.dn, h.dd, h.g, hev.r0 h.r0⟩
  · by_cases e : j = i
    · subst e; rw [hpi] at hj; cases hj; exact (h.hp id r hid).name hev (fun _ h => h) hi
    · obtain ⟨_, _, e3⟩ := hpd j e (by rw [hj]; simp)
      rw [e3] at hj
      exact (h.hp j r' hj).name hev (fun _ h => h) (hr j e)
  · by_cases ej : j = i <;> by_cases ek : k = i
    · rw [ej, ek]
    · subst ej
      obtain ⟨n1, n2, _⟩ := hpd k ek hk
      rw [hi] at h1; rw [hr k ek] at h2
      exact absurd (h.dist k id b n1 (by rw [hid]; simp) h2 h1) n2
    · subst ek
      obtain ⟨n1, n2, _⟩ := hpd j ej hj
      rw [hi] at h2; rw [hr j ej] at h1
      exact absurd (h.dist j id b n1 (by rw [hid]; simp) h1 h2) n2
    · rw [hr j ej] at h1; rw [hr k ek] at h2
      exact h.dist j k b (hpd j ej hj).1 (hpd k ek hk).1 h1 h2
  · rw [hr j hj.2]; exact h.fr j hj.1
def Res.imm : Res → Res
  | .cs _ n f => .cs false n f
  | .row _ T k n f => .row false T k n f
  | .mp _ kt m => .mp false kt m
  | .it _ kt m seen cur => .it false kt m seen cur
  | .me _ kt m l born => .me false kt m l born
def Env.frz (E : Env) (id : Nat) : Env := { E with S := fun b => E.S b ∨ E.ρ id = .at b }
/-- Memory: cells, a map, an iterator over one. -/
def isMem : Obj → Bool
  | .cells .. => true
  | .map .. => true
  | .mapIter .. => true
  | _ => false
theorem at_not_deferred {B : Base} {E : Env} {W : World} {id b : Nat} {r : Res} (h : SatR B E W id r) (hb : E.ρ id = .at b) : ∃ o, W.heap[b]? = some o ∧ isMem o = true := by
  cases r with
  | cs mt n f => obtain ⟨b', c, T, h1, h2, _⟩ := h; rw [hb] at h1; cases h1; exact ⟨_, h2, rfl⟩
  | row mt T k n f =>
    rcases h with ⟨h1, _⟩ | ⟨b', c, h1, h2, _⟩
    · rw [hb] at h1; cases h1
    · rw [hb] at h1; cases h1; exact ⟨_, h2, rfl⟩
  | mp mt kt m => obtain ⟨b', es, c, h1, h2, _⟩ := h; rw [hb] at h1; cases h1; exact ⟨_, h2, rfl⟩
  | it mt kt m seen cur => obtain ⟨b', r, es, c, sn, h1, h2, _⟩ := h; rw [hb] at h1; cases h1; exact ⟨_, h2, rfl⟩
  | me mt kt m l born => obtain ⟨b', es, c, h1, h2, _⟩ := h; rw [hb] at h1; cases h1; exact ⟨_, h2, rfl⟩
theorem at_own {B : Base} {E : Env} {W : World} {id b : Nat} {r : Res} (h : SatR B E W id r) (hb : E.ρ id = .at b) : ∃ mt, Own B E mt b := by
  cases r with
  | cs mt n f => obtain ⟨b', c, T, h1, h2, _, h4, _⟩ := h; rw [hb] at h1; cases h1; exact ⟨mt, h4⟩
  | row mt T k n f =>
    rcases h with ⟨h1, _⟩ | ⟨b', c, h1, h2, _, h4, _⟩
    · rw [hb] at h1; cases h1
    · rw [hb] at h1; cases h1; exact ⟨mt, h4⟩
  | mp mt kt m => obtain ⟨b', es, c, h1, h2, h4, _⟩ := h; rw [hb] at h1; cases h1; exact ⟨mt, h4⟩
  | it mt kt m seen cur => obtain ⟨b', r, es, c, sn, h1, h2, h4, _⟩ := h; rw [hb] at h1; cases h1; exact ⟨mt, h4⟩
  | me mt kt m l born => obtain ⟨b', es, c, h1, h2, h4, _⟩ := h; rw [hb] at h1; cases h1; exact ⟨mt, h4⟩
/-- A memory given up: others may read it, no one writes it any more. (It must be new: not a caller's.) -/
theorem Sat.frz {B : Base} {Fr : Nat → Prop} {E : Env} {st : St} {a : Act} {W : World} (h : Sat B Fr E st a W) {id : Nat} {r : Res} (hid : st.hp id = some r) :
    Sat B Fr (E.frz id) (st.set id (some r.imm)) a W := by
  have hev : Ev E W (E.frz id) W := ⟨fun _ h => .inl h, fun _ _ => rfl, fun _ _ => rfl, fun _ c _ h => ⟨c, h, rfl⟩⟩
  have hh : ∀ i, i ≠ id → (st.set id (some r.imm)).hp i = st.hp i := fun i e => by show (bif Nat.beq i id then _ else _) = _; rw [beq_ne e]; rfl
  have hi : (st.set id (some r.imm)).hp id = some r.imm := by show (bif Nat.beq id id then _ else _) = _; rw [beq_self]; rfl
  have hlive : ∀ i, (st.set id (some r.imm)).hp i ≠ none → st.hp i ≠ none := fun i hi => by
    by_cases e : i = id
    · rw [e, hid]; simp
    · rw [hh i e] at hi; exact hi
  refine ⟨h.size, fun j hj => (h.tm j hj).ev hev, fun j r' hj => ?_, fun j k b hj hk h1 h2 => h.dist j k b (hlive j hj) (hlive k hk) h1 h2, h.fr, fun b hb => .inl (h.sub b hb), fun b hb => ?_, h.s0, h.df, h.dn, fun D hD => ?_, h.g, h.r0⟩
  · by_cases e : j = id
    · subst e
      rw [hi] at hj; cases hj
      have := h.hp j r hid
      cases r with
      | cs mt n f =>
        obtain ⟨b, c, T, h1, h2, h3, h4, h5⟩ := this
        exact ⟨b, c, T, h1, h2, h3, .inr h1, fun j hj => ⟨(h5 j hj).1.ev hev, (h5 j hj).2⟩⟩
      | row mt T k n f =>
        rcases this with ⟨h1, h2⟩ | ⟨b, c, h1, h2, h3, h4, h5⟩
        · exact .inl ⟨h1, h2⟩
        · exact .inr ⟨b, c, h1, h2, h3, .inr h1, fun i hi => ⟨(h5 i hi).1.ev hev, (h5 i hi).2⟩⟩
      | mp mt kt m =>
        obtain ⟨b, es, c, h1, h2, h4, h5⟩ := this
        exact ⟨b, es, c, h1, h2, .inr h1, h5⟩
      | me mt kt m l born =>
        obtain ⟨b, es, c, h1, h2, h4, h5⟩ := this
        exact ⟨b, es, c, h1, h2, .inr h1, h5⟩
      | it mt kt m seen cur =>
        obtain ⟨b, r, es, c, sn, h1, h2, h4, h5, h6⟩ := this
        exact ⟨b, r, es, c, sn, h1, h2, .inr h1, .inl h5, h6⟩
    · rw [hh j e] at hj
      refine (h.hp j r' hj).ev hev (fun _ _ => rfl) fun b hb _ hn hS => ?_
      rcases hS with h1 | h1
      · exact hn h1
      · exact e (h.dist j id b (by rw [hj]; simp) (by rw [hid]; simp) hb h1)
  · rcases hb with h1 | h1
    · exact h.sup b h1
    · obtain ⟨mt, ho⟩ := at_own (h.hp id r hid) h1
      have hlt := h.at_lt (by rw [hid]; simp) h1
      cases mt with
      | true => exact .inr ⟨ho.2, hlt⟩
      | false => exact h.sup b ho
  · obtain ⟨h1, h2, h3⟩ := h.dd D hD
    refine ⟨h1, fun hS => ?_, h3⟩
    rcases hS with h4 | h4
    · exact h2 h4
    · obtain ⟨o, h5, h6⟩ := at_not_deferred (h.hp id r hid) h4
      rw [h3] at h5; cases h5; cases h6
def St.frz (st : St) (id : Nat) : St := match st.hp id with | some r => st.set id (some r.imm) | none => st
def St.frzs (st : St) : List Nat → St
  | [] => st
  | id :: l => (st.frz id).frzs l
def AllN : Nat → (Nat → Prop) → Prop
  | 0, _ => True
  | n + 1, p => AllN n p ∧ p n
theorem allN_iff {n : Nat} {p : Nat → Prop} : AllN n p ↔ ∀ j, j < n → p j := by
  induction n with
  | zero => simp [AllN]
  | succ n ih =>
    simp only [AllN, ih]
    constructor
    · intro h j hj
      rcases Nat.lt_succ_iff_lt_or_eq.1 hj with h1 | h1
      · exact h.1 j h1
      · exact h1 ▸ h.2
    · exact fun h => ⟨fun j hj => h j (by omega), h n (by omega)⟩
/-- A function cut off behind n. -/
def clp (n : Nat) (f : Nat → DV) : Nat → DV := fun j => bif Nat.blt j n then f j else .top
theorem clp_lt {n j : Nat} {f : Nat → DV} (h : j < n) : clp n f j = f j := by unfold clp; rw [blt_iff.2 h]; rfl
theorem clp_congr {n : Nat} {f g : Nat → DV} (h : ∀ j, j < n → f j = g j) : clp n f = clp n g := by
  funext j
  unfold clp
  cases hb : Nat.blt j n with
  | true => simp only [cond_true]; exact h j (blt_iff.1 hb)
  | false => rfl
/-- A cell's data: not an aggregate. -/
def el1 (x : DV) : DV := match x with | .ag .. => .top | y => y
/-- A whole array of single cells. -/
def arrB (k k' i off : Nat) : Bool := Nat.beq k 1 && Nat.beq k' 1 && Nat.beq i 0 && Nat.beq off 0
/-- What is read by a callee: the data that a slot is, and the names that this lays open. -/
def toDV : Nat → (Nat → Option Res) → AV → DV
  | 0, _, _ => .top
  | _ + 1, _, .d x => x
  | n + 1, hp, .ref id off => match hp id with
    | some (.cs _ m f) => .pt (.ag m (clp m fun j => toDV n hp (f j))) off
    | _ => .top
  | _ + 1, hp, .el id k i off => match hp id with
    | some (.row _ _ k' m f) => bif arrB k k' i off then .pt (.ag m fun j => el1 (f j)) 0 else .top
    | _ => .top
  | _ + 1, hp, .ms id k off m => match hp id with
    | some (.row _ _ _ _ f) => .sl false k m fun i => f (off + i)
    | _ => .top
  | n + 1, hp, .ag m f => .ag m (clp m fun j => toDV n hp (f j))
  | n + 1, hp, .fn g a b f c => .fn g a b (clp a fun j => toDV n hp (f j)) (clp b fun j => toDV n hp (c j))
  | _ + 1, hp, .mp id => match hp id with
    | some (.mp _ kt m) => .mp kt m
    | _ => .top
  | n + 1, hp, .tp m f => .tp m (clp m fun j => toDV n hp (f j))
  | _ + 1, _, .sub .. => .top
  | _ + 1, _, .stp _ => .top
def reach : Nat → (Nat → Option Res) → AV → List Nat
  | 0, _, _ => []
  | _ + 1, _, .d _ => []
  | n + 1, hp, .ref id _ => match hp id with
    | some (.cs _ m f) => id :: (List.range m).flatMap fun j => reach n hp (f j)
    | _ => []
  | _ + 1, hp, .el id k i off => match hp id with
    | some (.row _ _ k' _ _) => bif arrB k k' i off then [id] else []
    | _ => []
  | _ + 1, hp, .ms id _ _ _ => match hp id with
    | some (.row ..) => [id]
    | _ => []
  | n + 1, hp, .ag m f => (List.range m).flatMap fun j => reach n hp (f j)
  | n + 1, hp, .fn _ a b f c => ((List.range a).flatMap fun j => reach n hp (f j)) ++ (List.range b).flatMap fun j => reach n hp (c j)
  | _ + 1, hp, .mp id => match hp id with
    | some (.mp ..) => [id]
    | _ => []
  | n + 1, hp, .tp m f => (List.range m).flatMap fun j => reach n hp (f j)
  | _ + 1, _, .sub .. => []
  | _ + 1, _, .stp _ => []
theorem AllN.congr {m : Nat} {p q : Nat → Prop} (h : ∀ j, j < m → p j = q j) : AllN m p = AllN m q := propext ⟨fun hp => allN_iff.2 fun j hj => h j hj ▸ allN_iff.1 hp j hj, fun hq => allN_iff.2 fun j hj => (h j hj).symm ▸ allN_iff.1 hq j hj⟩
def okDV : Nat → (Nat → Option Res) → AV → Prop
  | 0, _, _ => True
  | _ + 1, _, .d _ => True
  | n + 1, hp, .ref id _ => match hp id with
    | some (.cs _ m f) => AllN m fun j => okDV n hp (f j)
    | _ => True
  | _ + 1, _, .el .. => True
  | _ + 1, hp, .ms id k off m => match hp id with
    | some (.row _ _ k' n _) => k = k' ∧ off + m ≤ n
    | _ => True
  | n + 1, hp, .ag m f => AllN m fun j => okDV n hp (f j)
  | n + 1, hp, .fn _ a b f c => (AllN a fun j => okDV n hp (f j)) ∧ AllN b fun j => okDV n hp (c j)
  | _ + 1, _, .mp _ => True
  | n + 1, hp, .tp m f => AllN m fun j => okDV n hp (f j)
  | _ + 1, _, .sub .. => True
  | _ + 1, _, .stp _ => True
theorem repM_of_cells {S : Nat → Prop} {W : World} {k : Nat} {x : DV} {b o : Nat} {c : Array Value} {T : TypeId} (hS : S b) (hh : W.heap[b]? = some (Obj.cells c T (0, 0))) (hk : o + k ≤ c.size) (h : RepC S W k x fun j => c.getD (o + j) undef)
    (h1 : ∀ j, j < k → (c.getD (o + j) undef).oneCell' = true) : RepM S W x b o := by
  have o1 : ∀ p : Value → Prop, 0 < k → p (c.getD (o + 0) undef) → one S W p b o := fun p hk0 hp => ⟨hS, c.getD (o + 0) undef, cell_at hh (by omega), hp, h1 0 hk0⟩
  cases x with
  | ag n f => exact fun j hj => ⟨hS, c.getD (o + j) undef, cell_at hh (by have := h.1; omega), h.2 j hj, h1 j (by have := h.1; omega)⟩
  | top => exact trivial
  | v y => exact o1 _ (by have := h.1; omega) h.2
  | tp n f => exact o1 _ (by have := h.1; omega) h.2
  | sl t k' n f => exact o1 _ (by have := h.1; omega) h.2
  | pt y o' => exact o1 _ (by have := h.1; omega) h.2
  | fn g n m f c => exact o1 _ (by have := h.1; omega) h.2
  | mp kt m => exact o1 _ (by have := h.1; omega) h.2
theorem toDV_sound {B : Base} {Fr : Nat → Prop} {E : Env} {st : St} {a : Act} {W : World} (h : Sat B Fr E st a W) {S : Nat → Prop} (hS : ∀ b, E.S b → S b) :
    ∀ (n : Nat) (x : AV) (u : Value), okDV n st.hp x → (∀ id ∈ reach n st.hp x, ∀ b, E.ρ id = .at b → S b) → RepA E W x u → Rep S W (toDV n st.hp x) u := by
  intro n
  induction n with
  | zero => intro x u _ _ _; exact trivial
  | succ n ih =>
    intro x u hok hre hx
    cases x with
    | d x => exact Rep.mono hS (fun _ _ => rfl) hx
    | ref id off =>
      simp only [toDV]
      cases hid : st.hp id with
      | none => exact trivial
      | some r =>
        cases r with
        | row mt T k m f => exact trivial
        | mp mt kt m => exact trivial
        | it mt kt m seen cur => exact trivial
        | me mt kt m l born => exact trivial
        | cs mt m f =>
          simp only [okDV, hid] at hok
          simp only [reach, hid] at hre
          obtain ⟨b, hb, rfl⟩ := hx
          obtain ⟨b', c, T, hb', hh, hsz, _, hc⟩ := h.hp id _ hid
          rw [hb] at hb'; cases hb'
          refine ⟨b, 0, by simp, fun j hj => ⟨hre id (by simp) b hb, c.getD j undef, by rw [Nat.zero_add]; exact cell_at hh (by omega), ?_, (hc j hj).2⟩⟩
          rw [clp_lt hj]
          exact ih _ _ (allN_iff.1 hok j hj) (fun i hi => hre i (List.mem_cons_of_mem _ (List.mem_flatMap.2 ⟨j, List.mem_range.2 hj, hi⟩))) (hc j hj).1
    | el id k i off =>
      simp only [toDV]
      cases hid : st.hp id with
      | none => exact trivial
      | some r =>
        cases r with
        | cs mt m f => exact trivial
        | mp mt kt m => exact trivial
        | it mt kt m seen cur => exact trivial
        | me mt kt m l born => exact trivial
        | row mt T k' m f =>
          simp only [reach, hid] at hre
          cases ha : arrB k k' i off with
          | false =>
            show Rep S W (bif arrB k k' i off then _ else _) u
            rw [ha]; exact trivial
          | true =>
            rw [ha] at hre
            simp only [arrB, Bool.and_eq_true] at ha
            obtain ⟨⟨⟨h1, h2⟩, h3⟩, h4⟩ := ha
            obtain rfl := Nat.eq_of_beq_eq_true h1
            obtain rfl := Nat.eq_of_beq_eq_true h2
            obtain rfl := Nat.eq_of_beq_eq_true h3
            obtain rfl := Nat.eq_of_beq_eq_true h4
            obtain ⟨b, hb, rfl⟩ := hx
            rcases h.hp id _ hid with ⟨h5, _⟩ | ⟨b', c, hb', hh, hsz, _, hc⟩
            · rw [hb] at h5; cases h5
            · rw [hb] at hb'; cases hb'
              refine ⟨b, 0, by simp, fun j hj => ⟨hre id (by simp) b hb, c.getD j undef, by rw [Nat.zero_add]; exact cell_at hh (by omega), ?_, by simpa using (hc j hj).2 0 (by omega)⟩⟩
              have h6 := (hc j hj).1
              unfold RepC at h6
              show Rep S W (el1 (f j)) (c.getD j undef)
              split at h6
              · rename_i n g e; rw [e]; exact trivial
              · rename_i e; rw [e]; exact trivial
              · rename_i x n1 n2
                have e : el1 (f j) = f j := by
                  unfold el1
                  split
                  · rename_i n g e; exact absurd e (n1 _ _)
                  · rfl
                rw [e]
                have := h6.2
                simp only [Nat.mul_one, Nat.add_zero] at this
                exact Rep.mono hS (fun _ _ => rfl) this
    | ms id k off m =>
      simp only [toDV]
      cases hid : st.hp id with
      | none => exact trivial
      | some r =>
        cases r with
        | cs mt m f => exact trivial
        | mp mt kt m => exact trivial
        | it mt kt m seen cur => exact trivial
        | me mt kt m l born => exact trivial
        | row mt T k' n' f =>
          simp only [okDV, hid] at hok
          simp only [reach, hid] at hre
          obtain ⟨rfl, hle⟩ := hok
          rcases hx with ⟨hb, rfl, rfl⟩ | ⟨b, o, cap, c, T', hb, rfl, hm, _, hh, hs⟩
          · exact ⟨none, 0, rfl, Nat.le_refl _, (by simp), (by simp), (by simp)⟩
          · refine ⟨some ⟨b, o, none⟩, cap, rfl, hm, (by simp), (by simp), ?_⟩
            rintro x e i hi
            cases e
            refine ⟨rfl, ?_⟩
            rcases hs with ⟨rfl, hsz⟩ | ⟨hm0, _⟩
            · rcases h.hp id _ hid with ⟨h1, _⟩ | ⟨b', c', hb', hh', hsz', _, hc⟩
              · rw [hb] at h1; cases h1
              · rw [hb] at hb'; cases hb'
                rw [hh] at hh'; cases hh'
                have hlt : off + i < n' := by omega
                have hc' := hc (off + i) hlt
                have hb2 : (off + i + 1) * k ≤ n' * k := Nat.mul_le_mul_right k hlt
                rw [Nat.add_mul] at hb2
                refine repM_of_cells (k := k) (hre id (by simp) b hb) hh (by rw [← Nat.add_mul]; omega) ?_ ?_
                · have := hc'.1.ev (E' := { E with S := S }) ⟨hS, fun _ _ => rfl, fun _ _ => rfl, fun _ c _ h => ⟨c, h, rfl⟩⟩
                  simp only [Nat.add_mul] at this ⊢
                  exact this
                · intro j hj
                  have := hc'.2 j hj
                  simp only [Nat.add_mul] at this ⊢
                  exact this
            · omega
    | mp id =>
      simp only [toDV]
      cases hid : st.hp id with
      | none => exact trivial
      | some r =>
        cases r with
        | cs mt m f => exact trivial
        | row mt T k' n' f => exact trivial
        | it mt kt m seen cur => exact trivial
        | me mt kt m l born => exact trivial
        | mp mt kt m =>
          simp only [reach, hid] at hre
          obtain ⟨b, hb, rfl⟩ := hx
          obtain ⟨b', es, c, hb', hh, _, ho⟩ := h.hp id _ hid
          rw [hb] at hb'; cases hb'
          exact ⟨b, es, c, rfl, hre id (by simp) b hb, hh, ho⟩
    | sub id k i => exact trivial
    | stp id => exact trivial
    | tp m f =>
      obtain ⟨cs, rfl, hs, hc⟩ := hx
      exact ⟨cs, rfl, hs, fun j hj => by rw [clp_lt hj]; exact ih _ _ (allN_iff.1 hok j hj) (fun i hi => hre i (List.mem_flatMap.2 ⟨j, List.mem_range.2 hj, hi⟩)) (hc j hj)⟩
    | ag m f =>
      obtain ⟨cs, rfl, hs, hc⟩ := hx
      exact ⟨cs, rfl, hs, fun j hj => ⟨by rw [clp_lt hj]; exact ih _ _ (allN_iff.1 hok j hj) (fun i hi => hre i (List.mem_flatMap.2 ⟨j, List.mem_range.2 hj, hi⟩)) (hc j hj).1, (hc j hj).2⟩⟩
    | fn g p q f c =>
      obtain ⟨fs, cs, rfl, hs, hs', hf, hc⟩ := hx
      exact ⟨fs, cs, rfl, hs, hs', fun j hj => by rw [clp_lt hj]; exact ih _ _ (allN_iff.1 hok.1 j hj) (fun i hi => hre i (List.mem_append_left _ (List.mem_flatMap.2 ⟨j, List.mem_range.2 hj, hi⟩))) (hf j hj),
        fun j hj => by rw [clp_lt hj]; exact ih _ _ (allN_iff.1 hok.2 j hj) (fun i hi => hre i (List.mem_append_right _ (List.mem_flatMap.2 ⟨j, List.mem_range.2 hj, hi⟩))) (hc j hj)⟩
/-- The same, told to stop at. -/
structure ImpS (x y : DV) : Prop where
  h : Imp x y
/-- x says no less than y, made out as far as it goes. -/
def DImp : DV → DV → Prop
  | _, .top => True
  | x, .v u => match x with
    | .v w => match u, w with
      | .int k b, .int j a => j = k ∧ a = b
      | .bool b, .bool a => True ∧ a = b
      | u, w => w = u
    | x => ImpS x (.v u)
  | x, .ag n g => match x with
    | .ag m f => m = n ∧ AllN n fun j => DImp (f j) (g j)
    | x => ImpS x (.ag n g)
  | x, .tp n g => match x with
    | .tp m f => m = n ∧ AllN n fun j => DImp (f j) (g j)
    | x => ImpS x (.tp n g)
  | x, .pt y o => match x with
    | .pt z o' => o' = o ∧ DImp z y
    | x => ImpS x (.pt y o)
  | x, .fn g n m f c => match x with
    | .fn g' n' m' f' c' => g' = g ∧ n' = n ∧ m' = m ∧ (AllN n fun j => DImp (f' j) (f j)) ∧ AllN m fun j => DImp (c' j) (c j)
    | x => ImpS x (.fn g n m f c)
  | x, .mp kt m => match x with
    | .mp kt' m' => kt' = kt ∧ ∀ k, m' k = m k
    | x => ImpS x (.mp kt m)
  | x, y => ImpS x y
theorem DImp.imp : ∀ {y x : DV}, DImp x y → Imp x y := by
  intro y
  induction y with
  | top => exact fun _ => Imp.top _
  | v u =>
    intro x h
    unfold DImp at h
    split at h
    · split at h
      · obtain ⟨rfl, rfl⟩ := h; exact Imp.refl _
      · obtain ⟨_, rfl⟩ := h; exact Imp.refl _
      · subst h; exact Imp.refl _
    · exact h.h
  | ag n g ih =>
    intro x h
    unfold DImp at h
    split at h
    · exact Imp.ag h.1 fun j hj => ih j (allN_iff.1 h.2 j (h.1 ▸ hj))
    · exact h.h
  | tp n g ih =>
    intro x h
    unfold DImp at h
    split at h
    · exact Imp.tp h.1 fun j hj => ih j (allN_iff.1 h.2 j (h.1 ▸ hj))
    · exact h.h
  | sl t k n f _ => intro x h; unfold DImp at h; exact h.h
  | pt x o ih =>
    intro y h
    unfold DImp at h
    split at h
    · exact Imp.pt h.1 (ih h.2)
    · exact h.h
  | fn g n m f c ih1 ih2 =>
    intro x h
    unfold DImp at h
    split at h
    · obtain ⟨rfl, rfl, rfl, h4, h5⟩ := h
      exact Imp.fn (fun j hj => ih1 j (allN_iff.1 h4 j hj)) fun j hj => ih2 j (allN_iff.1 h5 j hj)
    · exact h.h
  | mp kt m =>
    intro x h
    unfold DImp at h
    split at h
    · obtain ⟨rfl, h2⟩ := h; exact Imp.mp h2
    · exact h.h
/-- A list of data that says no less than another one. -/
def DImps : List DV → List DV → Prop
  | [], [] => True
  | x :: xs, y :: ys => DImp x y ∧ DImps xs ys
  | _, _ => False
theorem DImps.imps : ∀ {xs ys : List DV}, DImps xs ys → Imps xs ys
  | [], [], _ => trivial
  | _ :: _, _ :: _, h => ⟨h.1.imp, h.2.imps⟩
end Go.Px
end

/-! PxIa -/
noncomputable section
namespace Go.Px
open Go Go.RowKit
/-- The base of a plain function: all that is new is its own; what was there stays. -/
def base0 (S : Nat → Prop) (w : World) : Base :=
  ⟨fun b => w.heap.size ≤ b, S, fun _ => .un, Below w.heap.size w,
    fun _ _ h1 h2 => ⟨h2.os.trans h1.os, h2.tape.trans h1.tape, h2.output.trans h1.output, Nat.le_trans h1.size h2.size, fun k hk => (h2.block k (Nat.lt_of_lt_of_le hk h1.size) (Nat.not_le.2 hk)).trans (h1.block k hk)⟩, fun _ h _ hb => Nat.le_trans h.size hb⟩
/-- The base of a function that is lent the memory 0. -/
def baseI (E : Env) (w : World) : Base :=
  ⟨fun b => E.ρ 0 = .at b ∨ w.heap.size ≤ b, E.S, E.ρ, Stp (fun b => E.ρ 0 = .at b ∨ w.heap.size ≤ b) w,
    fun _ _ h1 h2 => h1.trans h2, fun _ h _ hb => .inr (Nat.le_trans h.size hb)⟩
/-- All memories of a slot under another name. -/
def AV.nm (i : Nat) : AV → AV
  | .d x => .d x
  | .ref _ off => .ref i off
  | .el _ k j off => .el i k j off
  | .ms _ k off n => .ms i k off n
  | .ag n f => .ag n fun j => (f j).nm i
  | .fn g n m f c => .fn g n m (fun j => (f j).nm i) (fun j => (c j).nm i)
  | .mp _ => .mp i
  | .tp n f => .tp n fun j => (f j).nm i
  | .sub _ k j => .sub i k j
  | .stp _ => .stp i
theorem AV.nm_rep {E E' : Env} {W : World} {i : Nat} (hu : ∀ j, j ≠ 0 → E.ρ j = .un) (hS : E'.S = E.S) (hi : E'.ρ i = E.ρ 0) : ∀ {y : AV} {u : Value}, RepA E W y u → RepA E' W (y.nm i) u := by
  have h0 : ∀ {j b}, E.ρ j = .at b → E'.ρ i = .at b := fun {j b} h => by
    by_cases e : j = 0
    · subst e; exact hi.trans h
    · rw [hu j e] at h; cases h
  have h1 : ∀ {j}, E.ρ j = .nil → E'.ρ i = .nil := fun {j} h => by
    by_cases e : j = 0
    · subst e; exact hi.trans h
    · rw [hu j e] at h; cases h
  intro y
  induction y with
  | d x => exact fun {u} hx => by show Rep E'.S W x u; rw [hS]; exact hx
  | ref id off => rintro u ⟨b, hb, rfl⟩; exact ⟨b, h0 hb, rfl⟩
  | el id k j off => rintro u ⟨b, hb, rfl⟩; exact ⟨b, h0 hb, rfl⟩
  | ms id k off n =>
    rintro u (⟨hb, hn, rfl⟩ | ⟨b, o, cap, c, T, hb, rfl, hn, hm, hc, hs⟩)
    · exact .inl ⟨h1 hb, hn, rfl⟩
    · exact .inr ⟨b, o, cap, c, T, h0 hb, rfl, hn, hm, hc, hs⟩
  | ag n f ih => rintro u ⟨cs, rfl, hs, hc⟩; exact ⟨cs, rfl, hs, fun j hj => ⟨ih j (hc j hj).1, (hc j hj).2⟩⟩
  | fn g n m f c ih1 ih2 => rintro u ⟨fs, cs, rfl, h1, h2, h3, h4⟩; exact ⟨fs, cs, rfl, h1, h2, fun j hj => ih1 j (h3 j hj), fun j hj => ih2 j (h4 j hj)⟩
  | mp id => rintro u ⟨b, hb, rfl⟩; exact ⟨b, h0 hb, rfl⟩
  | tp n f ih => rintro u ⟨cs, rfl, hs, hc⟩; exact ⟨cs, rfl, hs, fun j hj => ih j (hc j hj)⟩
  | sub id k j => rintro u ⟨b, hb, rfl⟩; exact ⟨b, h0 hb, rfl⟩
  | stp id => rintro u ⟨b, hb, rfl⟩; exact ⟨b, h0 hb, rfl⟩
/-- f is lent a row of n elements (x), and data; afterwards the row reads as x'; the result as y (its memory 0: the row). -/
structure FnI (P : Program) (f : Nat) (U k n : Nat) (x x' : Nat → DV) (args : List DV) (y : AV) : Prop where
  ent : Ent P f
  run : ∀ (E : Env) (w : World) (v : Value) (vals : List Value), (∀ b, E.S b → b < w.heap.size) → (∀ j, j ≠ 0 → E.ρ j = .un) → E.D = [] → RepA E w (.ms 0 k 0 n) v → SatR (baseI E w) E w 0 (.row true U k n x) → Reps E.S w args vals →
    Calls P f (v :: vals).toArray w fun e w' => ∃ u E', e = .returned u ∧ (∀ j, j ≠ 0 → E'.ρ j = .un) ∧ E'.ρ 0 = E.ρ 0 ∧ (∀ b, E.S b → E'.S b) ∧ (∀ b, E'.S b → E.S b ∨ ((baseI E w).ow b ∧ b < w'.heap.size)) ∧ (baseI E w).G w' ∧
      SatR (baseI E w) E' w' 0 (.row true U k n x') ∧ RepA E' w' y u
/-- f is handed data; its result reads as y, whose memory 0 is new: R. -/
structure FnN (P : Program) (f : Nat) (args : List DV) (R : Res) (y : AV) : Prop where
  ent : Ent P f
  run : ∀ (S : Nat → Prop) (w : World) (vals : List Value), (∀ b, S b → b < w.heap.size) → Reps S w args vals →
    Calls P f vals.toArray w fun e w' => ∃ u E', e = .returned u ∧ (∀ j, j ≠ 0 → E'.ρ j = .un) ∧ (∀ b, S b → E'.S b) ∧ (∀ b, E'.S b → S b ∨ (w.heap.size ≤ b ∧ b < w'.heap.size)) ∧ Below w.heap.size w w' ∧
      SatR (base0 S w) E' w' 0 R ∧ RepA E' w' y u
/-- The same: a new row. -/
abbrev FnF (P : Program) (f : Nat) (args : List DV) (U k n : Nat) (x : Nat → DV) (y : AV) : Prop := FnN P f args (.row true U k n x) y
/-- Memory that a function may hand on: a row, cells, a map. -/
def Res.nw : Res → Bool
  | .cs mt _ _ => mt
  | .row mt _ _ _ _ => mt
  | .mp mt _ _ => mt
  | .it .. => false
  | .me .. => false
def Res.nm (i : Nat) : Res → Res
  | .cs mt n f => .cs mt n fun j => (f j).nm i
  | .row mt U k n x => .row mt U k n x
  | .mp mt kt m => .mp mt kt m
  | .it mt kt m s c => .it mt kt m s c
  | .me mt kt m l g => .me mt kt m l g
theorem SatR.nw_at {B : Base} {E : Env} {W : World} {R : Res} (hR : R.nw = true) (h : SatR B E W 0 R) : E.ρ 0 ≠ .un ∧ ∀ b, E.ρ 0 = .at b → ¬ E.S b ∧ B.ow b := by
  cases R with
  | cs mt n f =>
    cases mt with
    | false => cases hR
    | true =>
      obtain ⟨b, c, T, h1, h2, h3, h4, h5⟩ := h
      refine ⟨by rw [h1]; simp, fun b' hb => ?_⟩
      rw [h1] at hb; cases hb; exact h4
  | row mt U k n x =>
    cases mt with
    | false => cases hR
    | true =>
      rcases h with ⟨h1, _⟩ | ⟨b, c, h1, h2, h3, h4, h5⟩
      · exact ⟨by rw [h1]; simp, fun b' hb => by rw [h1] at hb; cases hb⟩
      · refine ⟨by rw [h1]; simp, fun b' hb => ?_⟩
        rw [h1] at hb; cases hb; exact h4
  | mp mt kt m =>
    cases mt with
    | false => cases hR
    | true =>
      obtain ⟨b, es, c, h1, h2, h4, h5⟩ := h
      refine ⟨by rw [h1]; simp, fun b' hb => ?_⟩
      rw [h1] at hb; cases hb; exact h4
  | it => cases hR
  | me => cases hR
theorem SatR.nm {B B' : Base} {E E' : Env} {W : World} {i : Nat} {R : Res} (hR : R.nw = true) (hu : ∀ j, j ≠ 0 → E.ρ j = .un) (hS : E'.S = E.S) (hi : E'.ρ i = E.ρ 0) (ho : ∀ b, E.ρ 0 = .at b → B.ow b → B'.ow b) (h : SatR B E W 0 R) : SatR B' E' W i (R.nm i) := by
  have own : ∀ b, E.ρ 0 = .at b → (¬ E.S b ∧ B.ow b) → ¬ E'.S b ∧ B'.ow b := fun b hb h => ⟨by rw [hS]; exact h.1, ho b hb h.2⟩
  cases R with
  | cs mt n f =>
    cases mt with
    | false => cases hR
    | true =>
      obtain ⟨b, c, T, h1, h2, h3, h4, h5⟩ := h
      exact ⟨b, c, T, hi.trans h1, h2, h3, own b h1 h4, fun j hj => ⟨AV.nm_rep hu hS hi (h5 j hj).1, (h5 j hj).2⟩⟩
  | row mt U k n x =>
    cases mt with
    | false => cases hR
    | true =>
      rcases h with ⟨h1, h2⟩ | ⟨b, c, h1, h2, h3, h4, h5⟩
      · exact .inl ⟨hi.trans h1, h2⟩
      · exact .inr ⟨b, c, hi.trans h1, h2, h3, own b h1 h4, fun j hj => ⟨by rw [hS]; exact (h5 j hj).1, (h5 j hj).2⟩⟩
  | mp mt kt m =>
    cases mt with
    | false => cases hR
    | true =>
      obtain ⟨b, es, c, h1, h2, h4, h5⟩ := h
      exact ⟨b, es, c, hi.trans h1, h2, own b h1 h4, h5⟩
  | it => cases hR
  | me => cases hR
/-- What is told of a call: what it gives; that the row it is lent is x' then, and what it gives; that it gives y with new memory; that what it gives hangs on no map (so that the maps it is lent stay one's own). -/
inductive CR : Type
  | dv (r : DV)
  | ip (x' : Nat → DV) (y : AV)
  | nw (R : Res) (y : AV)
  | ln (r : DV)
abbrev CR.fr (U k n : Nat) (x : Nat → DV) (y : AV) : CR := .nw (.row true U k n x) y
/-- Data without maps. -/
def DV.noMp : DV → Prop
  | .v _ => True
  | .top => True
  | .ag _ f => ∀ j, (f j).noMp
  | .tp _ f => ∀ j, (f j).noMp
  | .sl _ _ _ f => ∀ j, (f j).noMp
  | .pt x _ => x.noMp
  | .fn _ _ _ f c => (∀ j, (f j).noMp) ∧ ∀ j, (c j).noMp
  | .mp _ _ => False
structure NoMp (r : DV) : Prop where
  h : r.noMp
theorem one_noMp {S S' : Nat → Prop} {W : World} {p q : Value → Prop} (hS : ∀ b, S b → S' b ∨ ∃ es c, W.heap[b]? = some (.map es c)) (hp : ∀ u, p u → q u) {b o : Nat} (h : one S W p b o) : one S' W q b o := by
  obtain ⟨hb, u, hu, hpu, h1⟩ := h
  refine ⟨(hS b hb).resolve_right ?_, u, hu, hp u hpu, h1⟩
  rintro ⟨es, c, he⟩
  simp [World.cell?, he] at hu
theorem RR_noMp {S S' : Nat → Prop} {W : World} (hS : ∀ b, S b → S' b ∨ ∃ es c, W.heap[b]? = some (.map es c)) (x : DV) (hx : x.noMp) :
    (∀ u, (RR S W x).1 u → (RR S' W x).1 u) ∧ (∀ b o, (RR S W x).2 b o → (RR S' W x).2 b o) := by
  induction x with
  | v x => exact ⟨fun u h => h, fun b o h => one_noMp hS (fun _ h => h) h⟩
  | top => exact ⟨fun _ h => h, fun _ _ h => h⟩
  | ag n f ih =>
    refine ⟨?_, fun b o h j hj => one_noMp hS (ih j (hx j)).1 (h j hj)⟩
    rintro u ⟨cs, rfl, hs, hc⟩
    exact ⟨cs, rfl, hs, fun j hj => ⟨(ih j (hx j)).1 _ (hc j hj).1, (hc j hj).2⟩⟩
  | tp n f ih =>
    have h1 : ∀ u, (RR S W (.tp n f)).1 u → (RR S' W (.tp n f)).1 u := by
      rintro u ⟨cs, rfl, hs, hc⟩
      exact ⟨cs, rfl, hs, fun j hj => (ih j (hx j)).1 _ (hc j hj)⟩
    exact ⟨h1, fun b o h => one_noMp hS h1 h⟩
  | sl t k n f ih =>
    have h1 : ∀ u, (RR S W (.sl t k n f)).1 u → (RR S' W (.sl t k n f)).1 u := by
      rintro u ⟨a, cap, rfl, hs, ht, hn, hc⟩
      exact ⟨a, cap, rfl, hs, ht, hn, fun x hx' i hi => ⟨(hc x hx' i hi).1, (ih i (hx i)).2 _ _ (hc x hx' i hi).2⟩⟩
    exact ⟨h1, fun b o h => one_noMp hS h1 h⟩
  | pt x off ih =>
    have h1 : ∀ u, (RR S W (.pt x off)).1 u → (RR S' W (.pt x off)).1 u := by
      rintro u ⟨b, o, rfl, h⟩
      exact ⟨b, o, rfl, (ih hx).2 _ _ h⟩
    exact ⟨h1, fun b o h => one_noMp hS h1 h⟩
  | fn g n m f c ih1 ih2 =>
    have h1 : ∀ u, (RR S W (.fn g n m f c)).1 u → (RR S' W (.fn g n m f c)).1 u := by
      rintro u ⟨fs, cs, rfl, hs, hs', hf, hc⟩
      exact ⟨fs, cs, rfl, hs, hs', fun j hj => (ih1 j (hx.1 j)).1 _ (hf j hj), fun j hj => (ih2 j (hx.2 j)).1 _ (hc j hj)⟩
    exact ⟨h1, fun b o h => one_noMp hS h1 h⟩
  | mp kt m => exact hx.elim
end Go.Px
end

/-! PxJ -/
noncomputable section
namespace Go.Px
open Go Go.RowKit
def one1 (x : DV) : DV := match x with | .ag .. => .top | y => y
def dOf (x : AV) : DV := match x with | .d y => one1 y | _ => .top
/-- The zero of an element. -/
def zE (ti : TI) : DV := bif ti.agg then .ag ti.size fun j => .v (ti.z.cells.getD j undef) else .v ti.z
def isZ (k : IntKind) : Value → Bool
  | .int j 0 => IntKind.eq j k
  | _ => false
/-- An array of n elements of one cell each, as the type has it. -/
def arrOf (T : Nat → Option TI) (ti : TI) : Option (Nat × TI) :=
  match ti.d with
  | .array n e => match T e with
    | some te => bif te.agg then none else bif Nat.beq te.size 1 && Nat.beq ti.size n then some (n, te) else none
    | none => none
  | _ => none
def isArr (ti : TI) : Bool := match ti.d with | .array .. => true | _ => false
def allocV (T : Nat → Option TI) (i t : Nat) (st : St) : Option (Prop × AV × St) :=
  match T t with
  | some ti => bif isArr ti then
      match arrOf T ti with
      | some (n, te) => match te.d with
        | .int k => bif ti.z.cells.toList.all (isZ k) then some (True, .el i 1 0 0, st.set i (some (.row true t 1 n fun _ => .v (.int k 0)))) else none
        | _ => none
      | none => none
    else some (True, .ref i 0, st.set i (some (.cs true ti.size fun j => .d (.v (ti.z.cells.getD j undef)))))
  | none => none
def boxV (T : Nat → Option TI) (i t : Nat) (x : AV) (st : St) : Option (Prop × AV × St) :=
  match T t, lenA x with
  | some ti, some m => bif isArr ti then
      match arrOf T ti with
      | some (n, _) => bif Nat.beq m n then some (True, .el i 1 0 0, st.set i (some (.row true t 1 n fun j => dOf (cellA x j)))) else none
      | none => none
    else some (True, .ref i 0, st.set i (some (.cs true m fun j => cellA x j)))
  | _, _ => none
def fillE (z : Nat → DV) : List (Nat × DV) → (Nat → DV)
  | [] => z
  | (i, x) :: r => fillE (fun j => bif Nat.beq j i then x else z j) r
/-- Elements with others behind them; one changed; some changed. -/
def apd (n : Nat) (f g : Nat → DV) : Nat → DV := fun j => if j < n then f j else g (j - n)
def upE (i : Nat) (x : DV) (f : Nat → DV) : Nat → DV := fun j => if j = i then x else f j
def mid (o m : Nat) (g f : Nat → DV) : Nat → DV := fun j => if o ≤ j ∧ j < o + m then g (j - o) else f j
/-- The same; a whole array is put at once. -/
def midA (i m n : Nat) (g f : Nat → DV) : Nat → DV := bif Nat.beq i 0 && Nat.beq m n then g else mid i m g f
theorem midA_eq {i m n : Nat} {g f : Nat → DV} {j : Nat} (h : j < n) : midA i m n g f j = mid i m g f j := by
  unfold midA
  cases hb : Nat.beq i 0 && Nat.beq m n with
  | false => rfl
  | true =>
    rw [Bool.and_eq_true] at hb
    obtain rfl := Nat.eq_of_beq_eq_true hb.1
    obtain rfl := Nat.eq_of_beq_eq_true hb.2
    unfold mid
    rw [if_pos ⟨Nat.zero_le _, by omega⟩]
    rfl
def fuel : Nat := 5
def partsE (st : St) (k len : Nat) (ev : Operand → AV) : List (Nat × Operand) → Option (List (Nat × DV))
  | [] => some []
  | (i, x) :: r => match lenA (ev x) with
    | some n => bif Nat.beq n k && Nat.blt i len then (partsE st k len ev r).map ((i, toDV fuel st.hp (ev x)) :: ·) else none
    | none => none
def reachs (st : St) (l : List AV) : List Nat := l.flatMap (reach fuel st.hp)
def okDVs (st : St) : List AV → Prop
  | [] => True
  | x :: l => okDV fuel st.hp x ∧ okDVs st l
def buildSliceV (T : Nat → Option TI) (i t len : Nat) (parts : List (Nat × Operand)) (st : St) : Option (Prop × AV × St) :=
  match T t with
  | some ti => match ti.d with
    | .slice e => match T e with
      | some te => match partsE st te.size len st.ev parts with
        | some l => bif Nat.ble (len * te.size) 16777216 && Nat.blt 0 te.size then
            some (okDVs st (parts.map fun p => st.ev p.2), .ms i te.size 0 len, (st.frzs (reachs st (parts.map fun p => st.ev p.2))).set i (some (.row true e te.size len (fillE (fun _ => zE te) l))))
          else none
        | none => none
      | none => none
    | _ => none
  | none => none
def makeSliceV (T : Nat → Option TI) (i t : Nat) (l c : AV) (st : St) : Option (Prop × AV × St) :=
  match T t, asI l, asI c with
  | some ti, some (_, l), some (_, c) => match ti.d with
    | .slice e => match T e with
      | some te => bif Nat.ble te.bytes 1048576 && Nat.blt 0 te.size then
          some (0 ≤ l ∧ l ≤ c ∧ c ≤ 1048576, .ms i te.size 0 l.toNat, st.set i (some (.row true e te.size l.toNat fun _ => zE te)))
        else none
      | none => none
    | _ => none
  | _, _, _ => none
def storeV (T : Nat → Option TI) (t : Nat) (ad x : AV) (st : St) : Option (Prop × St) :=
  match T t, lenA x with
  | some ti, some m => bif Nat.beq m ti.size then
      match ad with
      | .ref id off => match st.hp id with
        | some (.cs true n f) => some (off + m ≤ n, st.set id (some (.cs true n fun j => bif (Nat.ble off j && Nat.blt j (off + m)) then cellA x (j - off) else f j)))
        | _ => none
      | .el id k i off => match st.hp id with
        | some (.row true U k' n f) => bif Nat.beq k k' then
            (bif Nat.beq m k && Nat.beq off 0 then
              some (okDV fuel st.hp x ∧ i < n ∧ ¬ id ∈ reach fuel st.hp x, (st.frzs (reach fuel st.hp x)).set id (some (.row true U k n (upE i (toDV fuel st.hp x) f))))
            else bif Nat.beq k 1 then (bif Nat.beq off 0 then
              some (i + m ≤ n, st.set id (some (.row true U 1 n (midA i m n (fun q => dOf (cellA x q)) f)))) else none)
            else
              some (okDV fuel st.hp x ∧ off + m ≤ k ∧ i < n ∧ ¬ id ∈ reach fuel st.hp x, (st.frzs (reach fuel st.hp x)).set id (some (.row true U k n (upE i (.ag k (fun c => bif (Nat.ble off c && Nat.blt c (off + m)) then one1 (cellD (toDV fuel st.hp x) (c - off)) else one1 (cellD (f i) c))) f)))))
          else none
        | _ => none
      | _ => none
    else none
  | _, _ => none
/-- An element that surely is k cells. -/
def elOk (k : Nat) (x : DV) : Prop := match x with | .ag n _ => n = k | .top => False | _ => k = 1
/-- The elements of a slice that is read. -/
def srcV (st : St) (k : Nat) : AV → Option (Prop × Nat × (Nat → DV))
  | .ms id k1 off m => match st.hp id with
    | some (.row _ _ k2 n f) => bif Nat.beq k k1 && Nat.beq k k2 then some (off + m ≤ n, m, fun j => f (off + j)) else none
    | _ => none
  | .d (.sl _ k1 m f) => bif Nat.beq k k1 then some (∀ i, i < m → elOk k (f i), m, f) else none
  | .d (.v (.slice none 0 0)) => some (True, 0, fun _ => .top)
  | _ => none
/-- A slice without room behind it. -/
def tightV : AV → Bool
  | .d (.sl t _ _ _) => t
  | .d (.v (.slice none 0 0)) => true
  | _ => false
/-- The nil slice itself; what is put behind another one that has no room must be something. -/
def nilB : AV → Bool
  | .d (.v (.slice none 0 0)) => true
  | _ => false
def nzP (s : AV) (m : Nat) : Prop := match nilB s with | true => True | false => 0 < m
def appendV (T : Nat → Option TI) (i t : Nat) (s x : AV) (st : St) : Option (Prop × AV × St) :=
  match T t with
  | some ti => match ti.d with
    | .slice e => match T e with
      | some te => bif Nat.ble te.bytes 1048576 && Nat.blt 0 te.size then
          match srcV st te.size x with
          | some (cx, m, g) => match s with
            | .ms id k off n => match st.hp id with
              | some (.row true U k' n' f) => bif Nat.beq off 0 && Nat.beq k te.size && Nat.beq k' te.size && Nat.beq U e then
                  some (cx ∧ n' = n ∧ n + m ≤ 1048576, .ms i te.size 0 (n + m), (st.set id none).set i (some (.row true e te.size (n + m) (apd n f g))))
                else none
              | _ => none
            | _ => bif tightV s then match srcV st te.size s with
                | some (cs, n, f) => some (cs ∧ cx ∧ nzP s m ∧ n + m ≤ 1048576, .ms i te.size 0 (n + m), st.set i (some (.row true e te.size (n + m) (apd n f g))))
                | none => none
              else none
          | none => none
        else none
      | none => none
    | _ => none
  | none => none
def clearV (T : Nat → Option TI) (t : Nat) (x : AV) (st : St) : Option (Prop × AV × St) :=
  match T t with
  | some ti => match ti.d with
    | .slice e => match T e with
      | some te => match x with
        | .ms id k off m => match st.hp id with
          | some (.row true U k' n f) => bif Nat.beq k te.size && Nat.beq k' te.size && Nat.blt 0 te.size then
              some (off + m ≤ n, .d .top, st.set id (some (.row true U k' n (mid off m (fun _ => zE te) f))))
            else none
          | _ => none
        | .sub id k i => match st.hp id with
          | some (.row true U k' n f) => bif Nat.beq k k' && Nat.beq te.size 1 && Nat.blt 0 k then
              some (i < n, .d .top, st.set id (some (.row true U k' n (upE i (.ag k fun _ => .v (te.z.cells.getD 0 undef)) f))))
            else none
          | _ => none
        | _ => none
      | none => none
    | _ => none
  | none => none
def copyV (T : Nat → Option TI) (t : Nat) (d s : AV) (st : St) : Option (Prop × AV × St) :=
  match T t with
  | some ti => match ti.d with
    | .slice e => match T e with
      | some te => match srcV st te.size s with
        | some (cx, m, g) => match d with
          | .ms id k off n => match st.hp id with
            | some (.row true U k' n' f) => bif Nat.beq k te.size && Nat.beq k' te.size && Nat.blt 0 te.size then
                some (cx ∧ off + n ≤ n' ∧ m = n, .d (.v (.int .i64 n)), st.set id (some (.row true U k' n' (mid off n g f))))
              else none
            | _ => none
          | _ => none
        | none => none
      | none => none
    | _ => none
  | none => none
/-- 'x[:h:h]' of memory of one's own: it is given up for others to read. -/
def slice3V (T : Nat → Option TI) (t : Nat) (x : AV) (hi mx : Option Int) (st : St) : Option (Prop × AV × St) :=
  match T t, hi, mx with
  | some ti, some h, some m => match ti.d with
    | .slice e => match T e with
      | some te => match x with
        | .ms id k off n => match st.hp id with
          | some (.row _ _ k' n' f) => bif Nat.beq k te.size && Nat.beq k' te.size then
              some (0 ≤ h ∧ h ≤ n ∧ m = h ∧ off + n ≤ n', .d (.sl true k h.toNat fun j => f (off + j)), st.frz id)
            else none
          | _ => none
        | _ => none
      | none => none
    | _ => none
  | _, _, _ => none
def nilV (T : Nat → Option TI) (i t : Nat) (st : St) : Option (Prop × AV × St) :=
  match T t with
  | some ti => match ti.d with
    | .slice e => match T e with
      | some te => some (True, .ms i te.size 0 0, st.set i (some (.row true e te.size 0 fun _ => .top)))
      | none => none
    | _ => none
  | none => none
/-- How a call is to be made out: the function and its arguments. -/
def calleeV : AV → List AV → Option (Nat × List AV)
  | .fn g n m f c, l => some (g, (List.range n).map f ++ l ++ (List.range m).map c)
  | .d (.fn g n m f c), l => some (g, (List.range n).map (fun j => .d (f j)) ++ l ++ (List.range m).map fun j => .d (c j))
  | _, _ => none
/-- A sorted list. -/
def srtL (L : List Int) : List Int := L.mergeSort fun x y => decide (x ≤ y)
/-- What slices.Sort does at []int. -/
structure SortC (P : Program) (g : Nat) : Prop where
  ent : Ent P g
  nil : ∀ (p : Option Addr) (cap : Nat) (w : World), Calls P g #[.slice p 0 cap] w fun e w' => e = .returned (.tuple #[]) ∧ w' = w
  run : ∀ (b o cap : Nat) (L : List Int) (c : Array Value) (T : TypeId) (w : World), w.heap[b]? = some (Obj.cells c T (0, 0)) → o + L.length ≤ c.size → (∀ j, j < L.length → c.getD (o + j) undef = .int .i64 (L.getD j 0)) → L.length ≤ 1000000 →
    Calls P g #[.slice (some ⟨b, o, none⟩) L.length cap] w fun e w' => e = .returned (.tuple #[]) ∧ ∃ c', (c'.size = c.size ∧ ∀ j, c'.getD j undef = if o ≤ j ∧ j < o + L.length then .int .i64 ((srtL L).getD (j - o) 0) else c.getD j undef) ∧ Below w.heap.size (w.setRow b c') w'
/-- A call of a function that is lent a row of one's own. -/
def ipV (P : Program) (f : AV) (l : List AV) (x' : Nat → DV) (y : AV) (st : St) : Option (Prop × AV × St) :=
  match f, l with
  | .d (.fn gf 0 0 _ _), .ms id k off n :: l' => match st.hp id with
    | some (.row true U k' m x) => bif Nat.beq k' k then
        some ((off = 0 ∧ m = n ∧ reachs st l' = [] ∧ okDVs st l') ∧ FnI P gf U k n x x' (l'.map (toDV fuel st.hp)) y, y.nm id, st.set id (some (.row true U k n x'))) else none
    | _ => none
  | _, _ => none
/-- A memory that is a map. -/
def isMp (st : St) (id : Nat) : Bool := match st.hp id with
  | some (.mp ..) => true
  | _ => false
def callV (P : Program) (i : Nat) (f : AV) (l : List AV) (r : CR) (st : St) : Option (Prop × AV × St) :=
  match r with
  | .dv r => match calleeV f l with
    | some (g, l) => some (okDVs st l ∧ Fn P g (l.map (toDV fuel st.hp)) r, .d r, bif r.flat then st else st.frzs (reachs st l))
    | none => none
  | .ip x' y => ipV P f l x' y st
  | .nw R y => match calleeV f l with
    | some (g, l) => some ((okDVs st l ∧ R.nw = true) ∧ FnN P g (l.map (toDV fuel st.hp)) R y, y.nm i, (st.frzs (reachs st l)).set i (some (R.nm i)))
    | none => none
  | .ln r => match calleeV f l with
    | some (g, l) => bif (reachs st l).all (isMp st) then some ((okDVs st l ∧ NoMp r) ∧ Fn P g (l.map (toDV fuel st.hp)) r, .d r, st) else none
    | none => none
/-! ### Maps -/
def intsOf (f : Nat → AV) : Nat → Nat → Option (List Int)
  | _, 0 => some []
  | j, n + 1 => match asI (f j) with
    | some (k, a) => bif IntKind.eq k .i64 then (match intsOf f (j + 1) n with
      | some l => some (a :: l)
      | none => none) else none
    | none => none
/-- A key, read off a slot. -/
def keyA (kt : KT) (x : AV) : Option (List Int) :=
  match kt.ag with
  | true => match aggV x with
    | some (m, f) => bif Nat.beq m kt.n then intsOf f 0 kt.n else none
    | none => none
  | false => bif Nat.beq kt.n 1 then intsOf (fun _ => x) 0 1 else none
def nthI : List Int → Nat → DV
  | [], _ => int 0
  | x :: l, j => match j with
    | 0 => int x
    | j + 1 => nthI l j
theorem nthI_eq : ∀ (l : List Int) (j : Nat), nthI l j = int (l.getD j 0)
  | [], j => by simp [nthI]
  | x :: l, 0 => by simp [nthI]
  | x :: l, j + 1 => by rw [nthI, nthI_eq l j]; simp
def keyD (kt : KT) (l : List Int) : DV :=
  match kt.ag with
  | true => .ag kt.n fun j => nthI l j
  | false => nthI l 0
def delM (m : List Int → Option Int) (l : List Int) : List Int → Option Int := fun j => if j = l then none else m j
def ktEq (a b : KT) : Bool := Nat.beq a.n b.n && (match a.ag with
  | true => b.ag
  | false => !b.ag)
def kmp (T : Nat → Option TI) (t : Nat) : Option KT :=
  match T t with
  | some ti => ti.mp
  | none => none
def mapOf (st : St) : AV → Option (KT × (List Int → Option Int))
  | .mp id => match st.hp id with
    | some (.mp _ kt m) => some (kt, m)
    | _ => none
  | .d (.mp kt m) => some (kt, m)
  | _ => none
/-- The same; a map with an entry that is looked at: what it has for a key. -/
def lkOf (st : St) (co : Bool) : AV → Option (KT × (List Int → Option Int))
  | .mp id => match st.hp id with
    | some (.mp _ kt m) => some (kt, m)
    | some (.me _ kt m _ _) => match co with
      | true => none
      | false => some (kt, m)
    | _ => none
  | .d (.mp kt m) => some (kt, m)
  | _ => none
/-- The entry of a key (made, if there is none): what it has, and its stamp. -/
def mentV (T : Nat → Option TI) (i t : Nat) (m k : AV) (st : St) : Option (Prop × AV × St) :=
  match kmp T t, m with
  | some kt, .mp id => match st.hp id, keyA kt k with
    | some (.mp true kt' f), some l => bif ktEq kt kt' then some (True, .tp 2 (fun j => match j with
        | 0 => .d (.v (.int .i64 ((f l).getD 0)))
        | _ => .stp i), st.set id (some (.me true kt' f l i))) else none
    | _, _ => none
  | _, _ => none
def mestV (m s v : AV) (st : St) : Option (Prop × AV × St) :=
  match m, s, asI v with
  | .mp id, .stp g, some (vk, a) => match st.hp id with
    | some (.me true kt f l g') => bif Nat.beq g g' && IntKind.eq vk .i64 then some (True, .d .top, st.set id (some (.mp true kt (updM f l a)))) else none
    | _ => none
  | _, _, _ => none
def makeMapV (T : Nat → Option TI) (i t : Nat) (st : St) : Option (Prop × AV × St) :=
  match kmp T t with
  | some kt => some (True, .mp i, st.set i (some (.mp true kt fun _ => none)))
  | none => none
def updV (T : Nat → Option TI) (t : Nat) (m k v : AV) (st : St) : Option (Prop × AV × St) :=
  match kmp T t, m, asI v with
  | some kt, .mp id, some (vk, a) => match st.hp id, keyA kt k with
    | some (.mp true kt' f), some l => bif ktEq kt kt' && IntKind.eq vk .i64 then some (True, .d .top, st.set id (some (.mp true kt' (updM f l a)))) else none
    | _, _ => none
  | _, _, _ => none
def delV (T : Nat → Option TI) (t : Nat) (m k : AV) (st : St) : Option (Prop × AV × St) :=
  match kmp T t, m with
  | some kt, .mp id => match st.hp id, keyA kt k with
    | some (.mp true kt' f), some l => bif ktEq kt kt' then some (True, .d .top, st.set id (some (.mp true kt' (delM f l)))) else none
    | _, _ => none
  | _, _ => none
def lookV (T : Nat → Option TI) (t : Nat) (m k : AV) (co : Bool) (st : St) : Option (Prop × AV × St) :=
  match kmp T t, lkOf st co m with
  | some kt, some (kt', f) => match keyA kt k with
    | some l => bif ktEq kt kt' then some (True, .d (match co with
      | true => .tp 2 fun j => match j with
        | 0 => .v (.int .i64 ((f l).getD 0))
        | _ => .v (.bool (f l).isSome)
      | false => .v (.int .i64 ((f l).getD 0))), st) else none
    | none => none
  | _, _ => none
def rangeMapV (T : Nat → Option TI) (i t : Nat) (x : AV) (st : St) : Option (Prop × AV × St) :=
  match kmp T t with
  | some _ => match x with
    | .d (.mp kt f) => some (True, .ref i 0, st.set i (some (.it true kt f [] none)))
    | .mp id => match st.hp id with
      | some (.mp _ kt f) => some (True, .ref i 0, (st.frz id).set i (some (.it true kt f [] none)))
      | _ => none
    | _ => none
  | none => none
def entryV (x : AV) (st : St) : Option (Prop × AV × St) :=
  match x with
  | .ref id 0 => match st.hp id with
    | some (.it _ kt _ _ (some (l, v))) => some (True, .d (.tp 2 fun j => match j with
      | 0 => keyD kt l
      | _ => .v (.int .i64 v)), st)
    | _ => none
  | _ => none
/-- A slice of a whole array. -/
def sliceArrV (T : Nat → Option TI) (t : Nat) (x : AV) (st : St) : Option (Prop × AV × St) :=
  match T t with
  | some ti => match ti.d with
    | .array len e => match T e with
      | some te => bif Nat.beq te.size 1 then match x with
        | .el id k i 0 => match st.hp id with
          | some (.row _ _ k' n _) => bif Nat.beq k k' then
              (bif Nat.beq k 1 then (bif Nat.ble len 65536 then some (i = 0 ∧ n = len, .ms id 1 0 len, st) else none)
              else bif Nat.beq k len then some (i < n, .sub id k i, st) else none) else none
          | _ => none
        | _ => none
        else none
      | none => none
    | _ => none
  | none => none
/-- A slice of an array's first elements. -/
def sliceHiV (T : Nat → Option TI) (t : Nat) (x : AV) (h : Int) (st : St) : Option (Prop × AV × St) :=
  match T t with
  | some ti => match ti.d with
    | .array len e => match T e with
      | some te => bif Nat.beq te.size 1 then match x with
        | .el id k i 0 => match st.hp id with
          | some (.row _ _ k' n _) => bif Nat.beq k k' && Nat.beq k 1 && Nat.ble len 65536 then some (i = 0 ∧ n = len ∧ 0 ≤ h ∧ h ≤ len, .ms id 1 0 h.toNat, st) else none
          | _ => none
        | _ => none
        else none
      | none => none
    | _ => none
  | none => none
/-- One operation; i: the name of what it makes; r: what it calls gives. -/
def stepV (P : Program) (T : Nat → Option TI) (i : Nat) (op : Op) (ty : Nat) (st : St) (r : CR) : Option (Prop × AV × St) :=
  match op with
  | .load t x => match T t with
    | some ti => (loadV ti st.hp (st.ev x)).map fun p => (p.1, p.2, st)
    | none => none
  | .alloc t => allocV T i t st
  | .box t x => boxV T i t (st.ev x) st
  | .buildSlice t len parts => buildSliceV T i t len parts.toList st
  | .makeSlice t l c => makeSliceV T i t (st.ev l) (st.ev c) st
  | .store t ad x => (storeV T t (st.ev ad) (st.ev x) st).map fun p => (p.1, .d .top, p.2)
  | .assign (.const (.slice none 0 0)) => nilV T i ty st
  | .slice t x none hi (some mx) => match st.ev x with
    | .ms .. => match optI st.ev hi, optI st.ev (some mx) with
      | some hi, some mx => slice3V T t (st.ev x) hi mx st
      | _, _ => none
    | _ => (pureV T (.slice t x none hi (some mx)) st.ev).map fun p => (p.1, p.2, st)
  | .slice t x none none none => match st.ev x with
    | .el id k j o => sliceArrV T t (.el id k j o) st
    | _ => (pureV T (.slice t x none none none) st.ev).map fun p => (p.1, p.2, st)
  | .slice t x none (some hi) none => match st.ev x with
    | .el id k j o => match optI st.ev (some hi) with
      | some (some h) => sliceHiV T t (.el id k j o) h st
      | _ => none
    | _ => (pureV T (.slice t x none (some hi) none) st.ev).map fun p => (p.1, p.2, st)
  | .makeMap t none => makeMapV T i t st
  | .mapUpdate t m k v => updV T t (st.ev m) (st.ev k) (st.ev v) st
  | .insert t m k v => updV T t (st.ev m) (st.ev k) (st.ev v) st
  | .lookup t m k co => lookV T t (st.ev m) (st.ev k) co st
  | .range t x => rangeMapV T i t (st.ev x) st
  | .entry x => entryV (st.ev x) st
  | .mapEntry t m k => mentV T i t (st.ev m) (st.ev k) st
  | .entryStore _ m s v => mestV (st.ev m) (st.ev s) (st.ev v) st
  | .call c => match c.callee with
    | .builtin .append => match c.args.toList, c.argTypes.toList with
      | [s, x], [t, u] => bif Nat.beq t u then appendV T i t (st.ev s) (st.ev x) st else none
      | _, _ => none
    | .builtin .copy => match c.args.toList, c.argTypes.toList with
      | [d, s], [t, u] => bif Nat.beq t u then copyV T t (st.ev d) (st.ev s) st else none
      | _, _ => none
    | .builtin .clear => match c.args.toList, c.argTypes.toList with
      | [x], [t] => clearV T t (st.ev x) st
      | _, _ => none
    | .builtin .delete => match c.args.toList, c.argTypes.toList with
      | [m, k], [t, _] => delV T t (st.ev m) (st.ev k) st
      | _, _ => none
    | .value f => callV P i (st.ev f) (c.args.toList.map st.ev) r st
    | _ => (pureV T (.call c) st.ev).map fun p => (p.1, p.2, st)
  | op => (pureV T op st.ev).map fun p => (p.1, p.2, st)
end Go.Px
end

/-! PxK -/
noncomputable section
namespace Go.Px
open Go Go.RowKit
def Made (P : Program) (B : Base) (Fr : Nat → Prop) (i : Nat) (st' : St) (a : Act) (W : World) (ρ : Operand → Value) (o : Oper) (x : AV) : Prop :=
  ∃ E' r v W', (execOp ρ o).run P W = .ok r W' ∧ (r = .value v ∨ (r = .skip ∧ v = undef)) ∧ Sat B (fun j => Fr j ∧ j ≠ i) E' st' a W' ∧ RepA E' W' x v
theorem Sat.weak {B : Base} {Fr Fr' : Nat → Prop} {E : Env} {st : St} {a : Act} {W : World} (h : Sat B Fr E st a W) (hf : ∀ j, Fr' j → Fr j) : Sat B Fr' E st a W :=
  ⟨h.size, h.tm, h.hp, h.dist, fun j hj => h.fr j (hf j hj), h.sub, h.sup, h.s0, h.df, h.dn, h.dd, h.g, h.r0⟩
theorem set_hp_self (st : St) (id : Nat) (r : Option Res) : (st.set id r).hp id = r := by show (bif Nat.beq id id then _ else _) = _; rw [beq_self]; rfl
theorem set_hp_other (st : St) {id j : Nat} (r : Option Res) (h : j ≠ id) : (st.set id r).hp j = st.hp j := by show (bif Nat.beq j id then _ else _) = _; rw [beq_ne h]; rfl
theorem env_set_self (E : Env) (id : Nat) (l : Loc) : (E.set id l).ρ id = l := by show (bif Nat.beq id id then _ else _) = _; rw [beq_self]; rfl
section
variable {P : Program} {T : Nat → Option TI} {B : Base} {Fr : Nat → Prop} {E : Env} {st : St} {a : Act} {W : World}
theorem fresh_own (h : Sat B Fr E st a W) (id : Nat) (l : Loc) : ¬ (E.set id l).S W.heap.size ∧ B.ow W.heap.size :=
  ⟨fun hS => absurd (h.S_lt _ hS) (Nat.lt_irrefl _), B.how W h.g _ (Nat.le_refl _)⟩
theorem ev_new (h : Sat B Fr E st a W) {id : Nat} (hf : Fr id) (l : Loc) (o : Obj) : Ev E W (E.set id l) (W.alloc o) := by
  have hbel : Below W.heap.size W (W.alloc o) := (Below.refl _ W).alloc (Nat.le_refl _) _
  exact ⟨fun _ h => h, fun b hb => hbel.block b (h.S_lt b hb), (Ev.set (W := W) (h.fr id hf)).r, fun b cc _ hcc => ⟨cc, (hbel.block b (Array.getElem?_eq_some_iff.1 hcc).1).trans hcc, rfl⟩⟩
theorem new_heap (W : World) (o : Obj) : (W.alloc o).heap[W.heap.size]? = some o := by
  show (W.heap.push o)[W.heap.size]? = _
  simp
theorem made_new (h : Sat B Fr E st a W) {i : Nat} (hf : Fr i) {ρ : Operand → Value} {o : Oper} {c : Array Value} {U : TypeId} {r : Res} {x : AV} {v : Value}
    (hrun : (execOp ρ o).run P W = .ok (.value v) (W.alloc (.cells c U (0, 0))))
    (hr : SatR B (E.set i (.at W.heap.size)) (W.alloc (.cells c U (0, 0))) i r) (hx : RepA (E.set i (.at W.heap.size)) (W.alloc (.cells c U (0, 0))) x v) : Made P B Fr i (st.set i (some r)) a W ρ o x :=
  ⟨_, _, v, _, hrun, .inl rfl, h.new hf hr, hx⟩
theorem new_cs (h : Sat B Fr E st a W) {i : Nat} (hf : Fr i) {c : Array Value} {U : TypeId} {n : Nat} {f : Nat → AV} (hs : c.size = n) (hc : ∀ j, j < n → RepA E W (f j) (c.getD j undef) ∧ (c.getD j undef).oneCell' = true) :
    SatR B (E.set i (.at W.heap.size)) (W.alloc (.cells c U (0, 0))) i (.cs true n f) :=
  ⟨W.heap.size, c, U, env_set_self _ _ _, new_heap _ _, hs, fresh_own h _ _, fun j hj => ⟨(hc j hj).1.ev (ev_new h hf _ _), (hc j hj).2⟩⟩
theorem new_row (h : Sat B Fr E st a W) {i : Nat} (hf : Fr i) {c : Array Value} {U k n : Nat} {f : Nat → DV} (hs : n * k ≤ c.size) (hc : ∀ j, j < n → RepC E.S W k (f j) (fun q => c.getD (j * k + q) undef) ∧ ∀ q, q < k → (c.getD (j * k + q) undef).oneCell' = true) :
    SatR B (E.set i (.at W.heap.size)) (W.alloc (.cells c U (0, 0))) i (.row true U k n f) :=
  .inr ⟨W.heap.size, c, env_set_self _ _ _, new_heap _ _, hs, fresh_own h _ _, fun j hj => ⟨(hc j hj).1.ev (ev_new h hf (.at W.heap.size) (.cells c U (0, 0))), (hc j hj).2⟩⟩
theorem isZ_of {k : IntKind} {v : Value} (h : isZ k v = true) : v = .int k 0 := by
  unfold isZ at h
  split at h
  · rw [IntKind.eq_of h]
  · cases h
theorem newVar_run (t : Nat) (v : Value) : (newVar t v).run P W = .ok ⟨W.heap.size, 0, none⟩ (W.alloc (.cells v.cells t (0, 0))) := by
  simp only [newVar, newRow, newObj, Sem.run_bind, Sem.run_pure]
  rfl
theorem arrOf_size {ti te : TI} {n : Nat} (h : arrOf T ti = some (n, te)) : ti.size = n := by
  unfold arrOf at h
  split at h
  · rename_i n' e hd
    split at h
    · rename_i te' hte
      cases hg : te'.agg with
      | true => rw [hg] at h; cases h
      | false =>
        rw [hg] at h
        simp only [cond_false] at h
        cases hb : (Nat.beq te'.size 1 && Nat.beq ti.size n') with
        | false => rw [hb] at h; cases h
        | true => rw [hb] at h; cases h; rw [Bool.and_eq_true] at hb; exact Nat.eq_of_beq_eq_true hb.2
    · cases h
  · cases h
theorem alloc_sound (hT : TsOk P T) (h : Sat B Fr E st a W) {i : Nat} (hf : Fr i) {ρ : Operand → Value} (o : Oper) {t : Nat} (ho : o.op = .alloc t) {c : Prop} {x : AV} {st' : St} (hv : allocV T i t st = some (c, x, st')) :
    Made P B Fr i st' a W ρ o x := by
  unfold allocV at hv
  cases ht : T t with
  | none => rw [ht] at hv; cases hv
  | some ti =>
    rw [ht] at hv
    simp only [] at hv
    have hk := hT t ti ht
    have hrun : (execOp ρ o).run P W = .ok (.value (.pointer (some ⟨W.heap.size, 0, none⟩))) (W.alloc (.cells ti.z.cells t (0, 0))) := by
      simp only [execOp, ho, Instr.alloc, Sem.run_bind, hk.zeroValue, Result.andThen_ok, newVar_run, Sem.run_pure]
    cases hA : isArr ti with
    | true =>
      rw [hA] at hv
      simp only [cond_true] at hv
      split at hv
      · rename_i n te hao
        split at hv
        · rename_i k hd
          cases hz : ti.z.cells.toList.all (isZ k) with
          | false => rw [hz] at hv; cases hv
          | true =>
            rw [hz] at hv
            simp only [cond_true, Option.some.injEq, Prod.mk.injEq] at hv
            obtain ⟨-, rfl, rfl⟩ := hv
            have hsz : ti.size = n := arrOf_size hao
            refine made_new h hf hrun (new_row h hf (by rw [hk.zs, hsz]; omega) fun j hj => ?_) ⟨W.heap.size, env_set_self _ _ _, by simp⟩
            have hlt : j < ti.z.cells.size := by rw [hk.zs]; omega
            have hval : ti.z.cells.getD j undef = .int k 0 := by
              rw [Array.getD_eq_getD_getElem?, Array.getElem?_eq_getElem hlt]
              exact isZ_of (List.all_eq_true.1 hz _ (by simp))
            refine ⟨⟨rfl, ?_⟩, fun q hq => ?_⟩
            · simp only [Nat.mul_one, Nat.add_zero, hval]; rfl
            · obtain rfl : q = 0 := by omega
              simp only [Nat.mul_one, Nat.add_zero, hval]; rfl
        · cases hv
      · cases hv
    | false =>
      rw [hA] at hv
      simp only [cond_false, Option.some.injEq, Prod.mk.injEq] at hv
      obtain ⟨-, rfl, rfl⟩ := hv
      exact made_new h hf hrun (new_cs h hf hk.zs fun j hj => cell_zero hk j hj) ⟨W.heap.size, env_set_self _ _ _, rfl⟩
theorem repC_dOf {S : Nat → Prop} {y : AV} {c : Nat → Value} (hS : E.S = S) (h : RepA E W y (c 0)) : RepC S W 1 (dOf y) c := by
  subst hS
  cases y with
  | d z => cases z <;> first | exact trivial | exact ⟨rfl, h⟩
  | _ => exact trivial
theorem box_sound (h : Sat B Fr E st a W) {i : Nat} (hf : Fr i) {ρ : Operand → Value} (hev : ∀ x, RepA E W (st.ev x) (ρ x)) (o : Oper) {t : Nat} {y : Operand} (ho : o.op = .box t y) {c : Prop} {x : AV} {st' : St} (hv : boxV T i t (st.ev y) st = some (c, x, st')) :
    Made P B Fr i st' a W ρ o x := by
  unfold boxV at hv
  split at hv
  · rename_i ti m ht hl
    obtain ⟨hs, hc⟩ := cells_of (hev y) hl
    have hrun : (execOp ρ o).run P W = .ok (.value (.pointer (some ⟨W.heap.size, 0, none⟩))) (W.alloc (.cells (ρ y).cells t (0, 0))) := by
      simp only [execOp, ho, Instr.box, Sem.run_bind, newVar_run, Result.andThen_ok, Sem.run_pure]
    cases hA : isArr ti with
    | true =>
      rw [hA] at hv
      simp only [cond_true] at hv
      split at hv
      · rename_i n te hao
        cases hb : Nat.beq m n with
        | false => rw [hb] at hv; cases hv
        | true =>
          rw [hb] at hv
          simp only [cond_true, Option.some.injEq, Prod.mk.injEq] at hv
          obtain ⟨-, rfl, rfl⟩ := hv
          have hmn := Nat.eq_of_beq_eq_true hb
          refine made_new h hf hrun (new_row h hf (by omega) fun j hj => ⟨repC_dOf rfl ?_, fun q hq => ?_⟩) ⟨W.heap.size, env_set_self _ _ _, by simp⟩
          · simp only [Nat.mul_one, Nat.add_zero]; exact (hc j (by omega)).1
          · obtain rfl : q = 0 := by omega
            simp only [Nat.mul_one, Nat.add_zero]; exact (hc j (by omega)).2
      · cases hv
    | false =>
      rw [hA] at hv
      simp only [cond_false, Option.some.injEq, Prod.mk.injEq] at hv
      obtain ⟨-, rfl, rfl⟩ := hv
      exact made_new h hf hrun (new_cs h hf hs hc) ⟨W.heap.size, env_set_self _ _ _, rfl⟩
  · cases hv
/-- The memories of a list given up. -/
theorem Sat.frzs : ∀ (l : List Nat) {E : Env} {st : St}, Sat B Fr E st a W → ∃ E', Sat B Fr E' (st.frzs l) a W ∧ Ev E W E' W ∧ (∀ id ∈ l, st.hp id ≠ none → ∀ b, E.ρ id = .at b → E'.S b) ∧ E'.ρ = E.ρ ∧ (∀ id, id ∉ l → (st.frzs l).hp id = st.hp id)
  | [], E, st, h => ⟨E, h, Ev.refl E W, fun id hid => absurd hid (by simp), rfl, fun _ _ => rfl⟩
  | id :: l, E, st, h => by
    cases hid : st.hp id with
    | none =>
      have e : st.frz id = st := by unfold St.frz; rw [hid]
      obtain ⟨E', h1, h2, h3, h4, h5⟩ := Sat.frzs l h
      refine ⟨E', by show Sat B Fr E' ((st.frz id).frzs l) a W; rw [e]; exact h1, h2, fun j hj hn => ?_, h4, fun j hj => by show ((st.frz id).frzs l).hp j = _; rw [e]; exact h5 j (by simp at hj; exact hj.2)⟩
      rcases List.mem_cons.1 hj with rfl | hj
      · exact absurd hid hn
      · exact h3 j hj hn
    | some r =>
      have e : st.frz id = st.set id (some r.imm) := by unfold St.frz; rw [hid]
      have hf := h.frz hid
      obtain ⟨E', h1, h2, h3, h4, h5⟩ := Sat.frzs l hf
      have hev : Ev E W (E.frz id) W := ⟨fun _ h => .inl h, fun _ _ => rfl, fun _ _ => rfl, fun _ c _ h => ⟨c, h, rfl⟩⟩
      refine ⟨E', by show Sat B Fr E' ((st.frz id).frzs l) a W; rw [e]; exact h1, ⟨fun b hb => h2.s b (hev.s b hb), fun _ _ => rfl, fun j hj => (h2.r j hj), fun b c T hc => ⟨c, hc, rfl⟩⟩, fun j hj hn b hb => ?_, h4, fun j hj => ?_⟩
      · rcases List.mem_cons.1 hj with rfl | hj
        · exact h2.s b (.inr hb)
        · by_cases ej : j = id
          · subst ej; exact h2.s b (.inr hb)
          · exact h3 j hj (by rw [set_hp_other st _ ej]; exact hn) b hb
      · show ((st.frz id).frzs l).hp j = _
        simp only [List.mem_cons, not_or] at hj
        rw [e, h5 j hj.2, set_hp_other st _ hj.1]
/-- What an element is, read as data, in the world where what it leads to has been given up. -/
theorem repC_toDV (h : Sat B Fr E st a W) {S : Nat → Prop} (hS : ∀ b, E.S b → S b) {x : AV} {u : Value} {k : Nat} (hl : lenA x = some k) (hok : okDV fuel st.hp x) (hre : ∀ id ∈ reach fuel st.hp x, ∀ b, E.ρ id = .at b → S b) (hx : RepA E W x u) :
    RepC S W k (toDV fuel st.hp x) (fun j => u.cells.getD j undef) := by
  have hr := toDV_sound h hS fuel x u hok hre hx
  by_cases ha : aggA x = true
  · cases x with
    | ag m f =>
      simp only [lenA, Option.some.injEq] at hl
      subst hl
      obtain ⟨cs, rfl, _, hc⟩ := hr
      exact ⟨rfl, fun j hj => (hc j hj).1⟩
    | d y =>
      cases y with
      | ag m f =>
        simp only [lenA, Option.some.injEq] at hl
        subst hl
        obtain ⟨cs, rfl, _, hc⟩ := hr
        exact ⟨rfl, fun j hj => (hc j hj).1⟩
      | _ => cases ha
    | _ => cases ha
  · have h0 : (bif avOne x then some 1 else none) = some k := by
      cases x with
      | ag m f => exact absurd rfl ha
      | d y => cases y with
        | ag m f => exact absurd rfl ha
        | _ => exact hl
      | _ => exact hl
    cases h1 : avOne x with
    | false => rw [h1] at h0; cases h0
    | true =>
      rw [h1] at h0
      simp only [cond_true, Option.some.injEq] at h0
      subst h0
      have ho := hx.one h1
      have hc : u.cells = #[u] := by cases u <;> first | rfl | cases ho
      rw [hc]
      have hne : ∀ n f, toDV fuel st.hp x ≠ .ag n f := by
        intro n f e
        cases x with
        | ag m f => exact absurd rfl ha
        | d y => cases y with
          | ag m f => exact absurd rfl ha
          | _ => cases e
        | ref id off => simp only [toDV, fuel] at e; split at e <;> cases e
        | el id k i off =>
          simp only [toDV, fuel] at e
          split at e
          · revert e
            cases arrB _ _ _ _ <;> intro e <;> cases e
          · cases e
        | ms id k off m => simp only [toDV, fuel] at e; split at e <;> cases e
        | fn g p q f c => cases e
        | mp id => simp only [toDV, fuel] at e; split at e <;> cases e
        | tp m f => cases e
        | sub id k i => cases e
        | stp id => cases e
      unfold RepC
      split
      · rename_i n f e; exact absurd e (hne n f)
      · trivial
      · exact ⟨rfl, hr⟩
end
end Go.Px
end

/-! PxL -/
noncomputable section
namespace Go.Px
open Go Go.RowKit
theorem fold_set (o : Nat) : ∀ (us : List Value) (d : Nat) (cur : Array Value), o + d + us.length ≤ cur.size → ((us.zipIdx d).foldl (fun (cs : Array Value) (c, j) => cs.setIfInBounds (o + j) c) cur).size = cur.size ∧
    ∀ j, ((us.zipIdx d).foldl (fun (cs : Array Value) (c, j) => cs.setIfInBounds (o + j) c) cur).getD j undef = if o + d ≤ j ∧ j < o + d + us.length then us.getD (j - (o + d)) undef else cur.getD j undef := by
  intro us
  induction us with
  | nil => intro d cur _; exact ⟨rfl, fun j => by rw [if_neg (by simp), List.zipIdx_nil, List.foldl_nil]⟩
  | cons u us ih =>
    intro d cur hle
    simp only [List.length_cons] at hle
    rw [List.zipIdx_cons, List.foldl_cons]
    obtain ⟨i1, i2⟩ := ih (d + 1) (cur.setIfInBounds (o + d) u) (by rw [Array.size_setIfInBounds]; omega)
    refine ⟨by rw [i1, Array.size_setIfInBounds], fun j => ?_⟩
    rw [i2]
    by_cases h1 : o + (d + 1) ≤ j ∧ j < o + (d + 1) + us.length
    · rw [if_pos h1, if_pos (by simp only [List.length_cons]; omega)]
      obtain ⟨e, he⟩ : ∃ e, j - (o + d) = e + 1 := ⟨j - (o + d) - 1, by omega⟩
      rw [he, List.getD_cons_succ]
      congr 1; omega
    · rw [if_neg h1]
      by_cases h2 : j = o + d
      · subst h2
        rw [if_pos (by simp only [List.length_cons]; omega), Nat.sub_self, List.getD_cons_zero]
        rw [Array.getD_eq_getD_getElem?, Array.getElem?_setIfInBounds_self_of_lt (by omega)]; rfl
      · rw [if_neg (by simp only [List.length_cons]; omega)]
        rw [Array.getD_eq_getD_getElem?, Array.getD_eq_getD_getElem?, Array.getElem?_setIfInBounds_ne (by omega)]
/-- n elements of k cells each, in an array from the cell o on. -/
def Els (S : Nat → Prop) (W : World) (k n : Nat) (f : Nat → DV) (N : Nat → Value) : Prop :=
  ∀ j, j < n → RepC S W k (f j) (fun q => N (j * k + q)) ∧ ∀ q, q < k → (N (j * k + q)).oneCell' = true
theorem mul_lt {i n k q : Nat} (hi : i < n) (hq : q < k) : i * k + q < n * k := by
  have : (i + 1) * k ≤ n * k := Nat.mul_le_mul_right k hi
  rw [Nat.add_mul] at this; omega
theorem div_mod_of {i k q : Nat} (hq : q < k) : (i * k + q) / k = i ∧ (i * k + q) % k = q := by
  have hk : 0 < k := by omega
  constructor
  · rw [Nat.add_comm, Nat.add_mul_div_right _ _ hk, Nat.div_eq_of_lt hq, Nat.zero_add]
  · rw [Nat.add_comm, Nat.add_mul_mod_self_right, Nat.mod_eq_of_lt hq]
theorem RepC.congr {S : Nat → Prop} {W : World} {k : Nat} {x : DV} {c c' : Nat → Value} (h : RepC S W k x c) (he : ∀ j, j < k → c' j = c j) : RepC S W k x c' := by
  unfold RepC at *
  split
  · rename_i n f
    exact ⟨h.1, fun j hj => by rw [he j (by have := h.1; omega)]; exact h.2 j hj⟩
  · trivial
  · rename_i x h1 h2
    revert h
    split
    · rename_i n f; exact absurd rfl (h1 n f)
    · exact absurd rfl h2
    · exact fun h => ⟨h.1, by rw [he 0 (by have := h.1; omega)]; exact h.2⟩
theorem zE_rep {P : Program} {te : TI} {e : Nat} (hk : TOk P te e) (S : Nat → Prop) (W : World) (c : Nat → Value) (hc : ∀ q, q < te.size → c q = te.z.cells.getD q undef) :
    RepC S W te.size (zE te) c := by
  unfold zE
  cases hg : te.agg with
  | true => exact ⟨rfl, fun j hj => hc j hj⟩
  | false =>
    obtain ⟨h2, h3⟩ := hk.z0 hg
    refine ⟨h2, ?_⟩
    have := hc 0 (by omega)
    have hz : te.z.cells = #[te.z] := by cases hz : te.z <;> first | rfl | (rw [hz] at h3; cases h3)
    rw [hz] at this
    exact this
section
variable {P : Program} {T : Nat → Option TI} {B : Base} {Fr : Nat → Prop} {E : Env} {st : St} {a : Act} {W : World}
theorem fillE_run {S : Nat → Prop} (h : Sat B Fr E st a W) (hS : ∀ b, E.S b → S b) {ρ : Operand → Value} (hev : ∀ x, RepA E W (st.ev x) (ρ x)) {k len : Nat} : ∀ (l : List (Nat × Operand)) (z : Nat → DV) (cells : Array Value) (al : List (Nat × DV)),
    partsE st k len st.ev l = some al → cells.size = len * k → okDVs st (l.map fun p => st.ev p.2) → (∀ id ∈ reachs st (l.map fun p => st.ev p.2), ∀ b, E.ρ id = .at b → S b) → Els S W k len z (fun j => cells.getD j undef) →
    ∃ cs, Instr.fill (fun i => some (i * k, k)) cells (l.map fun (i, x) => (i, ρ x)) = some cs ∧ cs.size = len * k ∧ Els S W k len (fillE z al) (fun j => cs.getD j undef)
  | [], z, cells, al, hl, hs, _, _, hz => by
    simp only [partsE, Option.some.injEq] at hl
    subst hl
    exact ⟨cells, rfl, hs, hz⟩
  | (i, x) :: l, z, cells, al, hl, hs, hok, hre, hz => by
    simp only [partsE] at hl
    cases hn : lenA (st.ev x) with
    | none => rw [hn] at hl; cases hl
    | some n =>
      rw [hn] at hl
      simp only [] at hl
      cases hb : (Nat.beq n k && Nat.blt i len) with
      | false => rw [hb] at hl; cases hl
      | true =>
        rw [hb] at hl
        simp only [cond_true, Option.map_eq_some_iff] at hl
        obtain ⟨al', hal, rfl⟩ := hl
        rw [Bool.and_eq_true] at hb
        obtain rfl := Nat.eq_of_beq_eq_true hb.1
        have hi := blt_iff.1 hb.2
        obtain ⟨hcs, hcj⟩ := cells_of (hev x) hn
        have hle : i * n + n ≤ len * n := by
          have : (i + 1) * n ≤ len * n := Nat.mul_le_mul_right n hi
          rw [Nat.add_mul] at this; omega
        simp only [List.map_cons, Instr.fill]
        rw [if_neg (by simp only [Bool.or_eq_true, decide_eq_true_eq, ne_eq, not_or, Classical.not_not]; exact ⟨hcs, by omega⟩)]
        have hkey := fold_set (i * n) (ρ x).cells.toList 0 cells (by rw [Array.length_toList, hcs, hs]; omega)
        have hfold : (ρ x).cells.zipIdx.foldl (fun (cs : Array Value) (c, j) => cs.setIfInBounds (i * n + j) c) cells = ((ρ x).cells.toList.zipIdx 0).foldl (fun (cs : Array Value) (c, j) => cs.setIfInBounds (i * n + j) c) cells := by
          rw [← Array.foldl_toList, Array.toList_zipIdx]
        rw [hfold]
        have hrc := repC_toDV h hS hn hok.1 (fun id hid => hre id (by simp only [reachs, List.map_cons, List.flatMap_cons]; exact List.mem_append_left _ hid)) (hev x)
        refine fillE_run h hS hev l _ _ al' hal (by rw [hkey.1, hs]) hok.2 (fun id hid => hre id (by simp only [reachs, List.map_cons, List.flatMap_cons]; exact List.mem_append_right _ hid)) fun j hj => ?_
        have e2 : ∀ q, (ρ x).cells.toList.getD q undef = (ρ x).cells.getD q undef := fun q => by
          rw [Array.getD_eq_getD_getElem?, List.getD_eq_getElem?_getD, Array.getElem?_toList]
        by_cases e : j = i
        · subst e
          have e3 : ∀ q, q < n → (((ρ x).cells.toList.zipIdx 0).foldl (fun (cs : Array Value) (c, q) => cs.setIfInBounds (j * n + q) c) cells).getD (j * n + q) undef = (ρ x).cells.getD q undef := fun q hq => by
            rw [hkey.2, if_pos (by rw [Array.length_toList, hcs]; omega), e2]; congr 1; omega
          refine ⟨?_, fun q hq => ?_⟩
          · show RepC S W n (bif Nat.beq j j then _ else _) _
            rw [beq_self]
            exact hrc.congr fun q hq => e3 q hq
          · exact (congrArg Value.oneCell' (e3 q hq)).trans (hcj q hq).2
        · have e3 : ∀ q, q < n → (((ρ x).cells.toList.zipIdx 0).foldl (fun (cs : Array Value) (c, q) => cs.setIfInBounds (i * n + q) c) cells).getD (j * n + q) undef = cells.getD (j * n + q) undef := fun q hq => by
            rw [hkey.2, if_neg]
            rw [Array.length_toList, hcs]
            rintro ⟨h1, h2⟩
            rcases Nat.lt_or_gt_of_ne e with h3 | h3
            · have : (j + 1) * n ≤ i * n := Nat.mul_le_mul_right n h3
              rw [Nat.add_mul] at this; omega
            · have : (i + 1) * n ≤ j * n := Nat.mul_le_mul_right n h3
              rw [Nat.add_mul] at this; omega
          refine ⟨?_, fun q hq => ?_⟩
          · show RepC S W n (bif Nat.beq j i then _ else z j) _
            rw [beq_ne e]
            exact (hz j hj).1.congr fun q hq => e3 q hq
          · exact (congrArg Value.oneCell' (e3 q hq)).trans ((hz j hj).2 q hq)
theorem zero_cells {te : TI} {e : Nat} (hk : TOk P te e) (n : Nat) (S : Nat → Prop) (W : World) :
    ((Array.range (n * te.size)).map (te.z.cells[· % te.z.cells.size]!)).size = n * te.size ∧ Els S W te.size n (fun _ => zE te) (fun j => ((Array.range (n * te.size)).map (te.z.cells[· % te.z.cells.size]!)).getD j undef) := by
  refine ⟨by simp, fun j hj => ?_⟩
  have key : ∀ q, q < te.size → ((Array.range (n * te.size)).map (te.z.cells[· % te.z.cells.size]!)).getD (j * te.size + q) undef = te.z.cells.getD q undef := fun q hq => by
    have hlt := mul_lt hj hq
    rw [Array.getD_eq_getD_getElem?, Array.getElem?_map, Array.getElem?_range, if_pos hlt]
    simp only [Option.map_some, Option.getD_some]
    rw [hk.zs, (div_mod_of hq).2]
    have hq' : q < te.z.cells.size := by rw [hk.zs]; exact hq
    rw [getElem!_pos te.z.cells q hq', Array.getD_eq_getD_getElem?, Array.getElem?_eq_getElem hq']; rfl
  refine ⟨zE_rep hk S W _ key, fun q hq => ?_⟩
  have hq' : q < te.z.cells.size := by rw [hk.zs]; exact hq
  refine (congrArg Value.oneCell' (key q hq)).trans (hk.z1 _ ?_)
  rw [Array.getD_eq_getD_getElem?, Array.getElem?_eq_getElem hq']
  simp
theorem zero_cells0 {te : TI} {e : Nat} (hk : TOk P te e) (n : Nat) :
    (if n * te.size = 0 then (pure #[] : Sem (Array Value)) else do pure (← zeroValue e).cells).run P W = .ok (if n * te.size = 0 then #[] else te.z.cells) W := by
  split
  · rfl
  · simp only [Sem.run_bind, hk.zeroValue, Result.andThen_ok, Sem.run_pure]
theorem range_zero {te : TI} (n : Nat) : (Array.range (n * te.size)).map ((if n * te.size = 0 then #[] else te.z.cells)[· % (if n * te.size = 0 then (#[] : Array Value) else te.z.cells).size]!) = (Array.range (n * te.size)).map (te.z.cells[· % te.z.cells.size]!) := by
  split
  · rename_i h; rw [h]; simp
  · rfl
theorem buildSlice_sound (hT : TsOk P T) (h : Sat B Fr E st a W) {i : Nat} (hf : Fr i) {ρ : Operand → Value} (hev : ∀ x, RepA E W (st.ev x) (ρ x)) (o : Oper) {t len : Nat} {parts : Array (Nat × Operand)} (ho : o.op = .buildSlice t len parts) {c : Prop} {x : AV} {st' : St}
    (hv : buildSliceV T i t len parts.toList st = some (c, x, st')) (hc : c) : Made P B Fr i st' a W ρ o x := by
  unfold buildSliceV at hv
  cases ht : T t with
  | none => rw [ht] at hv; cases hv
  | some ti =>
    rw [ht] at hv
    simp only [] at hv
    split at hv
    · rename_i e hd
      cases he : T e with
      | none => rw [he] at hv; cases hv
      | some te =>
        rw [he] at hv
        simp only [] at hv
        cases hp : partsE st te.size len st.ev parts.toList with
        | none => rw [hp] at hv; cases hv
        | some l =>
          rw [hp] at hv
          simp only [] at hv
          cases hb : (Nat.ble (len * te.size) 16777216 && Nat.blt 0 te.size) with
          | false => rw [hb] at hv; cases hv
          | true =>
            rw [hb] at hv
            simp only [cond_true, Option.some.injEq, Prod.mk.injEq] at hv
            obtain ⟨rfl, rfl, rfl⟩ := hv
            rw [Bool.and_eq_true] at hb
            have hlim := Nat.le_of_ble_eq_true hb.1
            have hpos := blt_iff.1 hb.2
            have hk := hT t ti ht
            have hke := hT e te he
            obtain ⟨E', h', hev', hin, hρ, hout⟩ := h.frzs (reachs st (parts.toList.map fun p => st.ev p.2))
            obtain ⟨hz1, hz2⟩ := zero_cells hke len E'.S W
            have hre : ∀ id ∈ reachs st (parts.toList.map fun p => st.ev p.2), ∀ b, E.ρ id = .at b → E'.S b := by
              intro id hid b hb
              by_cases hn : st.hp id = none
              · exfalso
                have hm : ∀ (n : Nat) (y : AV), id ∈ reach n st.hp y → st.hp id ≠ none := by
                  intro n
                  induction n with
                  | zero => intro y hy; simp [reach] at hy
                  | succ n ih =>
                    intro y hy
                    cases y with
                    | d z => simp [reach] at hy
                    | ref j off =>
                      simp only [reach] at hy
                      split at hy
                      · rename_i mt m f hj
                        rcases List.mem_cons.1 hy with rfl | hy
                        · rw [hj]; simp
                        · obtain ⟨q, _, hq⟩ := List.mem_flatMap.1 hy; exact ih _ hq
                      · simp at hy
                    | el j k p off =>
                      simp only [reach] at hy
                      split at hy
                      · rename_i hj
                        revert hy
                        cases arrB _ _ _ _ with
                        | true => intro hy; simp at hy; subst hy; rw [hj]; simp
                        | false => intro hy; simp at hy
                      · simp at hy
                    | ms j k off m =>
                      simp only [reach] at hy
                      split at hy
                      · rename_i hj; simp at hy; subst hy; rw [hj]; simp
                      · simp at hy
                    | ag m f => obtain ⟨q, _, hq⟩ := List.mem_flatMap.1 hy; exact ih _ hq
                    | fn g p q f c =>
                      rcases List.mem_append.1 hy with hy | hy
                      · obtain ⟨q, _, hq⟩ := List.mem_flatMap.1 hy; exact ih _ hq
                      · obtain ⟨q, _, hq⟩ := List.mem_flatMap.1 hy; exact ih _ hq
                    | mp j =>
                      simp only [reach] at hy
                      split at hy
                      · rename_i hj; simp at hy; subst hy; rw [hj]; simp
                      · simp at hy
                    | tp m f => obtain ⟨q, _, hq⟩ := List.mem_flatMap.1 hy; exact ih _ hq
                    | sub j k i => simp [reach] at hy
                    | stp j => simp [reach] at hy
                obtain ⟨y, _, hy⟩ := List.mem_flatMap.1 hid
                exact hm _ y hy hn
              · exact hin id hid hn b hb
            obtain ⟨cs, hfill, hcs, hels⟩ := fillE_run h hev'.s hev parts.toList (fun _ => zE te) ((Array.range (len * te.size)).map (te.z.cells[· % te.z.cells.size]!)) l hp hz1 hc hre hz2
            have hrun : (execOp ρ o).run P W = .ok (.value (.slice (some ⟨W.heap.size, 0, none⟩) len len)) (W.alloc (.cells cs e (0, 0))) := by
              have hnl : ¬ (len * te.size > 2 ^ 24) := by simp only [show (2 : Nat) ^ 24 = 16777216 from rfl]; omega
              have hbs : (Instr.buildSlice t len (parts.map fun (i, x) => (i, ρ x))).run P W = .ok (.slice (some ⟨W.heap.size, 0, none⟩) len len) (W.alloc (.cells cs e (0, 0))) := by
                simp only [Instr.buildSlice, Sem.run_bind, hk.und, hd, Result.andThen_ok, hke.sizeOf, hnl, if_false, Sem.run_pure]
                by_cases hz0 : len * te.size = 0
                · have e0 := range_zero (te := te) len
                  rw [if_pos hz0] at e0 ⊢
                  simp only [Sem.run_bind, Sem.run_pure, Result.andThen_ok]
                  rw [e0, Array.toList_map, hfill]
                  simp only [newRow, newObj, Sem.run_bind, Sem.run_pure]
                  rfl
                · rw [if_neg hz0]
                  simp only [Sem.run_bind, Sem.run_pure, Result.andThen_ok, hke.zeroValue]
                  rw [Array.toList_map, hfill]
                  simp only [newRow, newObj, Sem.run_bind, Sem.run_pure]
                  rfl
              simp only [execOp, ho, Sem.run_bind, hbs, Result.andThen_ok, Sem.run_pure]
            refine made_new h' hf hrun (new_row h' hf (by omega) fun j hj => hels j hj) (.inr ⟨W.heap.size, 0, len, cs, e, env_set_self _ _ _, rfl, Nat.le_refl _, ?_, new_heap _ _, .inl ⟨by simp, by rw [hcs]; simp⟩⟩)
            have : len ≤ len * te.size := Nat.le_mul_of_pos_right _ hpos
            unfold maxLen; omega
    · cases hv
end
end Go.Px
end

/-! PxM -/
noncomputable section
namespace Go.Px
open Go Go.RowKit
def splice (c : Array Value) (p : Nat) (vs : List Value) : Array Value := (c.toList.take p ++ vs ++ c.toList.drop (p + vs.length)).toArray
theorem splice_size {c : Array Value} {p : Nat} {vs : List Value} (h : p + vs.length ≤ c.size) : (splice c p vs).size = c.size := by
  simp only [splice, List.size_toArray, List.length_append, List.length_take, List.length_drop, Array.length_toList]; omega
theorem splice_getD {c : Array Value} {p : Nat} {vs : List Value} (h : p + vs.length ≤ c.size) (j : Nat) : (splice c p vs).getD j undef = if p ≤ j ∧ j < p + vs.length then vs.getD (j - p) undef else c.getD j undef := by
  have hlen : (c.toList.take p).length = p := by rw [List.length_take, Array.length_toList]; omega
  rw [Array.getD_eq_getD_getElem?, splice, List.getElem?_toArray]
  by_cases h1 : j < p
  · rw [if_neg (by omega), List.getElem?_append_left (by rw [List.length_append]; omega), List.getElem?_append_left (by omega), List.getElem?_take, if_pos h1, Array.getD_eq_getD_getElem?, Array.getElem?_toList]
  · by_cases h2 : j < p + vs.length
    · rw [if_pos ⟨by omega, h2⟩, List.getElem?_append_left (by rw [List.length_append]; omega), List.getElem?_append_right (by omega), hlen, List.getD_eq_getElem?_getD]
    · rw [if_neg (by omega), List.getElem?_append_right (by rw [List.length_append]; omega), List.getElem?_drop, Array.getD_eq_getD_getElem?, Array.getElem?_toList, List.length_append, hlen]
      congr 2; omega
theorem reach_live {hp : Nat → Option Res} {id : Nat} : ∀ (n : Nat) (y : AV), id ∈ reach n hp y → hp id ≠ none := by
  intro n
  induction n with
  | zero => intro y hy; simp [reach] at hy
  | succ n ih =>
    intro y hy
    cases y with
    | d z => simp [reach] at hy
    | ref j off =>
      simp only [reach] at hy
      split at hy
      · rename_i mt m f hj
        rcases List.mem_cons.1 hy with rfl | hy
        · rw [hj]; simp
        · obtain ⟨q, _, hq⟩ := List.mem_flatMap.1 hy; exact ih _ hq
      · simp at hy
    | el j k p off =>
      simp only [reach] at hy
      split at hy
      · rename_i hj
        revert hy
        cases arrB _ _ _ _ with
        | true => intro hy; simp at hy; subst hy; rw [hj]; simp
        | false => intro hy; simp at hy
      · simp at hy
    | ms j k off m =>
      simp only [reach] at hy
      split at hy
      · rename_i hj; simp at hy; subst hy; rw [hj]; simp
      · simp at hy
    | ag m f => obtain ⟨q, _, hq⟩ := List.mem_flatMap.1 hy; exact ih _ hq
    | fn g p q f c =>
      rcases List.mem_append.1 hy with hy | hy
      · obtain ⟨q, _, hq⟩ := List.mem_flatMap.1 hy; exact ih _ hq
      · obtain ⟨q, _, hq⟩ := List.mem_flatMap.1 hy; exact ih _ hq
    | mp j =>
      simp only [reach] at hy
      split at hy
      · rename_i hj; simp at hy; subst hy; rw [hj]; simp
      · simp at hy
    | tp m f => obtain ⟨q, _, hq⟩ := List.mem_flatMap.1 hy; exact ih _ hq
    | sub j k i => simp [reach] at hy
    | stp j => simp [reach] at hy
section
variable {P : Program} {T : Nat → Option TI} {B : Base} {Fr : Nat → Prop} {E : Env} {st : St} {a : Act} {W : World}
theorem makeSlice_sound (hT : TsOk P T) (h : Sat B Fr E st a W) {i : Nat} (hf : Fr i) {ρ : Operand → Value} (hev : ∀ x, RepA E W (st.ev x) (ρ x)) (o : Oper) {t : Nat} {l c : Operand} (ho : o.op = .makeSlice t l c) {cc : Prop} {x : AV} {st' : St}
    (hv : makeSliceV T i t (st.ev l) (st.ev c) st = some (cc, x, st')) (hc : cc) : Made P B Fr i st' a W ρ o x := by
  unfold makeSliceV at hv
  split at hv
  · rename_i ti kl l' kc c' ht hl hcc
    have hrl := asI_of (hev l) hl
    have hrc := asI_of (hev c) hcc
    split at hv
    · rename_i e hd
      cases he : T e with
      | none => rw [he] at hv; cases hv
      | some te =>
        rw [he] at hv
        simp only [] at hv
        cases hb : (Nat.ble te.bytes 1048576 && Nat.blt 0 te.size) with
        | false => rw [hb] at hv; cases hv
        | true =>
          rw [hb] at hv
          simp only [cond_true, Option.some.injEq, Prod.mk.injEq] at hv
          obtain ⟨rfl, rfl, rfl⟩ := hv
          rw [Bool.and_eq_true] at hb
          have hby := Nat.le_of_ble_eq_true hb.1
          have hpos := blt_iff.1 hb.2
          obtain ⟨h0, h1, h2⟩ := hc
          have hk := hT t ti ht
          have hke := hT e te he
          obtain ⟨inf, hi, hz, hs, hbb⟩ := hke.info
          have hu := hk.u
          rw [hd] at hu
          have hbytes : (inf.bytes : Int) * c' ≤ 281474976710656 := by
            have h3 : (inf.bytes : Int) ≤ 1048576 := by omega
            have h4 : (inf.bytes : Int) * c' ≤ 1048576 * c' := Int.mul_le_mul_of_nonneg_right h3 (by omega)
            omega
          have hrun' := run_make (P := P) W t e inf te.z hu hi hz kl kc l' c' h0 h1 hbytes (by omega)
          rw [hs] at hrun'
          have hrun : (execOp ρ o).run P W = .ok (.value (.slice (some ⟨W.heap.size, 0, none⟩) l'.toNat c'.toNat)) (W.alloc (.cells (madeCells te.z.cells (c'.toNat * te.size)) e)) := by
            simp only [execOp, ho, hrl, hrc, Sem.run_bind, hrun', Result.andThen_ok, Sem.run_pure]
          have hz2 := (zero_cells hke c'.toNat E.S W).2
          have hmul : l'.toNat * te.size ≤ c'.toNat * te.size := Nat.mul_le_mul_right _ (by omega)
          refine made_new h hf hrun (new_row h hf (by simp [madeCells]; exact hmul) fun j hj => ?_) (.inr ⟨W.heap.size, 0, c'.toNat, _, e, env_set_self _ _ _, rfl, by omega, by unfold maxLen; omega, new_heap _ _, .inl ⟨by simp, by simp [madeCells]⟩⟩)
          exact hz2 j (by omega)
    · cases hv
  · cases hv
/-- What is read of a slice: its cells. -/
theorem src_sound (h : Sat B Fr E st a W) {k : Nat} (hk : 0 < k) {x : AV} {u : Value} (hx : RepA E W x u) {c : Prop} {m : Nat} {g : Nat → DV} (hv : srcV st k x = some (c, m, g)) (hc : c) :
    ∃ ao cap, u = .slice ao m cap ∧ ∃ N : Nat → Value, Els E.S W k m g N ∧ (m ≠ 0 → ∃ b o, ao = some ⟨b, o, none⟩ ∧ ∀ j, j < m * k → W.cell? ⟨b, o + j, none⟩ = some (N j)) := by
  unfold srcV at hv
  split at hv
  · rename_i id k1 off m'
    split at hv
    · rename_i mt U k2 n f hid
      cases hb : (Nat.beq k k1 && Nat.beq k k2) with
      | false => rw [hb] at hv; cases hv
      | true =>
        rw [hb] at hv
        simp only [cond_true, Option.some.injEq, Prod.mk.injEq] at hv
        obtain ⟨rfl, rfl, rfl⟩ := hv
        rw [Bool.and_eq_true] at hb
        obtain rfl := Nat.eq_of_beq_eq_true hb.1
        obtain rfl := Nat.eq_of_beq_eq_true hb.2
        rcases hx with ⟨_, rfl, rfl⟩ | ⟨b, o, cap, cc, U', hb', rfl, hm, _, hh, hs⟩
        · exact ⟨none, 0, rfl, fun _ => undef, fun j hj => absurd hj (Nat.not_lt_zero j), fun h => absurd rfl h⟩
        · refine ⟨_, cap, rfl, fun j => cc.getD (o + j) undef, ?_, fun hm0 => ⟨b, o, rfl, fun j hj => ?_⟩⟩
          · intro j hj
            rcases hs with ⟨rfl, hsz⟩ | ⟨h1, _⟩
            · rcases h.hp id _ hid with ⟨h1, _⟩ | ⟨b2, c2, hb2, hh2, hsz2, _, hc2⟩
              · rw [hb'] at h1; cases h1
              · rw [hb'] at hb2; cases hb2
                rw [hh] at hh2; cases hh2
                have := hc2 (off + j) (by omega)
                refine ⟨this.1.congr fun q _ => ?_, fun q hq => ?_⟩
                · rw [Nat.add_mul, Nat.add_assoc]
                · have h2 := this.2 q hq; rw [Nat.add_mul, Nat.add_assoc] at h2; exact h2
            · omega
          · rcases hs with ⟨rfl, hsz⟩ | ⟨h1, _⟩
            · refine cell_at hh ?_
              have h1 : (off + m') * k ≤ (off + cap) * k := Nat.mul_le_mul_right _ (by omega)
              have h2 := Nat.le_trans h1 hsz
              rw [Nat.add_mul] at h2
              omega
            · omega
    · cases hv
  · rename_i tt k1 m' f
    cases hb : Nat.beq k k1 with
    | false => rw [hb] at hv; cases hv
    | true =>
      rw [hb] at hv
      simp only [cond_true, Option.some.injEq, Prod.mk.injEq] at hv
      obtain ⟨rfl, rfl, rfl⟩ := hv
      obtain rfl := Nat.eq_of_beq_eq_true hb
      obtain ⟨ad, cap, rfl, hn, _, hnone, hm⟩ := hx
      by_cases hm0 : m' = 0
      · subst hm0
        exact ⟨ad, cap, rfl, fun _ => undef, fun j hj => absurd hj (Nat.not_lt_zero j), fun h => absurd rfl h⟩
      cases ad with
      | none =>
        have := hnone rfl
        exact absurd (by omega) hm0
      | some ad =>
        have hsp := (hm ad rfl 0 (by omega)).1
        obtain ⟨ab, ao, asp⟩ := ad
        simp only at hsp
        subst hsp
        have hm := fun j hj => (hm ⟨ab, ao, none⟩ rfl j hj).2
        simp only at hm
        have key : ∀ j, j < m' → ∀ q, q < k → ∃ u, W.cell? ⟨ab, ao + (j * k + q), none⟩ = some u ∧ u.oneCell' = true := by
          intro j hj q hq
          have h1 := hm j hj
          have h2 := hc j hj
          cases hfj : f j with
          | ag n' f' =>
            rw [hfj] at h1 h2
            have h3 : n' = k := h2
            obtain ⟨_, u, h4, _, h5⟩ := h1 q (by omega)
            exact ⟨u, by rw [← Nat.add_assoc]; exact h4, h5⟩
          | top => rw [hfj] at h2; exact h2.elim
          | v y => rw [hfj] at h1 h2; have h3 : k = 1 := h2; obtain rfl : q = 0 := by omega
                   obtain ⟨_, u, h4, _, h5⟩ := h1; exact ⟨u, by rw [Nat.add_zero]; exact h4, h5⟩
          | tp n f' => rw [hfj] at h1 h2; have h3 : k = 1 := h2; obtain rfl : q = 0 := by omega
                       obtain ⟨_, u, h4, _, h5⟩ := h1; exact ⟨u, by rw [Nat.add_zero]; exact h4, h5⟩
          | sl t' k' n f' => rw [hfj] at h1 h2; have h3 : k = 1 := h2; obtain rfl : q = 0 := by omega
                             obtain ⟨_, u, h4, _, h5⟩ := h1; exact ⟨u, by rw [Nat.add_zero]; exact h4, h5⟩
          | pt y o => rw [hfj] at h1 h2; have h3 : k = 1 := h2; obtain rfl : q = 0 := by omega
                      obtain ⟨_, u, h4, _, h5⟩ := h1; exact ⟨u, by rw [Nat.add_zero]; exact h4, h5⟩
          | fn g' n m f' c' => rw [hfj] at h1 h2; have h3 : k = 1 := h2; obtain rfl : q = 0 := by omega
                               obtain ⟨_, u, h4, _, h5⟩ := h1; exact ⟨u, by rw [Nat.add_zero]; exact h4, h5⟩
          | mp kt m => rw [hfj] at h1 h2; have h3 : k = 1 := h2; obtain rfl : q = 0 := by omega
                       obtain ⟨_, u, h4, _, h5⟩ := h1; exact ⟨u, by rw [Nat.add_zero]; exact h4, h5⟩
        refine ⟨_, cap, rfl, fun j => (W.cell? ⟨ab, ao + j, none⟩).getD undef, fun j hj => ⟨?_, fun q hq => ?_⟩, fun _ => ⟨ab, ao, rfl, fun j hj => ?_⟩⟩
        · have h1 := hm j hj
          have h2 := hc j hj
          cases hfj : f j with
          | ag n' f' =>
            rw [hfj] at h1 h2
            refine ⟨h2, fun q hq => ?_⟩
            obtain ⟨_, u, h4, h5, _⟩ := h1 q hq
            simp only [← Nat.add_assoc] at h4 ⊢
            rw [h4]; exact h5
          | top => exact trivial
          | v y => rw [hfj] at h1 h2; obtain ⟨_, u, h4, h5, _⟩ := h1; refine ⟨h2, ?_⟩; simp only [Nat.add_zero]; rw [h4]; exact h5
          | tp n f' => rw [hfj] at h1 h2; obtain ⟨_, u, h4, h5, _⟩ := h1; refine ⟨h2, ?_⟩; simp only [Nat.add_zero]; rw [h4]; exact h5
          | sl t' k' n f' => rw [hfj] at h1 h2; obtain ⟨_, u, h4, h5, _⟩ := h1; refine ⟨h2, ?_⟩; simp only [Nat.add_zero]; rw [h4]; exact h5
          | pt y o => rw [hfj] at h1 h2; obtain ⟨_, u, h4, h5, _⟩ := h1; refine ⟨h2, ?_⟩; simp only [Nat.add_zero]; rw [h4]; exact h5
          | fn g' n m f' c' => rw [hfj] at h1 h2; obtain ⟨_, u, h4, h5, _⟩ := h1; refine ⟨h2, ?_⟩; simp only [Nat.add_zero]; rw [h4]; exact h5
          | mp kt m => rw [hfj] at h1 h2; obtain ⟨_, u, h4, h5, _⟩ := h1; refine ⟨h2, ?_⟩; simp only [Nat.add_zero]; rw [h4]; exact h5
        · obtain ⟨u, h1, h2⟩ := key j hj q hq
          simp only [h1]; exact h2
        · have hdj : j / k < m' := Nat.div_lt_of_lt_mul (by rw [Nat.mul_comm]; exact hj)
          obtain ⟨u, h1, _⟩ := key (j / k) hdj (j % k) (Nat.mod_lt _ hk)
          rw [Nat.mul_comm, Nat.div_add_mod] at h1
          show _ = some ((W.cell? ⟨ab, ao + j, none⟩).getD undef)
          rw [h1]; rfl
  · simp only [Option.some.injEq, Prod.mk.injEq] at hv
    obtain ⟨rfl, rfl, rfl⟩ := hv
    have hu : u = .slice none 0 0 := hx
    exact ⟨none, 0, hu, fun _ => undef, fun j hj => absurd hj (Nat.not_lt_zero j), fun h => absurd rfl h⟩
  · cases hv
/-- The written elements of a row. -/
theorem els_splice {S : Nat → Prop} {k n p m : Nat} {f g : Nat → DV} {c : Array Value} {N : Nat → Value} (hf : Els S W k n f fun j => c.getD j undef) (hg : Els S W k m g N) (hle : (p + m) * k ≤ c.size) :
    Els S W k (max n (p + m)) (fun j => if p ≤ j ∧ j < p + m then g (j - p) else f j) (fun j => (splice c (p * k) ((List.range (m * k)).map N)).getD j undef) ∨ n < p := by
  by_cases hnp : n < p
  · exact .inr hnp
  · refine .inl fun j hj => ?_
    have hlen : p * k + ((List.range (m * k)).map N).length ≤ c.size := by rw [List.length_map, List.length_range, ← Nat.add_mul]; exact hle
    have hval : ∀ q, q < k → (splice c (p * k) ((List.range (m * k)).map N)).getD (j * k + q) undef = if p ≤ j ∧ j < p + m then N ((j - p) * k + q) else c.getD (j * k + q) undef := by
      intro q hq
      rw [splice_getD hlen, List.length_map, List.length_range]
      by_cases hin : p ≤ j ∧ j < p + m
      · have h1 : p * k ≤ j * k := Nat.mul_le_mul_right _ hin.1
        have h2 := mul_lt hin.2 hq
        rw [Nat.add_mul] at h2
        rw [if_pos ⟨by omega, by omega⟩, if_pos hin, List.getD_eq_getElem?_getD, List.getElem?_map, List.getElem?_range (by omega)]
        simp only [Option.map_some, Option.getD_some]
        congr 1
        rw [Nat.sub_mul]; omega
      · rw [if_neg, if_neg hin]
        rintro ⟨h1, h2⟩
        apply hin
        constructor
        · rcases Nat.lt_or_ge j p with h3 | h3
          · have : (j + 1) * k ≤ p * k := Nat.mul_le_mul_right _ h3
            rw [Nat.add_mul] at this; omega
          · exact h3
        · rcases Nat.lt_or_ge j (p + m) with h3 | h3
          · exact h3
          · have : (p + m) * k ≤ j * k := Nat.mul_le_mul_right _ h3
            rw [Nat.add_mul] at this; omega
    by_cases hin : p ≤ j ∧ j < p + m
    · simp only [if_pos hin] at hval ⊢
      obtain ⟨h1, h2⟩ := hg (j - p) (by omega)
      exact ⟨h1.congr fun q hq => hval q hq, fun q hq => (congrArg Value.oneCell' (hval q hq)).trans (h2 q hq)⟩
    · simp only [if_neg hin] at hval ⊢
      obtain ⟨h1, h2⟩ := hf j (by omega)
      exact ⟨h1.congr fun q hq => hval q hq, fun q hq => (congrArg Value.oneCell' (hval q hq)).trans (h2 q hq)⟩
end
end Go.Px
end
