/- The statement BiteNeeds: what is needed, and how many tastes find a peak, are what the definitions say, or the error; after the taste that is returned one less is needed, whatever is found. Conditions: none. -/
import Derived.Test.YtofcdpkanjiefaaJ3
import Derived.Test.YtofcdpkanjiefaaJ4
import Derived.Test.YtofcdpkanjiefaaJ6
import Derived.Test.YtofcdpkanjiefaaRows
set_option linter.unusedVariables false
set_option linter.unusedSimpArgs false
/-! PxTb -/
noncomputable section
namespace Go.Px
open Go Go.RowKit
/-- Cells of a list of N lists: the first m are lists of N numbers of their own. -/
structure Tb (w : World) (N T0 T1 b0 : Nat) (bs : Nat → Nat) (m : Nat) (t : Nat → Nat → Int) (W : World) : Prop where
  below : Below w.heap.size w W
  out : ∃ c : Array Value, W.heap[b0]? = some (.cells c T0 (0, 0)) ∧ c.size = N ∧ ∀ i, i < m → c.getD i undef = .slice (some ⟨bs i, 0, none⟩) N N
  row : ∀ i, i < m → ∃ c : Array Value, W.heap[bs i]? = some (.cells c T1 (0, 0)) ∧ c.size = N ∧ ∀ j, j < N → c.getD j undef = .int .i64 (t i j)
  n0 : w.heap.size ≤ b0
  ni : ∀ i, i < m → w.heap.size ≤ bs i ∧ bs i ≠ b0
  inj : ∀ i j, i < m → j < m → bs i = bs j → i = j
def isTb (b0 : Nat) (bs : Nat → Nat) (m b : Nat) : Prop := b = b0 ∨ ∃ i, i < m ∧ b = bs i
variable {w W : World} {N T0 T1 b0 : Nat} {bs : Nat → Nat} {m : Nat} {t : Nat → Nat → Int}
theorem Tb.lt (h : Tb w N T0 T1 b0 bs m t W) {b : Nat} (hb : isTb b0 bs m b) : b < W.heap.size := by
  rcases hb with rfl | ⟨i, hi, rfl⟩
  · obtain ⟨c, hc, _⟩ := h.out; exact (Array.getElem?_eq_some_iff.1 hc).1
  · obtain ⟨c, hc, _⟩ := h.row i hi; exact (Array.getElem?_eq_some_iff.1 hc).1
theorem Tb.ge (h : Tb w N T0 T1 b0 bs m t W) {b : Nat} (hb : isTb b0 bs m b) : w.heap.size ≤ b := by
  rcases hb with rfl | ⟨i, hi, rfl⟩
  · exact h.n0
  · exact (h.ni i hi).1
theorem Tb.stp (h : Tb w N T0 T1 b0 bs m t W) {W' : World} (hs : Stp (fun b => w.heap.size ≤ b ∧ ¬ isTb b0 bs m b) W W') : Tb w N T0 T1 b0 bs m t W' := by
  have keep : ∀ b, b < W.heap.size → (w.heap.size ≤ b → isTb b0 bs m b) → W'.heap[b]? = W.heap[b]? := fun b hb hi => hs.block b hb fun ho => ho.2 (hi ho.1)
  refine ⟨⟨hs.os.trans h.below.os, hs.tape.trans h.below.tape, hs.output.trans h.below.output, Nat.le_trans h.below.size hs.size, fun k hk => ?_⟩, ?_, fun i hi => ?_, h.n0, h.ni, h.inj⟩
  · rw [keep k (Nat.lt_of_lt_of_le hk h.below.size) (fun hn => absurd hk (Nat.not_lt.2 hn))]
    exact h.below.block k hk
  · obtain ⟨c, h1, h2⟩ := h.out
    exact ⟨c, (keep b0 (h.lt (.inl rfl)) fun _ => .inl rfl).trans h1, h2⟩
  · obtain ⟨c, h1, h2⟩ := h.row i hi
    exact ⟨c, (keep _ (h.lt (.inr ⟨i, hi, rfl⟩)) fun _ => .inr ⟨i, hi, rfl⟩).trans h1, h2⟩
/-- The base of a run that only reads the table. -/
def baseT (S : Nat → Prop) (w : World) (N T0 T1 b0 : Nat) (bs : Nat → Nat) (m : Nat) (t : Nat → Nat → Int) : Base :=
  ⟨fun b => w.heap.size ≤ b ∧ ¬ isTb b0 bs m b, fun b => S b ∨ isTb b0 bs m b, fun j => bif Nat.beq j 0 then .at b0 else .un, Tb w N T0 T1 b0 bs m t,
    fun _ _ h1 h2 => h1.stp h2, fun W h b hb => ⟨Nat.le_trans h.below.size hb, fun hi => absurd (h.lt hi) (Nat.not_lt.2 hb)⟩⟩
def rowD (N : Nat) (g : Nat → Int) : DV := .sl true 1 N fun j => .v (.int .i64 (g j))
/-- What a run knows of the table. -/
def tabR (N T0 : Nat) (t : Nat → Nat → Int) : Res := .row false T0 1 N fun i => rowD N (t i)
def stT (n nx N T0 : Nat) (tm : Nat → AV) (t : Nat → Nat → Int) : St := ⟨n, nx, tm, fun id => bif Nat.beq id 0 then some (tabR N T0 t) else none, some 0⟩
def envT (S : Nat → Prop) (b0 : Nat) (bs : Nat → Nat) (m : Nat) (D : List Nat) : Env := ⟨fun b => S b ∨ isTb b0 bs m b, fun j => bif Nat.beq j 0 then .at b0 else .un, D⟩
/-- The deferred calls of an activation: marks of nothing. -/
structure Df (w : World) (b0 : Nat) (bs : Nat → Nat) (m : Nat) (D : List Nat) (a : Act) (W : World) : Prop where
  df : a.defers = D.map mark
  dn : D.Nodup
  dd : ∀ d, d ∈ D → w.heap.size ≤ d ∧ ¬ isTb b0 bs m d ∧ W.heap[d]? = some (.deferred (some []))
theorem Df.nil (w : World) (b0 : Nat) (bs : Nat → Nat) (m : Nat) {a : Act} (W : World) (h : a.defers = []) : Df w b0 bs m [] a W := ⟨h, List.nodup_nil, fun d hd => (by cases hd)⟩
theorem Df.keep {D : List Nat} {a a' : Act} {W' : World} (h : Df w b0 bs m D a W) (ha : a'.defers = a.defers) (hk : ∀ k, ¬ isTb b0 bs m k → W'.heap[k]? = W.heap[k]?) : Df w b0 bs m D a' W' :=
  ⟨ha.trans h.df, h.dn, fun d hd => ⟨(h.dd d hd).1, (h.dd d hd).2.1, (hk d (h.dd d hd).2.1).trans (h.dd d hd).2.2⟩⟩
theorem Tb.sat (h : Tb w N T0 T1 b0 bs N t W) {S : Nat → Prop} (hS : ∀ b, S b → b < w.heap.size) {a : Act} {n nx : Nat} (hx : 1 ≤ nx) {tm : Nat → AV} {D : List Nat} (hz : a.tmps.size = n) (hd : Df w b0 bs N D a W)
    (htm : ∀ i, i < n → RepA (envT S b0 bs N D) W (tm i) (a.tmps.getD i undef)) :
    Sat (baseT S w N T0 T1 b0 bs N t) (fun j => nx ≤ j) (envT S b0 bs N D) (stT n nx N T0 tm t) a W := by
  refine ⟨hz, htm, fun id r hid => ?_, fun i j b hi hj _ _ => ?_, fun id hid => ?_, fun _ h => h, fun _ h => .inl h, fun b hb => ⟨fun ho => ?_, ?_⟩, hd.df, hd.dn, fun d hD => ⟨⟨(hd.dd d hD).1, (hd.dd d hD).2.1⟩, fun hs => ?_, (hd.dd d hD).2.2⟩, h, fun _ _ => rfl⟩
  · have e0 : id = 0 ∧ r = tabR N T0 t := by
      have hid : (bif Nat.beq id 0 then some (tabR N T0 t) else none) = some r := hid
      cases hb : Nat.beq id 0 with
      | true => rw [hb] at hid; cases hid; exact ⟨Nat.eq_of_beq_eq_true hb, rfl⟩
      | false => rw [hb] at hid; cases hid
    obtain ⟨rfl, rfl⟩ := e0
    obtain ⟨c, h1, h2, h3⟩ := h.out
    refine .inr ⟨b0, c, rfl, h1, by omega, .inr (.inl rfl), fun i hi => ⟨⟨rfl, ?_⟩, fun j hj => ?_⟩⟩
    · show Rep _ _ (rowD N (t i)) (c.getD (i * 1 + 0) undef)
      rw [Nat.mul_one, Nat.add_zero, h3 i hi]
      obtain ⟨c1, h4, h5, h6⟩ := h.row i hi
      refine ⟨_, _, rfl, Nat.le_refl _, fun _ => rfl, nofun, fun x hx j hj => ?_⟩
      cases hx
      refine ⟨rfl, .inr (.inr ⟨i, hi, rfl⟩), _, cell_at h4 (by rw [h5]; simpa using hj), ?_, ?_⟩
      · show c1.getD (0 + j * 1) undef = _
        rw [Nat.mul_one, Nat.zero_add]; exact h6 j hj
      · rw [Nat.mul_one, Nat.zero_add, h6 j hj]; rfl
    · have : j = 0 := by omega
      subst this
      rw [Nat.mul_one, Nat.add_zero, h3 i hi]; rfl
  · have one : ∀ k, (stT n nx N T0 tm t).hp k ≠ none → k = 0 := fun k hk => by
      have hk : (bif Nat.beq k 0 then some (tabR N T0 t) else none) ≠ none := hk
      cases hb : Nat.beq k 0 with
      | true => exact Nat.eq_of_beq_eq_true hb
      | false => rw [hb] at hk; exact absurd rfl hk
    rw [one i hi, one j hj]
  · show (bif Nat.beq id 0 then Loc.at b0 else .un) = .un
    cases hb : Nat.beq id 0 with
    | true => have := Nat.eq_of_beq_eq_true hb; have hid : nx ≤ id := hid; omega
    | false => rfl
  · rcases hb with hb | hb
    · exact absurd (hS b hb) (Nat.not_lt.2 ho.1)
    · exact ho.2 hb
  · rcases hb with hb | hb
    · exact Nat.lt_of_lt_of_le (hS b hb) h.below.size
    · exact h.lt hb
  · rcases hs with hs | hs
    · exact absurd (hS d hs) (Nat.not_lt.2 (hd.dd d hD).1)
    · exact (hd.dd d hD).2.1 hs
def famT {P : Program} (S : Nat → Prop) (w : World) (N T0 T1 b0 : Nat) (bs : Nat → Nat) (m : Nat) (t : Nat → Nat → Int) : Fam P none 1 :=
  ⟨fun _ B => B = baseT S w N T0 T1 b0 bs m t, fun _ B e j hj => by
    subst e
    have hj : (bif Nat.beq j 0 then Loc.at b0 else .un) ≠ .un := hj
    cases hb : Nat.beq j 0 with
    | true => have := Nat.eq_of_beq_eq_true hb; omega
    | false => rw [hb] at hj; exact absurd rfl hj, fun _ e => by cases e⟩
/-- What is left after such a run. -/
structure AfT (S : Nat → Prop) (w : World) (N T0 T1 b0 : Nat) (bs : Nat → Nat) (t : Nat → Nat → Int) (st : St) (a : Act) (W : World) : Prop where
  tb : Tb w N T0 T1 b0 bs N t W
  ex : ∃ E, Sat (baseT S w N T0 T1 b0 bs N t) (fun j => st.next ≤ j) E st a W
theorem AfT.df {S : Nat → Prop} {st : St} {a : Act} (h : AfT S w N T0 T1 b0 bs t st a W) : ∃ D, Df w b0 bs N D a W := by
  obtain ⟨E, hs⟩ := h.ex
  exact ⟨E.D, hs.df, hs.dn, fun d hd => ⟨(hs.dd d hd).1.1, (hs.dd d hd).1.2, (hs.dd d hd).2.2⟩⟩
theorem AfT.int {S : Nat → Prop} {st : St} {a : Act} (h : AfT S w N T0 T1 b0 bs t st a W) {i : Nat} {x : Int} (hi : i < st.n) (e : st.tm i = .d (.v (.int .i64 x))) : a.tmps.getD i undef = .int .i64 x := by
  obtain ⟨E, hs⟩ := h.ex
  have := hs.tm i hi
  rw [e] at this
  exact this
theorem AfT.size {S : Nat → Prop} {st : St} {a : Act} (h : AfT S w N T0 T1 b0 bs t st a W) : a.tmps.size = st.n := h.ex.elim fun _ hs => hs.size
theorem AfT.out {S : Nat → Prop} {st : St} {a : Act} (h : AfT S w N T0 T1 b0 bs t st a W) {i : Nat} (h0 : 0 < N) (hi : i < st.n) (e : st.tm i = .ms 0 1 0 N) : a.tmps.getD i undef = .slice (some ⟨b0, 0, none⟩) N N := by
  obtain ⟨E, hs⟩ := h.ex
  have hr := hs.tm i hi
  rw [e] at hr
  have hb : E.ρ 0 = .at b0 := hs.r0 0 (by show Loc.at b0 ≠ .un; simp)
  rcases hr with ⟨h1, _⟩ | ⟨b, o, cap, c, T, h1, h2, h3, _, h5, h6⟩
  · rw [hb] at h1; cases h1
  · rw [hb] at h1; cases h1
    obtain ⟨c', h7, h8, _⟩ := h.tb.out
    rw [h5] at h7; cases h7
    rcases h6 with ⟨rfl, h6⟩ | ⟨h6, _⟩
    · have : cap = N := by omega
      rw [h2, this]
    · omega
theorem run_T {P : Program} {T : Nat → Option TI} {cuts : List Nat} (hT : TsOk P T) (hm : P.follows .mixedOrders = true) {c : Code} {S : Nat → Prop} (hS : ∀ b, S b → b < w.heap.size) (h : Tb w N T0 T1 b0 bs N t W) {a : Act} {n nx k : Nat} (hx : 1 ≤ nx) {tm : Nat → AV} {D : List Nat} (hz : a.tmps.size = n) (hd : Df w b0 bs N D a W)
    (htm : ∀ i, i < n → RepA (envT S b0 bs N D) W (tm i) (a.tmps.getD i undef)) {Q : Exit → St → Prop} (hex : exC P T cuts c false none 1 (stT n nx N T0 tm t) Q) {R : Exit → Act → World → Prop}
    (hq : ∀ e st' a' W', Q e st' → AfT S w N T0 T1 b0 bs t st' a' W' → R e a' W') : c.wpIn Fence.wide k P R a W := by
  refine ex_sound hT hm c false none 1 (famT S w N T0 T1 b0 bs N t) none k _ _ (fun _ => rfl) (by rw [← exC_eq]; exact hex) _ _ _ ⟨_, _, rfl, h.sat hS hx hz hd htm⟩ ?_
  intro e st' a' W' h1 ⟨B, E, hB, hs⟩
  have hB : B = baseT S w N T0 T1 b0 bs N t := hB
  subst hB
  exact hq e st' a' W' h1 ⟨hs.g, E, hs⟩
/-- A row more of a table. -/
def upT (t : Nat → Nat → Int) (i j : Nat) (x : Int) : Nat → Nat → Int := fun p q => if p = i ∧ q = j then x else t p q
def upB (bs : Nat → Nat) (m b : Nat) : Nat → Nat := fun i => if i = m then b else bs i
theorem below_row {B : Nat} {b : Nat} (hb : B ≤ b) (W : World) (c : Array Value) : Below B W (W.setRow b c) :=
  ⟨rfl, rfl, rfl, by show _ ≤ (W.heap.modify b _).size; rw [Array.size_modify]; exact Nat.le_refl _, fun k hk => setRow_other W b k c (by omega)⟩
theorem splice_one {c : Array Value} {p : Nat} {v : Value} (h : p < c.size) (j : Nat) : (splice c p [v]).getD j undef = if j = p then v else c.getD j undef := by
  rw [splice_getD (by simpa using Nat.succ_le_of_lt h)]
  by_cases e : j = p
  · subst e; rw [if_pos ⟨Nat.le_refl _, by simp⟩, if_pos rfl, Nat.sub_self]; rfl
  · rw [if_neg e, if_neg (by simp; omega)]
/-- A number of the table written. -/
theorem Tb.store (h : Tb w N T0 T1 b0 bs m t W) {i j : Nat} (hi : i < m) (hj : j < N) (x : Int) :
    ∃ c : Array Value, W.heap[bs i]? = some (.cells c T1 (0, 0)) ∧ c.size = N ∧ Tb w N T0 T1 b0 bs m (upT t i j x) (W.setRow (bs i) (splice c j [.int .i64 x])) := by
  obtain ⟨c, h1, h2, h3⟩ := h.row i hi
  have hs : (splice c j [Value.int .i64 x]).size = N := by rw [splice_size (by rw [h2]; exact hj), h2]
  refine ⟨c, h1, h2, h.below.trans (below_row (h.ni i hi).1 _ _), ?_, fun k hk => ?_, h.n0, h.ni, h.inj⟩
  · obtain ⟨c0, h4, h5⟩ := h.out
    exact ⟨c0, (setRow_other W _ _ _ (Ne.symm (h.ni i hi).2)).trans h4, h5⟩
  · by_cases e : k = i
    · subst e
      refine ⟨_, setRow_heap W _ c _ T1 (0, 0) h1, hs, fun q hq => ?_⟩
      rw [splice_one (by rw [h2]; exact hj)]
      unfold upT
      by_cases e : q = j
      · rw [if_pos e, if_pos ⟨rfl, e⟩]
      · rw [if_neg e, if_neg (by simp [e])]; exact h3 q hq
    · obtain ⟨c1, h4, h5, h6⟩ := h.row k hk
      refine ⟨c1, (setRow_other W _ _ _ fun e2 => e (h.inj k i hk hi e2)).trans h4, h5, fun q hq => ?_⟩
      unfold upT
      rw [if_neg (by simp [e])]; exact h6 q hq
/-- A list of its own made, and put into the table. -/
theorem Tb.make (h : Tb w N T0 T1 b0 bs m t W) (hm : m < N) {d : Array Value} (hd : d.size = N) {g : Nat → Int} (hg : ∀ j, j < N → d.getD j undef = .int .i64 (g j)) :
    ∃ c : Array Value, (W.alloc (.cells d T1 (0, 0))).heap[b0]? = some (.cells c T0 (0, 0)) ∧ c.size = N ∧
      Tb w N T0 T1 b0 (upB bs m W.heap.size) (m + 1) (fun p q => if p = m then g q else t p q) ((W.alloc (.cells d T1 (0, 0))).setRow b0 (splice c m [.slice (some ⟨W.heap.size, 0, none⟩) N N])) := by
  obtain ⟨c, h1, h2, h3⟩ := h.out
  have hlt : b0 < W.heap.size := h.lt (.inl rfl)
  have keep : ∀ k, k < W.heap.size → (W.alloc (.cells d T1 (0, 0))).heap[k]? = W.heap[k]? := fun k hk => Below.heap_alloc _ _ _ hk
  have hs : (splice c m [Value.slice (some ⟨W.heap.size, 0, none⟩) N N]).size = N := by rw [splice_size (by rw [h2]; exact hm), h2]
  have h1' := (keep b0 hlt).trans h1
  refine ⟨c, h1', h2, (h.below.alloc h.below.size _).trans (below_row h.n0 _ _), ⟨_, setRow_heap _ _ c _ T0 (0, 0) h1', hs, fun i hi => ?_⟩, fun i hi => ?_, h.n0, fun i hi => ?_, fun i j hi hj e => ?_⟩
  · rw [splice_one (by rw [h2]; exact hm)]
    unfold upB
    by_cases e : i = m
    · rw [if_pos e, if_pos e]
    · rw [if_neg e, if_neg e]; exact h3 i (by omega)
  · unfold upB
    by_cases e : i = m
    · rw [if_pos e]
      refine ⟨d, (setRow_other _ _ _ _ (by omega)).trans (World.alloc_heap_new ..), hd, fun q hq => ?_⟩
      rw [if_pos e]; exact hg q hq
    · rw [if_neg e]
      obtain ⟨c1, h4, h5, h6⟩ := h.row i (by omega)
      refine ⟨c1, (setRow_other _ _ _ _ (h.ni i (by omega)).2).trans ((keep _ (h.lt (.inr ⟨i, by omega, rfl⟩))).trans h4), h5, fun q hq => ?_⟩
      rw [if_neg e]; exact h6 q hq
  · unfold upB
    by_cases e : i = m
    · rw [if_pos e]; exact ⟨h.below.size, by omega⟩
    · rw [if_neg e]; exact h.ni i (by omega)
  · unfold upB at e
    have lt : ∀ i, i < m → bs i < W.heap.size := fun i hi => h.lt (.inr ⟨i, hi, rfl⟩)
    by_cases e1 : i = m
    · by_cases e2 : j = m
      · rw [e1, e2]
      · rw [if_pos e1, if_neg e2] at e
        have := lt j (by omega); omega
    · by_cases e2 : j = m
      · rw [if_neg e1, if_pos e2] at e
        have := lt i (by omega); omega
      · rw [if_neg e1, if_neg e2] at e
        exact h.inj i j (by omega) (by omega) e
/-- The table's list made: nothing in it yet. -/
theorem Tb.init (w : World) {N T0 T1 : Nat} {c : Array Value} (hc : c.size = N) (bs : Nat → Nat) (t : Nat → Nat → Int) : Tb w N T0 T1 w.heap.size bs 0 t (w.alloc (.cells c T0 (0, 0))) :=
  ⟨(Below.refl _ w).alloc (Nat.le_refl _) _, ⟨c, World.alloc_heap_new .., hc, fun i hi => absurd hi (Nat.not_lt_zero i)⟩, fun i hi => absurd hi (Nat.not_lt_zero i), Nat.le_refl _, fun i hi => absurd hi (Nat.not_lt_zero i), fun i _ hi => absurd hi (Nat.not_lt_zero i)⟩
/-- Slots that are told: slot 3 the table, others numbers. -/
def lookI6 : List (Nat × Int) → Nat → AV
  | [], _ => .d .top
  | (k, x) :: l, i => bif Nat.beq i k then .d (.v (.int .i64 x)) else lookI6 l i
def tmN (N o : Nat) (l : List (Nat × Int)) (i : Nat) : AV := bif Nat.beq i o then .ms 0 1 0 N else lookI6 l i
/-- An activation with the table in slot o, and numbers. -/
structure Sl (b0 N n o : Nat) (l : List (Nat × Int)) (a : Act) : Prop where
  size : a.tmps.size = n
  out : a.tmps.getD o undef = .slice (some ⟨b0, 0, none⟩) N N
  num : ∀ p ∈ l, a.tmps.getD p.1 undef = .int .i64 p.2
theorem Sl.rep {n o : Nat} {l : List (Nat × Int)} {a : Act} (h : Sl b0 N n o l a) (ht : Tb w N T0 T1 b0 bs N t W) (hN : N ≤ maxLen) (S : Nat → Prop) (D : List Nat) (i : Nat) : RepA (envT S b0 bs N D) W (tmN N o l i) (a.tmps.getD i undef) := by
  unfold tmN
  cases hb : Nat.beq i o with
  | true =>
    obtain rfl := Nat.eq_of_beq_eq_true hb
    rw [h.out]
    obtain ⟨c, h1, h2, _⟩ := ht.out
    exact .inr ⟨b0, 0, N, c, T0, rfl, rfl, Nat.le_refl _, hN, h1, .inl ⟨by simp, by omega⟩⟩
  | false =>
    have key : ∀ l : List (Nat × Int), (∀ p ∈ l, a.tmps.getD p.1 undef = .int .i64 p.2) → RepA (envT S b0 bs N D) W (lookI6 l i) (a.tmps.getD i undef) := by
      intro l
      induction l with
      | nil => intro _; exact trivial
      | cons p l ih =>
        intro hl
        obtain ⟨k, x⟩ := p
        unfold lookI6
        cases hk : Nat.beq i k with
        | true =>
          obtain rfl := Nat.eq_of_beq_eq_true hk
          exact hl (i, x) (List.mem_cons_self ..)
        | false => exact ih fun p hp => hl p (List.mem_cons_of_mem _ hp)
    exact key l h.num
/-- What a state must tell. -/
def tells (N n o : Nat) (l : List (Nat × Int)) (st : St) : Prop := st.n = n ∧ st.tm o = .ms 0 1 0 N ∧ ∀ p ∈ l, st.tm p.1 = .d (.v (.int .i64 p.2))
theorem AfT.sl {S : Nat → Prop} {st : St} {a : Act} (h : AfT S w N T0 T1 b0 bs t st a W) (h0 : 0 < N) {n o : Nat} {l : List (Nat × Int)} (ht : tells N n o l st) (ho : o < n) (hl : ∀ p ∈ l, p.1 < n) : Sl b0 N n o l a :=
  ⟨h.size.trans ht.1, h.out h0 (by rw [ht.1]; exact ho) ht.2.1, fun p hp => h.int (by rw [ht.1]; exact hl p hp) (ht.2.2 p hp)⟩
/-- Code that reads the table: from numbers in slots to numbers in slots. -/
theorem run_N {P : Program} {T : Nat → Option TI} {cuts : List Nat} (hT : TsOk P T) (hm : P.follows .mixedOrders = true) {c : Code} {S : Nat → Prop} (hS : ∀ b, S b → b < w.heap.size) (h : Tb w N T0 T1 b0 bs N t W) (h0 : 0 < N) (hN : N ≤ maxLen) {a : Act} {n o k : Nat} {l : List (Nat × Int)} {D : List Nat} (hs : Sl b0 N n o l a) (hd : Df w b0 bs N D a W) (ho : o < n)
    {l' : Exit → List (Nat × Int)} {X : Exit → Prop} (hl : ∀ e, ∀ p ∈ l' e, p.1 < n) (hex : exC P T cuts c false none 1 (stT n 1 N T0 (tmN N o l) t) fun e st' => X e ∧ tells N n o (l' e) st') {R : Exit → Act → World → Prop}
    (hq : ∀ e a' W' D', X e → Sl b0 N n o (l' e) a' → Tb w N T0 T1 b0 bs N t W' → Df w b0 bs N D' a' W' → R e a' W') : c.wpIn Fence.wide k P R a W :=
  run_T hT hm hS h (Nat.le_refl _) hs.size hd (fun i _ => hs.rep h hN S D i) hex fun e st' a' W' he ha => by
    obtain ⟨D', hd'⟩ := ha.df
    exact hq e a' W' D' he.1 (ha.sl h0 he.2 ho (hl e)) ha.tb hd'
end Go.Px
end

/-! NdR -/
noncomputable section
namespace Go.Px.Try
open Go Go.Proofs Go.Px Go.RowKit
set_option maxRecDepth 100000
section
variable {n : Nat} {P : Program} {ops : Array Oper} {Q : Exit → Act → World → Prop} {a : Act} {w w' : World} {rest : List Oper} {o : Oper} {v : Value}
theorem ls_value (hg : o.guard = none) (hrun : (o.semAt Fence.wide.round a.eval).run P w = .ok (.value v) w') (h : wpListIn Fence.wide n P ops Q rest (a.put o.dst v) w') : wpListIn Fence.wide n P ops Q (o :: rest) a w :=
  wpListIn_plain hg fun K hK => ⟨fun _ _ => trivial, by rw [hrun]; exact hK _ _ h⟩
theorem ls_skip (hg : o.guard = none) (hrun : (o.semAt Fence.wide.round a.eval).run P w = .ok .skip w') (h : wpListIn Fence.wide n P ops Q rest (a.put o.dst undef) w') : wpListIn Fence.wide n P ops Q (o :: rest) a w :=
  wpListIn_plain hg fun K hK => ⟨fun _ _ => trivial, by rw [hrun]; exact hK _ _ h⟩
end
/-- An activation whose first n of N slots are as in another one. -/
structure Ke (a : Act) (N n : Nat) (a' : Act) : Prop where
  size : a'.tmps.size = N
  df : a'.defers = a.defers
  get : ∀ k, k < n → a'.tmps.getD k undef = a.tmps.getD k undef
theorem put_size (a : Act) (i : Nat) (v : Value) : (a.put (some i) v).tmps.size = a.tmps.size := by
  show (a.tmps.setIfInBounds i v).size = _
  simp
theorem put_df (a : Act) (d : Option Nat) (v : Value) : (a.put d v).defers = a.defers := by
  cases d <;> rfl
theorem put_same (a : Act) {i : Nat} (v : Value) (h : i < a.tmps.size) : (a.put (some i) v).tmps.getD i undef = v := by
  show (a.tmps.setIfInBounds i v).getD i undef = v
  rw [Array.getD_eq_getD_getElem?, Array.getElem?_setIfInBounds_self_of_lt h]; rfl
theorem put_ne (a : Act) {i j : Nat} (v : Value) (h : i ≠ j) : (a.put (some i) v).tmps.getD j undef = a.tmps.getD j undef := by
  show (a.tmps.setIfInBounds i v).getD j undef = _
  rw [Array.getD_eq_getD_getElem?, Array.getD_eq_getD_getElem?, Array.getElem?_setIfInBounds_ne h]
theorem ke_put {a a' : Act} {N n i : Nat} {v : Value} (h : Ke a N n a') (hi : n ≤ i) : Ke a N n (a'.put (some i) v) :=
  ⟨by rw [put_size, h.size], by rw [put_df, h.df], fun k hk => by rw [put_ne _ _ (by omega), h.get k hk]⟩
theorem ke_refl {a : Act} {N : Nat} (h : a.tmps.size = N) (n : Nat) : Ke a N n a := ⟨h, rfl, fun _ _ => rfl⟩
def codeB : Code := (Try.f39.body).getD .skip
def lef : Code → Code | .seq c _ => c | c => c
def rig : Code → Code | .seq _ c => c | c => c
def inn : Code → Code | .block _ c => c | .loop c => c | c => c
def c22 : Code := rig (rig (rig (rig (inn (lef (rig (inn (inn (rig (inn (lef (rig (inn (inn (rig (lef (rig (rig (rig codeB)))))))))))))))))))
theorem c22_is : ∃ ops, c22 = .region 22 ops false := ⟨_, rfl⟩
theorem idx_run {w : World} {t e : Nat} (ht : Try.prog.underlying t = some (.slice e)) (he : Try.prog.elem t = e) (hs : (sizeOf e).run Try.prog w = .ok 1 w) {b N c : Nat} {i : Int} (hi : 0 ≤ i ∧ i < N) :
    (Instr.indexAt t (.slice (some ⟨b, 0, none⟩) N c) (.int .i64 i)).run Try.prog w = .ok (.pointer (some ⟨b, i.toNat, none⟩)) w := by
  rw [run_indexAt_slice w t _ N c .i64 i (by rw [he]; exact ht), if_pos hi, he, hs, Result.andThen_ok]
  simp [Addr.add]
  try (intro; omega)
section
variable {o : Oper} {ρ : Operand → Value} {w : World}
theorem op_index {t e : Nat} {x y : Operand} (ho : o.op = .indexAddr t x y) (ht : Try.prog.underlying t = some (.slice e)) (he : Try.prog.elem t = e) (hs : (sizeOf e).run Try.prog w = .ok 1 w) {b N c : Nat} {i : Int} (hx : ρ x = .slice (some ⟨b, 0, none⟩) N c) (hy : ρ y = .int .i64 i) (hi : 0 ≤ i ∧ i < N) :
    (o.semAt Fence.wide.round ρ).run Try.prog w = .ok (.value (.pointer (some ⟨b, i.toNat, none⟩))) w := by
  rw [Oper.semAt_eq _ _ _ (by rw [ho]; simp)]
  simp only [execOp, ho, hx, hy, Sem.run_bind]
  rw [idx_run ht he hs hi]; rfl
theorem op_load {t : Nat} {ti : TI} {x : Operand} (ho : o.op = .load t x) (hk : TOk Try.prog ti t) (hg : ti.agg = false) {b j : Nat} {u : Value} (hx : ρ x = .pointer (some ⟨b, j, none⟩)) (h : w.cell? ⟨b, j, none⟩ = some u) :
    (o.semAt Fence.wide.round ρ).run Try.prog w = .ok (.value u) w := by
  rw [Oper.semAt_eq _ _ _ (by rw [ho]; simp)]
  simp only [execOp, ho, hx, Instr.loadAt, Instr.sureAddr, Sem.run_bind, loadVar_one hk hg h, Result.andThen_ok, Sem.run_pure]
theorem op_store {t : Nat} {ti : TI} {x y : Operand} (ho : o.op = .store t x y) (hk : TOk Try.prog ti t) {b j : Nat} {c : Array Value} {U : TypeId} {u : Value} (hx : ρ x = .pointer (some ⟨b, j, none⟩)) (hy : ρ y = u) (hh : w.heap[b]? = some (Obj.cells c U (0, 0)))
    (hs : u.cells.size = ti.size) (hle : j + ti.size ≤ c.size) (h1 : ∀ j, j < ti.size → (u.cells.getD j undef).oneCell' = true) :
    (o.semAt Fence.wide.round ρ).run Try.prog w = .ok .skip (w.setRow b (splice c j u.cells.toList)) := by
  rw [Oper.semAt_eq _ _ _ (by rw [ho]; simp)]
  simp only [execOp, ho, hx, hy, Sem.run_bind, store_run hk hh hs hle h1, Result.andThen_ok, Sem.run_pure]
end
theorem r22 {w W : World} {b0 : Nat} {bs : Nat → Nat} {t : Nat → Nat → Int} (h : Tb w 61 37 3 b0 bs 61 t W) {a : Act} (hz : a.tmps.size = 101) (h3 : a.tmps.getD 3 undef = .slice (some ⟨b0, 0, none⟩) 61 61)
    {i j x : Int} (h6 : a.tmps.getD 6 undef = .int .i64 i) (h7 : a.tmps.getD 7 undef = .int .i64 j) (h8 : a.tmps.getD 8 undef = .int .i64 x) (hi : 0 ≤ i ∧ i < 61) (hj : 0 ≤ j ∧ j < 61) {n : Nat} {Q : Exit → Act → World → Prop}
    (hq : ∀ a' W', Ke a 101 93 a' → Tb w 61 37 3 b0 bs 61 (upT t i.toNat j.toNat x) W' → (∀ k, ¬ isTb b0 bs 61 k → W'.heap[k]? = W.heap[k]?) → Q .normal a' W') : c22.wpIn Fence.wide n Try.prog Q a W := by
  show (Code.region 22 _ false).wpIn Fence.wide n Try.prog Q a W
  refine wpIn_region_list ?_
  show wpListIn Fence.wide n Try.prog _ Q [_, _, _, _, _, _, _, _] a W
  have k0 := ke_refl hz 93
  obtain ⟨c0, o1, o2, o3⟩ := h.out
  obtain ⟨c, s1, s2, s3⟩ := h.store (i := i.toNat) (j := j.toNat) (by omega) (by omega) x
  refine ls_value (v := .slice (some ⟨b0, 0, none⟩) 61 61) rfl (by rw [← h3]; rfl) ?_
  have k1 := ke_put (v := Value.slice (some ⟨b0, 0, none⟩) 61 61) k0 (i := 93) (by omega)
  have g1 := put_same a (i := 93) (Value.slice (some ⟨b0, 0, none⟩) 61 61) (by omega)
  generalize a.put (some 93) (.slice (some ⟨b0, 0, none⟩) 61 61) = a1 at *
  refine ls_value (v := .int .i64 i) rfl (by rw [← h6, ← k1.get 6 (by omega)]; rfl) ?_
  have k2 := ke_put (v := Value.int .i64 i) k1 (i := 94) (by omega)
  have g2 := put_same a1 (i := 94) (Value.int .i64 i) (by rw [k1.size]; omega)
  have g2' := (put_ne a1 (i := 94) (j := 93) (Value.int .i64 i) (by omega)).trans g1
  generalize a1.put (some 94) (.int .i64 i) = a2 at *
  refine ls_value (v := .pointer (some ⟨b0, i.toNat, none⟩)) rfl (op_index (x := .tmp 93) (y := .tmp 94) rfl (e := 37) rfl rfl rfl g2' g2 hi) ?_
  have k3 := ke_put (v := Value.pointer (some ⟨b0, i.toNat, none⟩)) k2 (i := 95) (by omega)
  have g3 := put_same a2 (i := 95) (Value.pointer (some ⟨b0, i.toNat, none⟩)) (by rw [k2.size]; omega)
  generalize a2.put (some 95) (.pointer (some ⟨b0, i.toNat, none⟩)) = a3 at *
  refine ls_value (v := .slice (some ⟨bs i.toNat, 0, none⟩) 61 61) rfl (op_load (x := .tmp 95) rfl tok37 rfl g3 (by rw [cell_at o1 (by omega), o3 _ (by omega)])) ?_
  have k4 := ke_put (v := Value.slice (some ⟨bs i.toNat, 0, none⟩) 61 61) k3 (i := 96) (by omega)
  have g4 := put_same a3 (i := 96) (Value.slice (some ⟨bs i.toNat, 0, none⟩) 61 61) (by rw [k3.size]; omega)
  generalize a3.put (some 96) (.slice (some ⟨bs i.toNat, 0, none⟩) 61 61) = a4 at *
  refine ls_value (v := .int .i64 j) rfl (by rw [← h7, ← k4.get 7 (by omega)]; rfl) ?_
  have k5 := ke_put (v := Value.int .i64 j) k4 (i := 97) (by omega)
  have g5 := put_same a4 (i := 97) (Value.int .i64 j) (by rw [k4.size]; omega)
  have g5' := (put_ne a4 (i := 97) (j := 96) (Value.int .i64 j) (by omega)).trans g4
  generalize a4.put (some 97) (.int .i64 j) = a5 at *
  refine ls_value (v := .int .i64 x) rfl (by rw [← h8, ← k5.get 8 (by omega)]; rfl) ?_
  have k6 := ke_put (v := Value.int .i64 x) k5 (i := 98) (by omega)
  have g6 := put_same a5 (i := 98) (Value.int .i64 x) (by rw [k5.size]; omega)
  have g6' := (put_ne a5 (i := 98) (j := 96) (Value.int .i64 x) (by omega)).trans g5'
  have g6'' := (put_ne a5 (i := 98) (j := 97) (Value.int .i64 x) (by omega)).trans g5
  generalize a5.put (some 98) (.int .i64 x) = a6 at *
  refine ls_value (v := .pointer (some ⟨bs i.toNat, j.toNat, none⟩)) rfl (op_index (x := .tmp 96) (y := .tmp 97) rfl (e := 3) rfl rfl rfl g6' g6'' hj) ?_
  have k7 := ke_put (v := Value.pointer (some ⟨bs i.toNat, j.toNat, none⟩)) k6 (i := 99) (by omega)
  have g7 := put_same a6 (i := 99) (Value.pointer (some ⟨bs i.toNat, j.toNat, none⟩)) (by rw [k6.size]; omega)
  have g7' := (put_ne a6 (i := 99) (j := 98) (Value.pointer (some ⟨bs i.toNat, j.toNat, none⟩)) (by omega)).trans g6
  generalize a6.put (some 99) (.pointer (some ⟨bs i.toNat, j.toNat, none⟩)) = a7 at *
  refine ls_skip rfl (op_store (x := .tmp 99) (y := .tmp 98) rfl tok3 g7 g7' s1 rfl (by rw [s2]; show j.toNat + 1 ≤ 61; omega) (fun k hk => by
    have : k = 0 := by have : k < 1 := hk; omega
    subst this; rfl)) ?_
  exact hq _ _ ⟨k7.size, k7.df, k7.get⟩ s3 fun k hk => setRow_other _ _ _ _ fun e => hk (.inr ⟨i.toNat, by omega, e⟩)
section
variable {o : Oper} {ρ : Operand → Value} {w : World}
theorem op_make {t e : Nat} {te : TI} {x : Operand} (ho : o.op = .makeSlice t x x) (ht : Try.prog.underlying t = some (.slice e)) (hk : TOk Try.prog te e) (hs : te.size = 1) (hb : te.bytes ≤ 1048576) {l : Int} (hx : ρ x = .int .i64 l) (hl : 0 ≤ l ∧ l ≤ 1000) :
    (o.semAt Fence.wide.round ρ).run Try.prog w = .ok (.value (.slice (some ⟨w.heap.size, 0, none⟩) l.toNat l.toNat)) (w.alloc (.cells (madeCells te.z.cells l.toNat) e)) := by
  obtain ⟨inf, hi, hz, hs', hbb⟩ := hk.info
  rw [Oper.semAt_eq _ _ _ (by rw [ho]; simp)]
  simp only [execOp, ho, hx, Sem.run_bind]
  have hb' : (inf.bytes : Int) * l ≤ 281474976710656 := by
    have h3 : (inf.bytes : Int) ≤ 1048576 := by omega
    have h4 : (inf.bytes : Int) * l ≤ 1048576 * l := Int.mul_le_mul_of_nonneg_right h3 hl.1
    omega
  rw [run_make (P := Try.prog) w t e inf te.z ht hi hz .i64 .i64 l l hl.1 (Int.le_refl _) hb' (by omega), hs', hs, Nat.mul_one]
  rfl
theorem op_add1 {p : Nat} {x : Operand} (ho : o.op = .binOp .add 3 x (.const (.int .i64 1)) p) (hc : ρ (.const (.int .i64 1)) = .int .i64 1) (hx : ρ x = .int .i64 60) : (o.semAt Fence.wide.round ρ).run Try.prog w = .ok (.value (.int .i64 61)) w := by
  rw [Oper.semAt_eq _ _ _ (by rw [ho]; simp)]
  simp only [execOp, ho, hx, hc, Sem.run_bind]
  rfl
end
theorem made_at {te : TI} {z : Value} (hz : te.z = z) (h1 : z.cells = #[z]) {l j : Nat} (hj : j < l) : (madeCells te.z.cells l).getD j undef = z := by
  rw [hz, h1]
  unfold madeCells
  rw [Array.getD_eq_getD_getElem?, Array.getElem?_map, Array.getElem?_range, if_pos hj]
  simp [Nat.mod_one]
def c5 : Code := inn (lef (rig (inn (inn (rig (lef (rig (rig codeB))))))))
theorem c5_is : ∃ ops, c5 = .region 5 ops false := ⟨_, rfl⟩
theorem r5 {w W : World} {b0 m : Nat} {bs : Nat → Nat} {t : Nat → Nat → Int} (h : Tb w 61 37 3 b0 bs m t W) {a : Act} (hz : a.tmps.size = 101) (h3 : a.tmps.getD 3 undef = .slice (some ⟨b0, 0, none⟩) 61 61)
    (h4 : a.tmps.getD 4 undef = .int .i64 m) (h0 : a.tmps.getD 0 undef = .int .i64 60) (hm : m < 61) {n : Nat} {Q : Exit → Act → World → Prop}
    (hq : ∀ a' W' bs', Ke a 101 14 a' → Tb w 61 37 3 b0 bs' (m + 1) (fun p q => if p = m then 0 else t p q) W' → Q .normal a' W') : c5.wpIn Fence.wide n Try.prog Q a W := by
  show (Code.region 5 _ false).wpIn Fence.wide n Try.prog Q a W
  refine wpIn_region_list ?_
  show wpListIn Fence.wide n Try.prog _ Q [_, _, _, _, _, _, _] a W
  have k0 := ke_refl hz 14
  obtain ⟨c, s1, s2, s3⟩ := h.make hm (d := madeCells ti3.z.cells 61) (by simp [madeCells]) (g := fun _ => 0) (fun j hj => made_at (z := .int .i64 0) rfl rfl hj)
  refine ls_value (v := .slice (some ⟨b0, 0, none⟩) 61 61) rfl (by rw [← h3]; rfl) ?_
  have k1 := ke_put (v := Value.slice (some ⟨b0, 0, none⟩) 61 61) k0 (i := 19) (by omega)
  have g1 := put_same a (i := 19) (Value.slice (some ⟨b0, 0, none⟩) 61 61) (by omega)
  generalize a.put (some 19) (.slice (some ⟨b0, 0, none⟩) 61 61) = a1 at *
  refine ls_value (v := .int .i64 m) rfl (by rw [← h4, ← k1.get 4 (by omega)]; rfl) ?_
  have k2 := ke_put (v := Value.int .i64 m) k1 (i := 20) (by omega)
  have g2 := put_same a1 (i := 20) (Value.int .i64 m) (by rw [k1.size]; omega)
  have g2' := (put_ne a1 (i := 20) (j := 19) (Value.int .i64 m) (by omega)).trans g1
  generalize a1.put (some 20) (.int .i64 m) = a2 at *
  refine ls_value (v := .int .i64 60) rfl (by rw [← h0, ← k2.get 0 (by omega)]; rfl) ?_
  have k3 := ke_put (v := Value.int .i64 60) k2 (i := 21) (by omega)
  have g3 := put_same a2 (i := 21) (Value.int .i64 60) (by rw [k2.size]; omega)
  have g3' := (put_ne a2 (i := 21) (j := 19) (Value.int .i64 60) (by omega)).trans g2'
  have g3'' := (put_ne a2 (i := 21) (j := 20) (Value.int .i64 60) (by omega)).trans g2
  generalize a2.put (some 21) (.int .i64 60) = a3 at *
  refine ls_value (v := .int .i64 61) rfl (op_add1 (x := .tmp 21) rfl rfl g3) ?_
  have k4 := ke_put (v := Value.int .i64 61) k3 (i := 22) (by omega)
  have g4 := put_same a3 (i := 22) (Value.int .i64 61) (by rw [k3.size]; omega)
  have g4' := (put_ne a3 (i := 22) (j := 19) (Value.int .i64 61) (by omega)).trans g3'
  have g4'' := (put_ne a3 (i := 22) (j := 20) (Value.int .i64 61) (by omega)).trans g3''
  generalize a3.put (some 22) (.int .i64 61) = a4 at *
  refine ls_value (v := .slice (some ⟨W.heap.size, 0, none⟩) 61 61) rfl (op_make (x := .tmp 22) (l := 61) rfl (e := 3) rfl tok3 rfl (by decide) g4 (by omega)) ?_
  have k5 := ke_put (v := Value.slice (some ⟨W.heap.size, 0, none⟩) 61 61) k4 (i := 23) (by omega)
  have g5 := put_same a4 (i := 23) (Value.slice (some ⟨W.heap.size, 0, none⟩) 61 61) (by rw [k4.size]; omega)
  have g5' := (put_ne a4 (i := 23) (j := 19) (Value.slice (some ⟨W.heap.size, 0, none⟩) 61 61) (by omega)).trans g4'
  have g5'' := (put_ne a4 (i := 23) (j := 20) (Value.slice (some ⟨W.heap.size, 0, none⟩) 61 61) (by omega)).trans g4''
  generalize a4.put (some 23) (.slice (some ⟨W.heap.size, 0, none⟩) 61 61) = a5 at *
  refine ls_value (v := .pointer (some ⟨b0, m, none⟩)) rfl (op_index (x := .tmp 19) (y := .tmp 20) (i := (m : Int)) rfl (e := 37) rfl rfl rfl g5' g5'' (by omega)) ?_
  have k6 := ke_put (v := Value.pointer (some ⟨b0, m, none⟩)) k5 (i := 24) (by omega)
  have g6 := put_same a5 (i := 24) (Value.pointer (some ⟨b0, m, none⟩)) (by rw [k5.size]; omega)
  have g6' := (put_ne a5 (i := 24) (j := 23) (Value.pointer (some ⟨b0, m, none⟩)) (by omega)).trans g5
  generalize a5.put (some 24) (.pointer (some ⟨b0, m, none⟩)) = a6 at *
  refine ls_skip rfl (op_store (x := .tmp 24) (y := .tmp 23) rfl tok37 g6 g6' s1 rfl (by rw [s2]; show m + 1 ≤ 61; omega) (fun k hk => by
    have : k = 0 := by have : k < 1 := hk; omega
    subst this; rfl)) ?_
  exact hq _ _ _ ⟨k6.size, k6.df, k6.get⟩ s3
end Go.Px.Try
end

/-! NdX -/
noncomputable section
namespace Go.Px.Try
open Go Go.Proofs Go.Px
set_option maxRecDepth 100000
def codeX : Code := lef (rig (rig (inn (lef (rig (inn (inn (rig (inn (lef (rig (inn (inn (rig (lef (rig (rig (rig codeB))))))))))))))))))
def codeY : Code := lef (rig (rig (rig (inn (lef (rig (inn (inn (rig (inn (lef (rig (inn (inn (rig (lef (rig (rig (rig codeB)))))))))))))))))))
theorem all_nil {α : Type} {p : α → Prop} : ∀ y ∈ ([] : List α), p y := fun y h => by cases h
theorem all_cons {α : Type} {p : α → Prop} {x : α} {l : List α} (h : p x) (k : ∀ y ∈ l, p y) : ∀ y ∈ x :: l, p y := fun y hy => by
  rcases List.mem_cons.1 hy with rfl | hy
  · exact h
  · exact k y hy
theorem X_ex {t : Nat → Nat → Int} (all a b : Int) (f : Int → Int) (h0 : 0 ≤ a ∧ 0 ≤ b ∧ a + b = all ∧ all ≤ 60) (hf : ∀ d, 0 ≤ d → d < a → f (d + 1) = min (f d) (1 + max (t (a - (d + 1)).toNat d.toNat) (t d.toNat b.toNat))) (hr : ∀ i j, 0 ≤ t i j ∧ t i j ≤ 60) (hfr : ∀ d, 0 ≤ f d ∧ f d ≤ 60) :
    exC Try.prog T [] codeX false none 1 (stT 101 1 61 37 (tmN 61 3 [(0, 60), (5, all), (6, a), (7, b), (8, f 0)]) t) fun e st' => e = .normal ∧ tells 61 101 3 [(0, 60), (5, all), (6, a), (7, b), (8, f a)] st' := by
  conv => whnf
  repeat' first | ((first | refine Ob.a ?_ | refine Sp.tt ?_ | refine Sp.ff ?_ | refine Sp.yes ?_ | refine Sp.no ?_ | refine Sp.nyes ?_ | refine Sp.nno ?_);conv=>whnf) | (refine Sp.ne (fun hc => ?_) (fun hc => ?_) <;> (conv=>whnf)) | (refine Sp.dec (fun hc => ?_) (fun hc => ?_) <;> (conv=>whnf)) | (refine Sp.ndec (fun hc => ?_) (fun hc => ?_) <;> (conv=>whnf)) | (refine Sp.mk (fun hc => ?_) (fun hc => ?_) <;> (conv=>whnf)) | (refine Nx.mk (fun ka kb kx hx hs => ?_) (fun he => ?_) <;> (conv=>whnf)) | (refine Nx.mk (fun ka kx hx hs => ?_) (fun he => ?_) <;> (conv=>whnf)) | (refine Uk.mk (fun hn => ?_) ?_ <;> (conv=>whnf)) | (refine Ap.a ?_ ?_ <;> (conv=>whnf)) | (refine Fi.a ?_;conv=>whnf) | (refine Yl.a ?_ ?_ <;> (conv=>whnf)) | (refine Ob.b ?_;conv=>whnf)
  refine Lp.snap [0, 2, 3, 5, 6, 7, 10, 25, 26, 28, 29, 30, 31, 33, 34, 35, 36, 37, 38, 66, 67, 69, 70, 71, 72, 73, 74, 75, 76, 77, 78, 79, 80, 81, 82, 83, 84, 85, 86, 87, 88, 89, 90, 91, 92, 93, 94, 95, 96, 97, 98, 99, 100] 100 ?_
  (conv=>whnf)
  refine LpB.go 101 ({d : Int // 1 ≤ d ∧ d ≤ a + 1}) 0 (fun ⟨d, _⟩ nx => ([(8, .d (int (f (d - 1)))), (9, .d (int d))], [])) (fun p => (a + 1 - p.1).toNat) (⟨1, by omega, by omega⟩) ?_ ?_
  · rintro ⟨d, d0, d1⟩
    by_cases hd : d ≤ a
    · have e := (hf (d - 1) (by omega) (by omega)).symm
      have hfd := hfr (d - 1)
      rw [show a - (d - 1 + 1) = a - d by omega, show d - 1 + 1 = d + 1 - 1 by omega] at e
      have r1 := hr (0 + (a - d).toNat) (d - 1).toNat
      have r2 := hr (0 + (d - 1).toNat) b.toNat
      rw [show (a - d).toNat = 0 + (a - d).toNat by omega, show t (d - 1).toNat b.toNat = t (0 + (d - 1).toNat) b.toNat by rw [Nat.zero_add]] at e
      conv => whnf
      repeat' first | ((first | refine Ob.a ?_ | refine Sp.tt ?_ | refine Sp.ff ?_ | refine Sp.yes ?_ | refine Sp.no ?_ | refine Sp.nyes ?_ | refine Sp.nno ?_);conv=>whnf) | (refine Sp.ne (fun hc => ?_) (fun hc => ?_) <;> (conv=>whnf)) | (refine Sp.dec (fun hc => ?_) (fun hc => ?_) <;> (conv=>whnf)) | (refine Sp.ndec (fun hc => ?_) (fun hc => ?_) <;> (conv=>whnf)) | (refine Sp.mk (fun hc => ?_) (fun hc => ?_) <;> (conv=>whnf)) | (refine Nx.mk (fun ka kb kx hx hs => ?_) (fun he => ?_) <;> (conv=>whnf)) | (refine Nx.mk (fun ka kx hx hs => ?_) (fun he => ?_) <;> (conv=>whnf)) | (refine Uk.mk (fun hn => ?_) ?_ <;> (conv=>whnf)) | (refine Ap.a ?_ ?_ <;> (conv=>whnf)) | (refine Fi.a ?_;conv=>whnf) | (refine Yl.a ?_ ?_ <;> (conv=>whnf)) | (refine Ob.b ?_;conv=>whnf)
      all_goals first | (exfalso; omega) | exact ⟨rfl, ⟨d + 1, by omega, by omega⟩, Lf, by simp only; omega⟩
    · have ed : d - 1 = a := by omega
      conv => whnf
      repeat' first | ((first | refine Ob.a ?_ | refine Sp.tt ?_ | refine Sp.ff ?_ | refine Sp.yes ?_ | refine Sp.no ?_ | refine Sp.nyes ?_ | refine Sp.nno ?_);conv=>whnf) | (refine Sp.ne (fun hc => ?_) (fun hc => ?_) <;> (conv=>whnf)) | (refine Sp.dec (fun hc => ?_) (fun hc => ?_) <;> (conv=>whnf)) | (refine Sp.ndec (fun hc => ?_) (fun hc => ?_) <;> (conv=>whnf)) | (refine Sp.mk (fun hc => ?_) (fun hc => ?_) <;> (conv=>whnf)) | (refine Nx.mk (fun ka kb kx hx hs => ?_) (fun he => ?_) <;> (conv=>whnf)) | (refine Nx.mk (fun ka kx hx hs => ?_) (fun he => ?_) <;> (conv=>whnf)) | (refine Uk.mk (fun hn => ?_) ?_ <;> (conv=>whnf)) | (refine Ap.a ?_ ?_ <;> (conv=>whnf)) | (refine Fi.a ?_;conv=>whnf) | (refine Yl.a ?_ ?_ <;> (conv=>whnf)) | (refine Ob.b ?_;conv=>whnf)
      all_goals first | (exfalso; omega) | exact ⟨rfl, rfl, rfl, all_cons rfl (all_cons rfl (all_cons rfl (all_cons rfl (all_cons (congrArg (fun x => AV.d (int (f x))) ed) all_nil))))⟩
  · exact Lf
theorem Y_ex {t : Nat → Nat → Int} (all a b : Int) (f : Int → Int) (h0 : 0 ≤ a ∧ 0 ≤ b ∧ a + b = all ∧ all ≤ 60) (hf : ∀ d, 0 ≤ d → d < b → f (d + 1) = min (f d) (1 + max (t d.toNat (b - (d + 1)).toNat) (t a.toNat d.toNat))) (hr : ∀ i j, 0 ≤ t i j ∧ t i j ≤ 60) (hfr : ∀ d, 0 ≤ f d ∧ f d ≤ 60) :
    exC Try.prog T [] codeY false none 1 (stT 101 1 61 37 (tmN 61 3 [(0, 60), (5, all), (6, a), (7, b), (8, f 0)]) t) fun e st' => e = .normal ∧ tells 61 101 3 [(0, 60), (5, all), (6, a), (7, b), (8, f b)] st' := by
  conv => whnf
  repeat' first | ((first | refine Ob.a ?_ | refine Sp.tt ?_ | refine Sp.ff ?_ | refine Sp.yes ?_ | refine Sp.no ?_ | refine Sp.nyes ?_ | refine Sp.nno ?_);conv=>whnf) | (refine Sp.ne (fun hc => ?_) (fun hc => ?_) <;> (conv=>whnf)) | (refine Sp.dec (fun hc => ?_) (fun hc => ?_) <;> (conv=>whnf)) | (refine Sp.ndec (fun hc => ?_) (fun hc => ?_) <;> (conv=>whnf)) | (refine Sp.mk (fun hc => ?_) (fun hc => ?_) <;> (conv=>whnf)) | (refine Nx.mk (fun ka kb kx hx hs => ?_) (fun he => ?_) <;> (conv=>whnf)) | (refine Nx.mk (fun ka kx hx hs => ?_) (fun he => ?_) <;> (conv=>whnf)) | (refine Uk.mk (fun hn => ?_) ?_ <;> (conv=>whnf)) | (refine Ap.a ?_ ?_ <;> (conv=>whnf)) | (refine Fi.a ?_;conv=>whnf) | (refine Yl.a ?_ ?_ <;> (conv=>whnf)) | (refine Ob.b ?_;conv=>whnf)
  refine Lp.snap [0, 2, 3, 5, 6, 7, 9, 25, 26, 28, 29, 30, 31, 33, 34, 35, 36, 37, 38, 39, 40, 42, 43, 44, 45, 46, 47, 48, 49, 50, 51, 52, 53, 54, 55, 56, 57, 58, 59, 60, 61, 62, 63, 64, 65, 93, 94, 95, 96, 97, 98, 99, 100] 100 ?_
  (conv=>whnf)
  refine LpB.go 101 ({d : Int // 1 ≤ d ∧ d ≤ b + 1}) 0 (fun ⟨d, _⟩ nx => ([(8, .d (int (f (d - 1)))), (10, .d (int d))], [])) (fun p => (b + 1 - p.1).toNat) (⟨1, by omega, by omega⟩) ?_ ?_
  · rintro ⟨d, d0, d1⟩
    by_cases hd : d ≤ b
    · have e := (hf (d - 1) (by omega) (by omega)).symm
      have hfd := hfr (d - 1)
      rw [show b - (d - 1 + 1) = b - d by omega, show d - 1 + 1 = d + 1 - 1 by omega] at e
      have r1 := hr (0 + (d - 1).toNat) (b - d).toNat
      have r2 := hr (0 + a.toNat) (d - 1).toNat
      rw [show t (d - 1).toNat (b - d).toNat = t (0 + (d - 1).toNat) (b - d).toNat by rw [Nat.zero_add], show t a.toNat (d - 1).toNat = t (0 + a.toNat) (d - 1).toNat by rw [Nat.zero_add]] at e
      conv => whnf
      repeat' first | ((first | refine Ob.a ?_ | refine Sp.tt ?_ | refine Sp.ff ?_ | refine Sp.yes ?_ | refine Sp.no ?_ | refine Sp.nyes ?_ | refine Sp.nno ?_);conv=>whnf) | (refine Sp.ne (fun hc => ?_) (fun hc => ?_) <;> (conv=>whnf)) | (refine Sp.dec (fun hc => ?_) (fun hc => ?_) <;> (conv=>whnf)) | (refine Sp.ndec (fun hc => ?_) (fun hc => ?_) <;> (conv=>whnf)) | (refine Sp.mk (fun hc => ?_) (fun hc => ?_) <;> (conv=>whnf)) | (refine Nx.mk (fun ka kb kx hx hs => ?_) (fun he => ?_) <;> (conv=>whnf)) | (refine Nx.mk (fun ka kx hx hs => ?_) (fun he => ?_) <;> (conv=>whnf)) | (refine Uk.mk (fun hn => ?_) ?_ <;> (conv=>whnf)) | (refine Ap.a ?_ ?_ <;> (conv=>whnf)) | (refine Fi.a ?_;conv=>whnf) | (refine Yl.a ?_ ?_ <;> (conv=>whnf)) | (refine Ob.b ?_;conv=>whnf)
      all_goals first | (exfalso; omega) | exact ⟨rfl, ⟨d + 1, by omega, by omega⟩, Lf, by simp only; omega⟩
    · have ed : d - 1 = b := by omega
      conv => whnf
      repeat' first | ((first | refine Ob.a ?_ | refine Sp.tt ?_ | refine Sp.ff ?_ | refine Sp.yes ?_ | refine Sp.no ?_ | refine Sp.nyes ?_ | refine Sp.nno ?_);conv=>whnf) | (refine Sp.ne (fun hc => ?_) (fun hc => ?_) <;> (conv=>whnf)) | (refine Sp.dec (fun hc => ?_) (fun hc => ?_) <;> (conv=>whnf)) | (refine Sp.ndec (fun hc => ?_) (fun hc => ?_) <;> (conv=>whnf)) | (refine Sp.mk (fun hc => ?_) (fun hc => ?_) <;> (conv=>whnf)) | (refine Nx.mk (fun ka kb kx hx hs => ?_) (fun he => ?_) <;> (conv=>whnf)) | (refine Nx.mk (fun ka kx hx hs => ?_) (fun he => ?_) <;> (conv=>whnf)) | (refine Uk.mk (fun hn => ?_) ?_ <;> (conv=>whnf)) | (refine Ap.a ?_ ?_ <;> (conv=>whnf)) | (refine Fi.a ?_;conv=>whnf) | (refine Yl.a ?_ ?_ <;> (conv=>whnf)) | (refine Ob.b ?_;conv=>whnf)
      all_goals first | (exfalso; omega) | exact ⟨rfl, rfl, rfl, all_cons rfl (all_cons rfl (all_cons rfl (all_cons rfl (all_cons (congrArg (fun x => AV.d (int (f x))) ed) all_nil))))⟩
  · exact Lf
end Go.Px.Try
end

/-! NdS -/
noncomputable section
namespace Go.Px.Try
open Go Go.Proofs Go.Px Go.RowKit
set_option maxRecDepth 100000
def cL : Code := lef (rig (rig (rig codeB)))
def cB2 : Code := inn (inn (rig cL))
def cS2 : Code := inn (lef (rig cB2))
def cB3 : Code := inn (inn (rig cS2))
def cBody : Code := inn (lef (rig cB3))
abbrev ste (l : List (Nat × Int)) (t : Nat → Nat → Int) : St := stT 101 1 61 37 (tmN 61 3 l) t
abbrev exN (c : Code) (l : List (Nat × Int)) (t : Nat → Nat → Int) (X : Exit → Prop) (l' : Exit → List (Nat × Int)) : Prop := exC Try.prog T [] c false none 1 (ste l t) fun e st' => X e ∧ tells 61 101 3 (l' e) st'
theorem H3_ex (s k : Int) (hs : 0 ≤ s ∧ s ≤ 60) (hk : 0 ≤ k ∧ k ≤ 61) (t : Nat → Nat → Int) : exN (lef cB3) [(0, 60), (5, s), (6, k)] t (fun e => (e = .normal ∧ k ≤ s) ∨ (e = .exit 4 ∧ ¬ k ≤ s)) fun _ => [(0, 60), (5, s), (6, k)] := by
  conv => whnf
  repeat' first | ((first | refine Ob.a ?_ | refine Sp.tt ?_ | refine Sp.ff ?_ | refine Sp.yes ?_ | refine Sp.no ?_ | refine Sp.nyes ?_ | refine Sp.nno ?_);conv=>whnf) | (refine Sp.ne (fun hc => ?_) (fun hc => ?_) <;> (conv=>whnf)) | (refine Sp.dec (fun hc => ?_) (fun hc => ?_) <;> (conv=>whnf)) | (refine Sp.ndec (fun hc => ?_) (fun hc => ?_) <;> (conv=>whnf)) | (refine Sp.mk (fun hc => ?_) (fun hc => ?_) <;> (conv=>whnf)) | (refine Nx.mk (fun ka kb kx hx hs => ?_) (fun he => ?_) <;> (conv=>whnf)) | (refine Nx.mk (fun ka kx hx hs => ?_) (fun he => ?_) <;> (conv=>whnf)) | (refine Uk.mk (fun hn => ?_) ?_ <;> (conv=>whnf)) | (refine Ap.a ?_ ?_ <;> (conv=>whnf)) | (refine Fi.a ?_;conv=>whnf) | (refine Yl.a ?_ ?_ <;> (conv=>whnf)) | (refine Ob.b ?_;conv=>whnf)
  · exact ⟨.inl ⟨rfl, by assumption⟩, rfl, rfl, all_cons rfl (all_cons rfl (all_cons rfl all_nil))⟩
  · exact ⟨.inr ⟨rfl, by assumption⟩, rfl, rfl, all_cons rfl (all_cons rfl (all_cons rfl all_nil))⟩
theorem R12_ex (s k : Int) (hs : 0 ≤ s ∧ s ≤ 60) (hk : 0 ≤ k ∧ k ≤ 61) (t : Nat → Nat → Int) : exN (lef cBody) [(0, 60), (5, s), (6, k)] t (fun e => e = .normal) fun _ => [(0, 60), (5, s), (6, k), (7, s - k)] := by
  conv => whnf
  repeat' first | ((first | refine Ob.a ?_ | refine Sp.tt ?_ | refine Sp.ff ?_ | refine Sp.yes ?_ | refine Sp.no ?_ | refine Sp.nyes ?_ | refine Sp.nno ?_);conv=>whnf) | (refine Sp.ne (fun hc => ?_) (fun hc => ?_) <;> (conv=>whnf)) | (refine Sp.dec (fun hc => ?_) (fun hc => ?_) <;> (conv=>whnf)) | (refine Sp.ndec (fun hc => ?_) (fun hc => ?_) <;> (conv=>whnf)) | (refine Sp.mk (fun hc => ?_) (fun hc => ?_) <;> (conv=>whnf)) | (refine Nx.mk (fun ka kb kx hx hs => ?_) (fun he => ?_) <;> (conv=>whnf)) | (refine Nx.mk (fun ka kx hx hs => ?_) (fun he => ?_) <;> (conv=>whnf)) | (refine Uk.mk (fun hn => ?_) ?_ <;> (conv=>whnf)) | (refine Ap.a ?_ ?_ <;> (conv=>whnf)) | (refine Fi.a ?_;conv=>whnf) | (refine Yl.a ?_ ?_ <;> (conv=>whnf)) | (refine Ob.b ?_;conv=>whnf)
  exact ⟨rfl, rfl, rfl, all_cons rfl (all_cons rfl (all_cons rfl (all_cons rfl all_nil)))⟩
theorem R13_ex (s k b : Int) (t : Nat → Nat → Int) : exN (lef (rig cBody)) [(0, 60), (5, s), (6, k), (7, b)] t (fun e => e = .normal) fun _ => [(0, 60), (5, s), (6, k), (7, b), (8, s)] := by
  conv => whnf
  repeat' first | ((first | refine Ob.a ?_ | refine Sp.tt ?_ | refine Sp.ff ?_ | refine Sp.yes ?_ | refine Sp.no ?_ | refine Sp.nyes ?_ | refine Sp.nno ?_);conv=>whnf) | (refine Sp.ne (fun hc => ?_) (fun hc => ?_) <;> (conv=>whnf)) | (refine Sp.dec (fun hc => ?_) (fun hc => ?_) <;> (conv=>whnf)) | (refine Sp.ndec (fun hc => ?_) (fun hc => ?_) <;> (conv=>whnf)) | (refine Sp.mk (fun hc => ?_) (fun hc => ?_) <;> (conv=>whnf)) | (refine Nx.mk (fun ka kb kx hx hs => ?_) (fun he => ?_) <;> (conv=>whnf)) | (refine Nx.mk (fun ka kx hx hs => ?_) (fun he => ?_) <;> (conv=>whnf)) | (refine Uk.mk (fun hn => ?_) ?_ <;> (conv=>whnf)) | (refine Ap.a ?_ ?_ <;> (conv=>whnf)) | (refine Fi.a ?_;conv=>whnf) | (refine Yl.a ?_ ?_ <;> (conv=>whnf)) | (refine Ob.b ?_;conv=>whnf)
  exact ⟨rfl, rfl, rfl, all_cons rfl (all_cons rfl (all_cons rfl (all_cons rfl (all_cons rfl all_nil))))⟩
theorem R11_ex (s k : Int) (hk : 0 ≤ k ∧ k ≤ 60) (t : Nat → Nat → Int) : exN (rig (rig cB3)) [(0, 60), (5, s), (6, k)] t (fun e => e = .normal) fun _ => [(0, 60), (5, s), (6, k + 1)] := by
  conv => whnf
  repeat' first | ((first | refine Ob.a ?_ | refine Sp.tt ?_ | refine Sp.ff ?_ | refine Sp.yes ?_ | refine Sp.no ?_ | refine Sp.nyes ?_ | refine Sp.nno ?_);conv=>whnf) | (refine Sp.ne (fun hc => ?_) (fun hc => ?_) <;> (conv=>whnf)) | (refine Sp.dec (fun hc => ?_) (fun hc => ?_) <;> (conv=>whnf)) | (refine Sp.ndec (fun hc => ?_) (fun hc => ?_) <;> (conv=>whnf)) | (refine Sp.mk (fun hc => ?_) (fun hc => ?_) <;> (conv=>whnf)) | (refine Nx.mk (fun ka kb kx hx hs => ?_) (fun he => ?_) <;> (conv=>whnf)) | (refine Nx.mk (fun ka kx hx hs => ?_) (fun he => ?_) <;> (conv=>whnf)) | (refine Uk.mk (fun hn => ?_) ?_ <;> (conv=>whnf)) | (refine Ap.a ?_ ?_ <;> (conv=>whnf)) | (refine Fi.a ?_;conv=>whnf) | (refine Yl.a ?_ ?_ <;> (conv=>whnf)) | (refine Ob.b ?_;conv=>whnf)
  exact ⟨rfl, rfl, rfl, all_cons rfl (all_cons rfl (all_cons rfl all_nil))⟩
theorem H2_ex (s : Int) (hs : 0 ≤ s ∧ s ≤ 61) (t : Nat → Nat → Int) : exN (lef cB2) [(0, 60), (5, s)] t (fun e => (e = .normal ∧ s ≤ 60) ∨ (e = .exit 2 ∧ ¬ s ≤ 60)) fun _ => [(0, 60), (5, s)] := by
  conv => whnf
  repeat' first | ((first | refine Ob.a ?_ | refine Sp.tt ?_ | refine Sp.ff ?_ | refine Sp.yes ?_ | refine Sp.no ?_ | refine Sp.nyes ?_ | refine Sp.nno ?_);conv=>whnf) | (refine Sp.ne (fun hc => ?_) (fun hc => ?_) <;> (conv=>whnf)) | (refine Sp.dec (fun hc => ?_) (fun hc => ?_) <;> (conv=>whnf)) | (refine Sp.ndec (fun hc => ?_) (fun hc => ?_) <;> (conv=>whnf)) | (refine Sp.mk (fun hc => ?_) (fun hc => ?_) <;> (conv=>whnf)) | (refine Nx.mk (fun ka kb kx hx hs => ?_) (fun he => ?_) <;> (conv=>whnf)) | (refine Nx.mk (fun ka kx hx hs => ?_) (fun he => ?_) <;> (conv=>whnf)) | (refine Uk.mk (fun hn => ?_) ?_ <;> (conv=>whnf)) | (refine Ap.a ?_ ?_ <;> (conv=>whnf)) | (refine Fi.a ?_;conv=>whnf) | (refine Yl.a ?_ ?_ <;> (conv=>whnf)) | (refine Ob.b ?_;conv=>whnf)
  · exact ⟨.inl ⟨rfl, by assumption⟩, rfl, rfl, all_cons rfl (all_cons rfl all_nil)⟩
  · exact ⟨.inr ⟨rfl, by assumption⟩, rfl, rfl, all_cons rfl (all_cons rfl all_nil)⟩
theorem R9_ex (s : Int) (t : Nat → Nat → Int) : exN (lef cS2) [(0, 60), (5, s)] t (fun e => e = .normal) fun _ => [(0, 60), (5, s), (6, 0)] := by
  conv => whnf
  repeat' first | ((first | refine Ob.a ?_ | refine Sp.tt ?_ | refine Sp.ff ?_ | refine Sp.yes ?_ | refine Sp.no ?_ | refine Sp.nyes ?_ | refine Sp.nno ?_);conv=>whnf) | (refine Sp.ne (fun hc => ?_) (fun hc => ?_) <;> (conv=>whnf)) | (refine Sp.dec (fun hc => ?_) (fun hc => ?_) <;> (conv=>whnf)) | (refine Sp.ndec (fun hc => ?_) (fun hc => ?_) <;> (conv=>whnf)) | (refine Sp.mk (fun hc => ?_) (fun hc => ?_) <;> (conv=>whnf)) | (refine Nx.mk (fun ka kb kx hx hs => ?_) (fun he => ?_) <;> (conv=>whnf)) | (refine Nx.mk (fun ka kx hx hs => ?_) (fun he => ?_) <;> (conv=>whnf)) | (refine Uk.mk (fun hn => ?_) ?_ <;> (conv=>whnf)) | (refine Ap.a ?_ ?_ <;> (conv=>whnf)) | (refine Fi.a ?_;conv=>whnf) | (refine Yl.a ?_ ?_ <;> (conv=>whnf)) | (refine Ob.b ?_;conv=>whnf)
  exact ⟨rfl, rfl, rfl, all_cons rfl (all_cons rfl (all_cons rfl all_nil))⟩
theorem R8_ex (s : Int) (hs : 0 ≤ s ∧ s ≤ 60) (t : Nat → Nat → Int) : exN (rig (rig cB2)) [(0, 60), (5, s)] t (fun e => e = .normal) fun _ => [(0, 60), (5, s + 1)] := by
  conv => whnf
  repeat' first | ((first | refine Ob.a ?_ | refine Sp.tt ?_ | refine Sp.ff ?_ | refine Sp.yes ?_ | refine Sp.no ?_ | refine Sp.nyes ?_ | refine Sp.nno ?_);conv=>whnf) | (refine Sp.ne (fun hc => ?_) (fun hc => ?_) <;> (conv=>whnf)) | (refine Sp.dec (fun hc => ?_) (fun hc => ?_) <;> (conv=>whnf)) | (refine Sp.ndec (fun hc => ?_) (fun hc => ?_) <;> (conv=>whnf)) | (refine Sp.mk (fun hc => ?_) (fun hc => ?_) <;> (conv=>whnf)) | (refine Nx.mk (fun ka kb kx hx hs => ?_) (fun he => ?_) <;> (conv=>whnf)) | (refine Nx.mk (fun ka kx hx hs => ?_) (fun he => ?_) <;> (conv=>whnf)) | (refine Uk.mk (fun hn => ?_) ?_ <;> (conv=>whnf)) | (refine Ap.a ?_ ?_ <;> (conv=>whnf)) | (refine Fi.a ?_;conv=>whnf) | (refine Yl.a ?_ ?_ <;> (conv=>whnf)) | (refine Ob.b ?_;conv=>whnf)
  exact ⟨rfl, rfl, rfl, all_cons rfl (all_cons rfl all_nil)⟩
theorem R6_ex (t : Nat → Nat → Int) : exN (lef cL) [(0, 60)] t (fun e => e = .normal) fun _ => [(0, 60), (5, 1)] := by
  conv => whnf
  repeat' first | ((first | refine Ob.a ?_ | refine Sp.tt ?_ | refine Sp.ff ?_ | refine Sp.yes ?_ | refine Sp.no ?_ | refine Sp.nyes ?_ | refine Sp.nno ?_);conv=>whnf) | (refine Sp.ne (fun hc => ?_) (fun hc => ?_) <;> (conv=>whnf)) | (refine Sp.dec (fun hc => ?_) (fun hc => ?_) <;> (conv=>whnf)) | (refine Sp.ndec (fun hc => ?_) (fun hc => ?_) <;> (conv=>whnf)) | (refine Sp.mk (fun hc => ?_) (fun hc => ?_) <;> (conv=>whnf)) | (refine Nx.mk (fun ka kb kx hx hs => ?_) (fun he => ?_) <;> (conv=>whnf)) | (refine Nx.mk (fun ka kx hx hs => ?_) (fun he => ?_) <;> (conv=>whnf)) | (refine Uk.mk (fun hn => ?_) ?_ <;> (conv=>whnf)) | (refine Ap.a ?_ ?_ <;> (conv=>whnf)) | (refine Fi.a ?_;conv=>whnf) | (refine Yl.a ?_ ?_ <;> (conv=>whnf)) | (refine Ob.b ?_;conv=>whnf)
  exact ⟨rfl, rfl, rfl, all_cons rfl (all_cons rfl all_nil)⟩
theorem bsL_all (a b : Nat) : ∀ d, bsL a b d ≤ a + b
  | 0 => Nat.le_refl _
  | d + 1 => Nat.le_trans (Nat.min_le_left _ _) (bsL_all a b d)
theorem bsR_all (a b : Nat) : ∀ d, bsR a b d ≤ a + b
  | 0 => bsL_all a b a
  | d + 1 => Nat.le_trans (Nat.min_le_left _ _) (bsR_all a b d)
/-- The table is right for all sums below s, and at s up to k. -/
structure TR (t : Nat → Nat → Int) (s k : Nat) : Prop where
  is : ∀ i j, i + j < s ∨ (i + j = s ∧ i < k) → t i j = (nd i j : Nat)
  rng : ∀ i j, 0 ≤ t i j ∧ t i j ≤ 60
  z : ∀ i j, ¬ (i + j < s ∨ (i + j = s ∧ i < k)) → t i j = 0
theorem TR.up {t : Nat → Nat → Int} {s k : Nat} (h : TR t s k) (hk : k ≤ s) (hs : s ≤ 60) : TR (upT t k (s - k) ((nd k (s - k) : Nat) : Int)) s (k + 1) := by
  have hn := (nd_facts (a := k) (b := s - k) (by omega)).2.2.1
  refine ⟨fun i j hij => ?_, fun i j => ?_, fun i j hij => ?_⟩
  · unfold upT
    by_cases e : i = k ∧ j = s - k
    · rw [if_pos e, e.1, e.2]
    · rw [if_neg e]
      refine h.is i j ?_
      omega
  · unfold upT
    split
    · omega
    · exact h.rng i j
  · unfold upT
    rw [if_neg (by omega)]
    exact h.z i j (by omega)
theorem TR.next {t : Nat → Nat → Int} {s : Nat} (h : TR t s (s + 1)) : TR t (s + 1) 0 :=
  ⟨fun i j hij => h.is i j (by omega), h.rng, fun i j hij => h.z i j (by omega)⟩
theorem minNI (x y : Nat) : ((min x y : Nat) : Int) = min (x : Int) y := by omega
theorem maxNI (x y : Nat) : ((max x y : Nat) : Int) = max (x : Int) y := by omega
/-- What is known in the loops. -/
def Iv (w : World) (l : List (Nat × Int)) (s k : Nat) (a : Act) (W : World) : Prop :=
  ∃ b0 bs t D, Sl b0 61 101 3 l a ∧ Tb w 61 37 3 b0 bs 61 t W ∧ Df w b0 bs 61 D a W ∧ TR t s k
theorem body3 {S : Nat → Prop} {w : World} (hS : ∀ b, S b → b < w.heap.size) {s k : Nat} (hs : s ≤ 60) (hk : k ≤ s) {a : Act} {W : World} (h : Iv w [(0, 60), (5, s), (6, k)] s k a W) {n : Nat} {Q : Exit → Act → World → Prop}
    (hq : ∀ a' W', Iv w [(0, 60), (5, s), (6, k)] s (k + 1) a' W' → Q .normal a' W') : cBody.wpIn Fence.wide n Try.prog Q a W := by
  obtain ⟨b0, bs, t, D, h1, h2, h3, h4⟩ := h
  have lr : ∀ d, 0 ≤ ((bsL k (s - k) d : Nat) : Int) ∧ ((bsL k (s - k) d : Nat) : Int) ≤ 60 := fun d => by have := bsL_all k (s - k) d; omega
  have rr : ∀ d, 0 ≤ ((bsR k (s - k) d : Nat) : Int) ∧ ((bsR k (s - k) d : Nat) : Int) ≤ 60 := fun d => by have := bsR_all k (s - k) d; omega
  show (Code.seq (lef cBody) (.seq (lef (rig cBody)) (.seq codeX (.seq codeY c22)))).wpIn Fence.wide n Try.prog Q a W
  refine wpIn_seq ?_
  refine run_N tys hM hS h2 (by omega) (by unfold maxLen; omega) h1 h3 (by omega) (l' := fun _ => [(0, 60), (5, s), (6, k), (7, s - k)]) (fun _ => all_cons (Nat.le_of_ble_eq_true rfl) (all_cons (Nat.le_of_ble_eq_true rfl) (all_cons (Nat.le_of_ble_eq_true rfl) (all_cons (Nat.le_of_ble_eq_true rfl) all_nil)))) (R12_ex s k (by omega) (by omega) t) ?_
  rintro e a1 W1 D1 rfl h1 h2 h3
  refine wpIn_seq ?_
  refine run_N tys hM hS h2 (by omega) (by unfold maxLen; omega) h1 h3 (by omega) (l' := fun _ => [(0, 60), (5, s), (6, k), (7, s - k), (8, s)]) (fun _ => all_cons (Nat.le_of_ble_eq_true rfl) (all_cons (Nat.le_of_ble_eq_true rfl) (all_cons (Nat.le_of_ble_eq_true rfl) (all_cons (Nat.le_of_ble_eq_true rfl) (all_cons (Nat.le_of_ble_eq_true rfl) all_nil))))) (R13_ex s k (s - k) t) ?_
  rintro e a1 W1 D1 rfl h1 h2 h3
  refine wpIn_seq ?_
  have e0 : ((bsL k (s - k) (0 : Int).toNat : Nat) : Int) = s := by show ((k + (s - k) : Nat) : Int) = s; omega
  have hX := X_ex (t := t) s k (s - k) (fun d => ((bsL k (s - k) d.toNat : Nat) : Int)) (by omega) (fun d d0 d1 => by
    have e1 : (d + 1).toNat = d.toNat + 1 := by omega
    have e2 := h4.is ((k : Int) - (d + 1)).toNat d.toNat (by omega)
    have e3 := h4.is d.toNat ((s : Int) - k).toNat (by omega)
    rw [e2, e3, e1]
    show ((min (bsL k (s - k) d.toNat) (1 + max (nd (k - (d.toNat + 1)) d.toNat) (nd d.toNat (s - k))) : Nat) : Int) = _
    rw [minNI, Int.natCast_add, maxNI, show ((k : Int) - (d + 1)).toNat = k - (d.toNat + 1) by omega, show ((s : Int) - k).toNat = s - k by omega]
    rfl) h4.rng (fun d => lr d.toNat)
  simp only [e0] at hX
  refine run_N tys hM hS h2 (by omega) (by unfold maxLen; omega) h1 h3 (by omega) (l' := fun _ => [(0, 60), (5, s), (6, k), (7, s - k), (8, ((bsL k (s - k) (k : Int).toNat : Nat) : Int))]) (fun _ => all_cons (Nat.le_of_ble_eq_true rfl) (all_cons (Nat.le_of_ble_eq_true rfl) (all_cons (Nat.le_of_ble_eq_true rfl) (all_cons (Nat.le_of_ble_eq_true rfl) (all_cons (Nat.le_of_ble_eq_true rfl) all_nil))))) (hX) ?_
  rintro e a1 W1 D1 rfl h1 h2 h3
  refine wpIn_seq ?_
  have hY := Y_ex (t := t) s k (s - k) (fun d => ((bsR k (s - k) d.toNat : Nat) : Int)) (by omega) (fun d d0 d1 => by
    have e1 : (d + 1).toNat = d.toNat + 1 := by omega
    have e2 := h4.is d.toNat ((s : Int) - k - (d + 1)).toNat (by omega)
    have e3 := h4.is (k : Int).toNat d.toNat (by omega)
    rw [e2, e3, e1]
    show ((min (bsR k (s - k) d.toNat) (1 + max (nd d.toNat (s - k - (d.toNat + 1))) (nd k d.toNat)) : Nat) : Int) = _
    rw [minNI, Int.natCast_add, maxNI, show ((s : Int) - k - (d + 1)).toNat = s - k - (d.toNat + 1) by omega]
    rfl) h4.rng (fun d => rr d.toNat)
  refine run_N tys hM hS h2 (by omega) (by unfold maxLen; omega) h1 h3 (by omega) (l' := fun _ => [(0, 60), (5, s), (6, k), (7, s - k), (8, ((bsR k (s - k) ((s : Int) - k).toNat : Nat) : Int))]) (fun _ => all_cons (Nat.le_of_ble_eq_true rfl) (all_cons (Nat.le_of_ble_eq_true rfl) (all_cons (Nat.le_of_ble_eq_true rfl) (all_cons (Nat.le_of_ble_eq_true rfl) (all_cons (Nat.le_of_ble_eq_true rfl) all_nil))))) (hY) ?_
  rintro e a1 W1 D1 rfl h1 h2 h3
  refine r22 h2 h1.size h1.out (i := k) (j := s - k) (x := ((nd k (s - k) : Nat) : Int)) ?_ ?_ ?_ (by omega) (by omega) fun a2 W2 g1 g2 g3 => hq _ _ ?_
  · exact h1.num (6, (k : Int)) (by simp)
  · exact h1.num (7, (s : Int) - k) (by simp)
  · rw [h1.num (8, _) (List.mem_cons_of_mem _ (List.mem_cons_of_mem _ (List.mem_cons_of_mem _ (List.mem_cons_of_mem _ (List.mem_cons_self ..))))), nd_rec (a := k) (b := s - k) (by omega), show ((s : Int) - k).toNat = s - k by omega]
  · refine ⟨b0, bs, _, D1, ⟨g1.size, (g1.get 3 (by omega)).trans h1.out, ?_⟩, g2, h3.keep g1.df g3, ?_⟩
    · refine all_cons ((g1.get 0 (by omega)).trans (h1.num (0, 60) (by simp))) (all_cons ((g1.get 5 (by omega)).trans (h1.num (5, (s : Int)) (by simp))) (all_cons ((g1.get 6 (by omega)).trans (h1.num (6, (k : Int)) (by simp))) all_nil))
    · rw [show ((s : Int) - k).toNat = s - k by omega]
      exact h4.up hk hs
/-- The inner loop. -/
theorem loop3 {S : Nat → Prop} {w : World} (hS : ∀ b, S b → b < w.heap.size) {s : Nat} (hs : s ≤ 60) {a : Act} {W : World} (h : Iv w [(0, 60), (5, s), (6, 0)] s 0 a W) {n : Nat} {Q : Exit → Act → World → Prop}
    (hq : ∀ a' W', Iv w [(0, 60), (5, s)] (s + 1) 0 a' W' → Q .normal a' W') : (rig cS2).wpIn Fence.wide n Try.prog Q a W := by
  show (Code.block 4 (.loop cB3)).wpIn Fence.wide n Try.prog Q a W
  refine wpIn_block ?_
  refine wpIn_loop_ix (fun (k : Nat) a W => k ≤ s + 1 ∧ Iv w [(0, 60), (5, s), (6, k)] s k a W) (fun k => s + 1 - k) 0 ⟨by omega, h⟩ ?_
  rintro k a W ⟨hk, b0, bs, t, D, h1, h2, h3, h4⟩
  show (Code.seq (lef cB3) (.seq (.block 5 cBody) (rig (rig cB3)))).wpIn Fence.wide n Try.prog _ a W
  refine wpIn_seq ?_
  refine run_N tys hM hS h2 (by omega) (by unfold maxLen; omega) h1 h3 (by omega) (l' := fun _ => [(0, 60), (5, s), (6, k)]) (fun _ => all_cons (Nat.le_of_ble_eq_true rfl) (all_cons (Nat.le_of_ble_eq_true rfl) (all_cons (Nat.le_of_ble_eq_true rfl) all_nil))) (H3_ex s k (by omega) (by omega) t) ?_
  rintro e a1 W1 D1 (⟨rfl, hc⟩ | ⟨rfl, hc⟩) h1 h2 h3
  · refine wpIn_seq ?_
    refine wpIn_block ?_
    refine body3 hS hs (by omega) ⟨b0, bs, t, D1, h1, h2, h3, h4⟩ fun a2 W2 hi => ?_
    obtain ⟨b0, bs, t, D, h1, h2, h3, h4⟩ := hi
    refine run_N tys hM hS h2 (by omega) (by unfold maxLen; omega) h1 h3 (by omega) (l' := fun _ => [(0, 60), (5, s), (6, (k : Int) + 1)]) (fun _ => all_cons (Nat.le_of_ble_eq_true rfl) (all_cons (Nat.le_of_ble_eq_true rfl) (all_cons (Nat.le_of_ble_eq_true rfl) all_nil))) (R11_ex s k (by omega) t) ?_
    rintro e a1 W1 D1 rfl h1 h2 h3
    exact ⟨k + 1, ⟨by omega, b0, bs, t, D1, h1, h2, h3, h4⟩, by omega⟩
  · have ek : k = s + 1 := by omega
    subst ek
    exact hq _ _ ⟨b0, bs, t, D1, ⟨h1.size, h1.out, all_cons (h1.num (0, 60) (by simp)) (all_cons (h1.num (5, (s : Int)) (by simp)) all_nil)⟩, h2, h3, h4.next⟩
/-- The loop over all sums. -/
theorem loop2 {S : Nat → Prop} {w : World} (hS : ∀ b, S b → b < w.heap.size) {a : Act} {W : World} (h : Iv w [(0, 60)] 1 0 a W) {n : Nat} {Q : Exit → Act → World → Prop}
    (hq : ∀ a' W', Iv w [(0, 60)] 61 0 a' W' → Q .normal a' W') : cL.wpIn Fence.wide n Try.prog Q a W := by
  obtain ⟨b0, bs, t, D, h1, h2, h3, h4⟩ := h
  show (Code.seq (lef cL) (.block 2 (.loop cB2))).wpIn Fence.wide n Try.prog Q a W
  refine wpIn_seq ?_
  refine run_N tys hM hS h2 (by omega) (by unfold maxLen; omega) h1 h3 (by omega) (l' := fun _ => [(0, 60), (5, 1)]) (fun _ => all_cons (Nat.le_of_ble_eq_true rfl) (all_cons (Nat.le_of_ble_eq_true rfl) all_nil)) (R6_ex t) ?_
  rintro e a1 W1 D1 rfl h1 h2 h3
  refine wpIn_block ?_
  refine wpIn_loop_ix (fun (s : Nat) a W => (1 ≤ s ∧ s ≤ 61) ∧ Iv w [(0, 60), (5, s)] s 0 a W) (fun s => 61 - s) 1 ⟨by omega, b0, bs, t, D1, h1, h2, h3, h4⟩ ?_
  clear h1 h2 h3 h4
  rintro s a W ⟨hs, b0, bs, t, D, h1, h2, h3, h4⟩
  show (Code.seq (lef cB2) (.seq (.block 3 (.seq (lef cS2) (rig cS2))) (rig (rig cB2)))).wpIn Fence.wide n Try.prog _ a W
  refine wpIn_seq ?_
  refine run_N tys hM hS h2 (by omega) (by unfold maxLen; omega) h1 h3 (by omega) (l' := fun _ => [(0, 60), (5, s)]) (fun _ => all_cons (Nat.le_of_ble_eq_true rfl) (all_cons (Nat.le_of_ble_eq_true rfl) all_nil)) (H2_ex s (by omega) t) ?_
  rintro e a1 W1 D1 (⟨rfl, hc⟩ | ⟨rfl, hc⟩) h1 h2 h3
  · refine wpIn_seq ?_
    refine wpIn_block ?_
    refine wpIn_seq ?_
    refine run_N tys hM hS h2 (by omega) (by unfold maxLen; omega) h1 h3 (by omega) (l' := fun _ => [(0, 60), (5, s), (6, 0)]) (fun _ => all_cons (Nat.le_of_ble_eq_true rfl) (all_cons (Nat.le_of_ble_eq_true rfl) (all_cons (Nat.le_of_ble_eq_true rfl) all_nil))) (R9_ex s t) ?_
    rintro e a1 W1 D1 rfl h1 h2 h3
    refine loop3 hS (s := s) (by omega) ⟨b0, bs, t, D1, h1, h2, h3, h4⟩ fun a2 W2 hi => ?_
    obtain ⟨b0, bs, t, D, h1, h2, h3, h4⟩ := hi
    refine run_N tys hM hS h2 (by omega) (by unfold maxLen; omega) h1 h3 (by omega) (l' := fun _ => [(0, 60), (5, (s : Int) + 1)]) (fun _ => all_cons (Nat.le_of_ble_eq_true rfl) (all_cons (Nat.le_of_ble_eq_true rfl) all_nil)) (R8_ex s (by omega) t) ?_
    rintro e a1 W1 D1 rfl h1 h2 h3
    exact ⟨s + 1, ⟨by omega, b0, bs, t, D1, h1, h2, h3, h4⟩, by omega⟩
  · have es : s = 61 := by omega
    subst es
    exact hq _ _ ⟨b0, bs, t, D1, ⟨h1.size, h1.out, all_cons (h1.num (0, 60) (by simp)) all_nil⟩, h2, h3, h4⟩
end Go.Px.Try
end

/-! NdM -/
noncomputable section
namespace Go.Px.Try
open Go Go.Proofs Go.Px Go.RowKit
set_option maxRecDepth 100000
section
variable {o : Oper} {ρ : Operand → Value} {w : World}
theorem op_leq {p : Nat} {x y : Operand} (ho : o.op = .binOp .leq 3 x y p) {k l : Int} (hx : ρ x = .int .i64 k) (hy : ρ y = .int .i64 l) : (o.semAt Fence.wide.round ρ).run Try.prog w = .ok (.value (.bool (decide (k ≤ l)))) w := by
  rw [Oper.semAt_eq _ _ _ (by rw [ho]; simp)]
  simp only [execOp, ho, hx, hy, Sem.run_bind]
  rfl
theorem op_inc {p : Nat} {x : Operand} (ho : o.op = .binOp .add 3 x (.const (.int .i64 1)) p) (hc : ρ (.const (.int .i64 1)) = .int .i64 1) {k : Int} (hx : ρ x = .int .i64 k) (hk : 0 ≤ k ∧ k ≤ 1000) : (o.semAt Fence.wide.round ρ).run Try.prog w = .ok (.value (.int .i64 (k + 1))) w := by
  rw [Oper.semAt_eq _ _ _ (by rw [ho]; simp)]
  simp only [execOp, ho, hx, hc, Sem.run_bind]
  have e : IntKind.i64.wrap (k + 1) = k + 1 := by rw [IntKind.wrap_i64]; omega
  show Result.ok (Next.value (.int .i64 (IntKind.i64.wrap (k + 1)))) w = _
  rw [e]
end
def cL1 : Code := lef (rig (rig codeB))
def cB1 : Code := inn (inn (rig cL1))
/-- What is known in the first loop. -/
def Iw (w : World) (m : Nat) (a : Act) (W : World) : Prop :=
  ∃ b0 bs, Sl b0 61 101 3 [(0, 60)] a ∧ Tb w 61 37 3 b0 bs m (fun _ _ => 0) W ∧ a.defers = []
theorem ndZ : (allB (fun a => allB (fun b => Nat.ble (a + b) 60 || Nat.beq (nd a b) 0) 61) 61) = true := by decide +kernel
theorem nd_zero {a b : Nat} (ha : a < 61) (hb : b < 61) (h : 60 < a + b) : nd a b = 0 := by
  have := allB_at (allB_at ndZ a ha) b hb
  rw [Bool.or_eq_true] at this
  rcases this with h1 | h1
  · have := Nat.le_of_ble_eq_true h1; omega
  · exact Nat.eq_of_beq_eq_true h1
theorem TR.one : TR (fun _ _ => 0) 1 0 := by
  refine ⟨fun i j h => ?_, fun _ _ => by omega, fun _ _ _ => rfl⟩
  have hi : i = 0 := by omega
  have hj : j = 0 := by omega
  subst hi hj
  have := (nd_facts (a := 0) (b := 0) (by omega)).2.1
  have h0 := this.2 rfl
  rw [h0]; rfl
theorem loop1 {w : World} {a : Act} {W : World} (h : Iw w 0 a W) {n : Nat} {Q : Exit → Act → World → Prop}
    (hq : ∀ a' W', Iw w 61 a' W' → Q .normal a' W') : cL1.wpIn Fence.wide n Try.prog Q a W := by
  obtain ⟨b0, bs, h1, h2, h3⟩ := h
  show (Code.seq (Code.region 2 _ false) (.block 0 (.loop cB1))).wpIn Fence.wide n Try.prog Q a W
  refine wpIn_seq ?_
  refine wpIn_region_list ?_
  show wpListIn Fence.wide n Try.prog _ _ [_] a W
  refine ls_value (v := .int .i64 0) rfl rfl ?_
  have g := put_same a (i := 4) (Value.int .i64 0) (by rw [h1.size]; omega)
  have g0 := (put_ne a (i := 4) (j := 0) (Value.int .i64 0) (by omega)).trans (h1.num (0, 60) (by simp))
  have g3 := (put_ne a (i := 4) (j := 3) (Value.int .i64 0) (by omega)).trans h1.out
  have gz := (put_size a 4 (Value.int .i64 0)).trans h1.size
  have gd := (put_df a (some 4) (Value.int .i64 0)).trans h3
  show (Code.block 0 (.loop cB1)).wpIn Fence.wide n Try.prog Q (a.put (some 4) (.int .i64 0)) W
  generalize a.put (some 4) (.int .i64 0) = a1 at *
  refine wpIn_block ?_
  refine wpIn_loop_ix (fun (m : Nat) a W => m ≤ 61 ∧ a.tmps.getD 4 undef = .int .i64 m ∧ Iw w m a W) (fun m => 61 - m) 0 ⟨by omega, g, b0, bs, ⟨gz, g3, all_cons g0 all_nil⟩, h2, gd⟩ ?_
  clear g g0 g3 gz gd h1 h2 h3
  rintro m a W ⟨hm, h4, b0, bs, h1, h2, h3⟩
  have h0 : a.tmps.getD 0 undef = .int .i64 60 := h1.num (0, 60) (by simp)
  show (Code.seq (.seq (.region 3 _ false) (.cond (.tmp 16) .skip (.exit 0))) (.seq (.block 1 c5) (.region 4 _ false))).wpIn Fence.wide n Try.prog _ a W
  refine wpIn_seq ?_
  refine wpIn_seq ?_
  refine wpIn_region_list ?_
  show wpListIn Fence.wide n Try.prog _ _ [_, _, _] a W
  have k0 := ke_refl h1.size 14
  refine ls_value (v := .int .i64 m) rfl (by rw [← h4]; rfl) ?_
  have k1 := ke_put (v := Value.int .i64 m) k0 (i := 14) (by omega)
  have g1 := put_same a (i := 14) (Value.int .i64 m) (by rw [h1.size]; omega)
  generalize a.put (some 14) (.int .i64 m) = a1 at *
  refine ls_value (v := .int .i64 60) rfl (by rw [← h0, ← k1.get 0 (by omega)]; rfl) ?_
  have k2 := ke_put (v := Value.int .i64 60) k1 (i := 15) (by omega)
  have g2 := put_same a1 (i := 15) (Value.int .i64 60) (by rw [k1.size]; omega)
  have g2' := (put_ne a1 (i := 15) (j := 14) (Value.int .i64 60) (by omega)).trans g1
  generalize a1.put (some 15) (.int .i64 60) = a2 at *
  refine ls_value (v := .bool (decide ((m : Int) ≤ 60))) rfl (op_leq (x := .tmp 14) (y := .tmp 15) rfl g2' g2) ?_
  have k3 := ke_put (v := Value.bool (decide ((m : Int) ≤ 60))) k2 (i := 16) (by omega)
  have g3 := put_same a2 (i := 16) (Value.bool (decide ((m : Int) ≤ 60))) (by rw [k2.size]; omega)
  show (Code.cond (.tmp 16) .skip (.exit 0)).wpIn Fence.wide n Try.prog _ (a2.put (some 16) (.bool (decide ((m : Int) ≤ 60)))) W
  generalize a2.put (some 16) (.bool (decide ((m : Int) ≤ 60))) = a3 at *
  refine wpIn_cond_split g3 (fun hc => ?_) (fun hc => ?_)
  · have hc : (m : Int) ≤ 60 := of_decide_eq_true hc
    refine wpIn_skip ?_
    show (Code.seq (.block 1 c5) (.region 4 _ false)).wpIn Fence.wide n Try.prog _ a3 W
    refine wpIn_seq ?_
    refine wpIn_block ?_
    refine r5 h2 k3.size ((k3.get 3 (by omega)).trans h1.out) ((k3.get 4 (by omega)).trans h4) ((k3.get 0 (by omega)).trans h0) (by omega) fun a4 W4 bs' k4 h5 => ?_
    show (Code.region 4 _ false).wpIn Fence.wide n Try.prog _ a4 W4
    refine wpIn_region_list ?_
    show wpListIn Fence.wide n Try.prog _ _ [_, _, _] a4 W4
    refine ls_value (v := .int .i64 m) rfl (by rw [← h4, ← k3.get 4 (by omega), ← k4.get 4 (by omega)]; rfl) ?_
    have j1 := ke_put (v := Value.int .i64 m) (ke_refl k4.size 14) (i := 17) (by omega)
    have e1 := put_same a4 (i := 17) (Value.int .i64 m) (by rw [k4.size]; omega)
    generalize a4.put (some 17) (.int .i64 m) = a5 at *
    refine ls_value (v := .int .i64 (m + 1)) rfl (op_inc (x := .tmp 17) rfl rfl e1 (by omega)) ?_
    have j2 := ke_put (v := Value.int .i64 (m + 1)) j1 (i := 18) (by omega)
    have e2 := put_same a5 (i := 18) (Value.int .i64 (m + 1)) (by rw [j1.size]; omega)
    generalize a5.put (some 18) (.int .i64 (m + 1)) = a6 at *
    refine ls_value (v := .int .i64 (m + 1)) rfl (by rw [← e2]; rfl) ?_
    refine ⟨m + 1, ⟨by omega, put_same a6 _ (by rw [j2.size]; omega), b0, bs', ⟨(put_size ..).trans j2.size, ?_, all_cons ?_ all_nil⟩, ?_, ?_⟩, by omega⟩
    · rw [put_ne _ _ (by omega), j2.get 3 (by omega), k4.get 3 (by omega), k3.get 3 (by omega)]; exact h1.out
    · show (a6.put (some 4) _).tmps.getD 0 undef = _
      rw [put_ne _ _ (by omega), j2.get 0 (by omega), k4.get 0 (by omega), k3.get 0 (by omega)]; exact h0
    · have e : (fun p (q : Nat) => if p = m then (0 : Int) else 0) = fun _ _ => 0 := by funext p q; split <;> rfl
      rw [← e]; exact h5
    · rw [put_df, j2.df, k4.df, k3.df]; exact h3
  · have hc : ¬ (m : Int) ≤ 60 := of_decide_eq_false hc
    refine wpIn_exit ?_
    have em : m = 61 := by omega
    subst em
    exact hq _ _ ⟨b0, bs, ⟨k3.size, (k3.get 3 (by omega)).trans h1.out, all_cons ((k3.get 0 (by omega)).trans h0) all_nil⟩, h2, k3.df.trans h3⟩
def cFin : Code := rig (rig (rig (rig codeB)))
def tabD (t : Nat → Nat → Int) : DV := .sl false 1 61 fun i => rowD 61 (t i)
theorem tabD_imp {t t' : Nat → Nat → Int} (h : ∀ i j, i < 61 → j < 61 → t i j = t' i j) : Imp (tabD t) (tabD t') :=
  Imp.sl (fun h => by cases h) rfl fun i hi => Imp.sl (fun _ => rfl) rfl fun j hj => Imp.int (h i j hi hj)
theorem fin_ex (t : Nat → Nat → Int) : exC Try.prog T [] cFin false none 1 (stT 101 1 61 37 (tmN 61 3 [(0, 60)]) t) (finQ T [ResultVar.tmp 2] (.sl false 1 61 fun i => rowD 61 (t (0 + i)))) := by
  conv => whnf
  repeat' first | ((first | refine Ob.a ?_ | refine Sp.tt ?_ | refine Sp.ff ?_ | refine Sp.yes ?_ | refine Sp.no ?_ | refine Sp.nyes ?_ | refine Sp.nno ?_);conv=>whnf) | (refine Sp.ne (fun hc => ?_) (fun hc => ?_) <;> (conv=>whnf)) | (refine Sp.dec (fun hc => ?_) (fun hc => ?_) <;> (conv=>whnf)) | (refine Sp.ndec (fun hc => ?_) (fun hc => ?_) <;> (conv=>whnf)) | (refine Sp.mk (fun hc => ?_) (fun hc => ?_) <;> (conv=>whnf)) | (refine Nx.mk (fun ka kb kx hx hs => ?_) (fun he => ?_) <;> (conv=>whnf)) | (refine Nx.mk (fun ka kx hx hs => ?_) (fun he => ?_) <;> (conv=>whnf)) | (refine Uk.mk (fun hn => ?_) ?_ <;> (conv=>whnf)) | (refine Ap.a ?_ ?_ <;> (conv=>whnf)) | (refine Fi.a ?_;conv=>whnf) | (refine Yl.a ?_ ?_ <;> (conv=>whnf)) | (refine Ob.b ?_;conv=>whnf)
  exact ImpS.refl (DV.sl false 1 61 fun i => rowD 61 (t (0 + i)))
theorem Needs_spec : Fn Try.prog 39 [int 60] (tabD fun i j => ((nd i j : Nat) : Int)) := by
  refine ⟨Try.call39, fun S w vals hS hv => ?_⟩
  match vals, hv with
  | [u], hv =>
  have hu : u = .int .i64 60 := hv.1
  subst hu
  rw [← callsIn_wide (n := 0)]
  refine callsIn_of_wp_marks (c := codeB) Try.func39 rfl trivial ?_
  have hz : (#[Value.int .i64 60] ++ Array.replicate (101 - 1) undef).size = 101 := by simp
  have h0 : (#[Value.int .i64 60] ++ Array.replicate (101 - 1) undef).getD 0 undef = .int .i64 60 := by rfl
  show (Code.seq (.region 0 _ false) (.seq (.region 1 _ false) (.seq cL1 (.seq cL cFin)))).wpIn Fence.wide 0 Try.prog _ ⟨#[Value.int .i64 60] ++ Array.replicate (101 - 1) undef, []⟩ w
  have hd : (⟨#[Value.int .i64 60] ++ Array.replicate (101 - 1) undef, []⟩ : Act).defers = [] := rfl
  generalize ea : (⟨#[Value.int .i64 60] ++ Array.replicate (101 - 1) undef, []⟩ : Act) = a at *
  have hz : a.tmps.size = 101 := by rw [← ea]; exact hz
  have h0 : a.tmps.getD 0 undef = .int .i64 60 := by rw [← ea]; exact h0
  clear ea
  refine wpIn_seq ?_
  refine wpIn_region_list ?_
  show wpListIn Fence.wide 0 Try.prog _ _ [_] a w
  refine ls_value (v := .slice none 0 0) rfl rfl ?_
  have z1 := (put_size a 2 (Value.slice none 0 0)).trans hz
  have g1 := (put_ne a (i := 2) (j := 0) (Value.slice none 0 0) (by omega)).trans h0
  have d1 := (put_df a (some 2) (Value.slice none 0 0)).trans hd
  show (Code.seq (.region 1 _ false) (.seq cL1 (.seq cL cFin))).wpIn Fence.wide 0 Try.prog _ (a.put (some 2) (.slice none 0 0)) w
  generalize a.put (some 2) (.slice none 0 0) = a1 at *
  refine wpIn_seq ?_
  refine wpIn_region_list ?_
  show wpListIn Fence.wide 0 Try.prog _ _ [_, _, _, _] a1 w
  refine ls_value (v := .int .i64 60) rfl (by rw [← g1]; rfl) ?_
  have k1 := ke_put (v := Value.int .i64 60) (ke_refl z1 3) (i := 11) (by omega)
  have g2 := put_same a1 (i := 11) (Value.int .i64 60) (by omega)
  generalize a1.put (some 11) (.int .i64 60) = a2 at *
  refine ls_value (v := .int .i64 61) rfl (op_add1 (x := .tmp 11) rfl rfl g2) ?_
  have k2 := ke_put (v := Value.int .i64 61) k1 (i := 12) (by omega)
  have g3 := put_same a2 (i := 12) (Value.int .i64 61) (by rw [k1.size]; omega)
  generalize a2.put (some 12) (.int .i64 61) = a3 at *
  refine ls_value (v := .slice (some ⟨w.heap.size, 0, none⟩) 61 61) rfl (op_make (x := .tmp 12) (l := 61) rfl (e := 37) rfl tok37 rfl (by decide) g3 (by omega)) ?_
  have k3 := ke_put (v := Value.slice (some ⟨w.heap.size, 0, none⟩) 61 61) k2 (i := 13) (by omega)
  have g4 := put_same a3 (i := 13) (Value.slice (some ⟨w.heap.size, 0, none⟩) 61 61) (by rw [k2.size]; omega)
  generalize a3.put (some 13) (.slice (some ⟨w.heap.size, 0, none⟩) 61 61) = a4 at *
  refine ls_value (v := .slice (some ⟨w.heap.size, 0, none⟩) 61 61) rfl (by rw [← g4]; rfl) ?_
  have k4 := ke_put (v := Value.slice (some ⟨w.heap.size, 0, none⟩) 61 61) k3 (i := 3) (by omega)
  have g5 := put_same a4 (i := 3) (Value.slice (some ⟨w.heap.size, 0, none⟩) 61 61) (by rw [k3.size]; omega)
  have hT0 := Tb.init w (N := 61) (T0 := 37) (T1 := 3) (c := madeCells ti37.z.cells 61) (by simp [madeCells]) (fun _ => 0) (fun _ _ => 0)
  show (Code.seq cL1 (.seq cL cFin)).wpIn Fence.wide 0 Try.prog _ (a4.put (some 3) (.slice (some ⟨w.heap.size, 0, none⟩) 61 61)) (w.alloc (.cells (madeCells ti37.z.cells 61) 37))
  generalize a4.put (some 3) (.slice (some ⟨w.heap.size, 0, none⟩) 61 61) = a5 at *
  refine wpIn_seq ?_
  refine loop1 ⟨w.heap.size, _, ⟨k4.size, g5, all_cons ((k4.get 0 (by omega)).trans g1) all_nil⟩, hT0, k4.df.trans d1⟩ fun a6 W6 ⟨b0, bs, h1, h2, h3⟩ => ?_
  show (Code.seq cL cFin).wpIn Fence.wide 0 Try.prog _ a6 W6
  refine wpIn_seq ?_
  refine loop2 hS ⟨b0, bs, _, [], h1, h2, Df.nil w b0 bs 61 W6 h3, TR.one⟩ fun a7 W7 hi => ?_
  obtain ⟨b0, bs, t, D, h1, h2, h3, h4⟩ := hi
  show cFin.wpIn Fence.wide 0 Try.prog _ a7 W7
  have himp := tabD_imp (t := fun i => t (0 + i)) (t' := fun i j => ((nd i j : Nat) : Int)) fun i j hi hj => by
    show t (0 + i) j = _
    rw [Nat.zero_add]
    by_cases e : i + j < 61
    · exact h4.is i j (.inl e)
    · rw [h4.z i j (by omega), nd_zero hi hj (by omega)]; rfl
  have hend : ∀ (st' : St) (a' : Act) (W' : World), finS T [ResultVar.tmp 2] (.sl false 1 61 fun i => rowD 61 (t (0 + i))) st' → AfT S w 61 37 3 b0 bs t st' a' W' → LeavesInM Fence.wide 0 Try.prog Try.f39 a'.tmps (Post S w (tabD fun i j => ((nd i j : Nat) : Int))) a'.defers .returning W' := by
    rintro st' ⟨tmps, defers⟩ W' hq ha
    obtain ⟨E, hs'⟩ := ha.ex
    have hdf := hs'.df
    simp only at hdf
    subst hdf
    refine leaves_sound E.D E W' hs' rfl fun E2 W2 hs2 => ?_
    obtain ⟨v, S', h1, h2, h3, h4⟩ := fin_sound (fn := Try.f39) tys hq hs2
    have hg : Tb w 61 37 3 b0 bs 61 t W2 := hs2.g
    refine ⟨v, h1, v, S', rfl, (himp S' W2).1 v h2, fun b hb => h3 b (.inl hb), fun b hb => ?_, hg.below⟩
    rcases h4 b hb with (h5 | h5) | h5
    · exact .inl h5
    · exact .inr ⟨hg.ge h5, hg.lt h5⟩
    · exact .inr ⟨h5.1.1, h5.2⟩
  refine run_T tys hM hS h2 (Nat.le_refl _) h1.size h3 (fun i _ => h1.rep h2 (by unfold maxLen; omega) S D i) (fin_ex t) fun e st' a' W' he ha => ?_
  cases e with
  | normal => exact hend st' a' W' he ha
  | ret => exact hend st' a' W' he ha
  | exit id => exact he.elim
  | goto l => exact he.elim
  | panic ch => exact he.elim
  | outgrown => exact he.elim
end Go.Px.Try
end

/-! NdN -/
noncomputable section
namespace Go.Px.Try
open Go Go.Proofs Go.Px
set_option maxRecDepth 100000
def ndI (i j : Nat) : Int := ((nd i j : Nat) : Int)
theorem ndI_rng {i j : Nat} (h : i + j ≤ 60) : 0 ≤ ndI i j ∧ ndI i j ≤ 60 := by
  have := (nd_facts h).2.2.1
  unfold ndI; omega
theorem NeedsR_spec : Fn Try.prog 39 [int 60] (.sl false 1 61 fun i => .sl true 1 61 fun j => int (ndI i j)) := Needs_spec
theorem NeedRf_spec (a b : Int) : Fn Try.prog 34 [int a, int b] (tpl [int (needR a b).1, int (needR a b).2]) := by
  have hn := NeedsR_spec
  by_cases h : (0 ≤ a ∧ a ≤ 30) ∧ (0 ≤ b ∧ b ≤ 30)
  · have e : needR a b = (ndI a.toNat b.toNat, 0) := if_neg (by omega)
    rw [e]
    generalize ndI = N at *
    refine Fn.of_ex (cuts := []) tys hM Try.func34 rfl Try.call34 rfl ?_
    show exC Try.prog T [] _ false none 0 (entry 27 [int a, int b]) (finQ T [ResultVar.tmp 4, ResultVar.tmp 5] _)
    conv => whnf
    repeat' first | ((first | refine Ob.a ?_ | refine Sp.tt ?_ | refine Sp.ff ?_ | refine Sp.yes ?_ | refine Sp.no ?_ | refine Sp.nyes ?_ | refine Sp.nno ?_);conv=>whnf) | (refine Sp.ne (fun hc => ?_) (fun hc => ?_) <;> (conv=>whnf)) | (refine Sp.dec (fun hc => ?_) (fun hc => ?_) <;> (conv=>whnf)) | (refine Sp.ndec (fun hc => ?_) (fun hc => ?_) <;> (conv=>whnf)) | (refine Sp.mk (fun hc => ?_) (fun hc => ?_) <;> (conv=>whnf)) | (apply Cl.go;(conv=>whnf); (first | refine Ob.call (hn) ?_);(conv=>whnf)) | (refine Nx.mk (fun ka kb kx hx hs => ?_) (fun he => ?_) <;> (conv=>whnf)) | (refine Nx.mk (fun ka kx hx hs => ?_) (fun he => ?_) <;> (conv=>whnf)) | (refine Uk.mk (fun hn => ?_) ?_ <;> (conv=>whnf)) | (refine Ap.a ?_ ?_ <;> (conv=>whnf)) | (refine Fi.a ?_;conv=>whnf) | (refine Yl.a ?_ ?_ <;> (conv=>whnf)) | (refine Ob.b ?_;conv=>whnf)
    all_goals first | (exfalso; omega) | exact Lf
  · have e : needR a b = (0, 3) := if_pos (by omega)
    rw [e]
    refine Fn.of_ex (cuts := []) tys hM Try.func34 rfl Try.call34 rfl ?_
    show exC Try.prog T [] _ false none 0 (entry 27 [int a, int b]) (finQ T [ResultVar.tmp 4, ResultVar.tmp 5] _)
    conv => whnf
    repeat' first | ((first | refine Ob.a ?_ | refine Sp.tt ?_ | refine Sp.ff ?_ | refine Sp.yes ?_ | refine Sp.no ?_ | refine Sp.nyes ?_ | refine Sp.nno ?_);conv=>whnf) | (refine Sp.ne (fun hc => ?_) (fun hc => ?_) <;> (conv=>whnf)) | (refine Sp.dec (fun hc => ?_) (fun hc => ?_) <;> (conv=>whnf)) | (refine Sp.ndec (fun hc => ?_) (fun hc => ?_) <;> (conv=>whnf)) | (refine Sp.mk (fun hc => ?_) (fun hc => ?_) <;> (conv=>whnf)) | (refine Nx.mk (fun ka kb kx hx hs => ?_) (fun he => ?_) <;> (conv=>whnf)) | (refine Nx.mk (fun ka kx hx hs => ?_) (fun he => ?_) <;> (conv=>whnf)) | (refine Uk.mk (fun hn => ?_) ?_ <;> (conv=>whnf)) | (refine Ap.a ?_ ?_ <;> (conv=>whnf)) | (refine Fi.a ?_;conv=>whnf) | (refine Yl.a ?_ ?_ <;> (conv=>whnf)) | (refine Ob.b ?_;conv=>whnf)
    all_goals first | (exfalso; omega) | exact Lf
theorem TastesRf_spec (n : Int) : Fn Try.prog 36 [int n] (tpl [int (tastesR n).1, int (tastesR n).2]) := by
  have hn := NeedsR_spec
  by_cases h : 1 ≤ n ∧ n ≤ 61
  case neg =>
    have e : tastesR n = (0, 3) := if_pos (by omega)
    rw [e]
    refine Fn.of_ex (cuts := []) tys hM Try.func36 rfl Try.call36 rfl ?_
    show exC Try.prog T [] _ false none 0 (entry 36 [int n]) (finQ T [ResultVar.tmp 2, ResultVar.tmp 3] _)
    conv => whnf
    repeat' first | ((first | refine Ob.a ?_ | refine Sp.tt ?_ | refine Sp.ff ?_ | refine Sp.yes ?_ | refine Sp.no ?_ | refine Sp.nyes ?_ | refine Sp.nno ?_);conv=>whnf) | (refine Sp.ne (fun hc => ?_) (fun hc => ?_) <;> (conv=>whnf)) | (refine Sp.dec (fun hc => ?_) (fun hc => ?_) <;> (conv=>whnf)) | (refine Sp.ndec (fun hc => ?_) (fun hc => ?_) <;> (conv=>whnf)) | (refine Sp.mk (fun hc => ?_) (fun hc => ?_) <;> (conv=>whnf)) | (refine Nx.mk (fun ka kb kx hx hs => ?_) (fun he => ?_) <;> (conv=>whnf)) | (refine Nx.mk (fun ka kx hx hs => ?_) (fun he => ?_) <;> (conv=>whnf)) | (refine Uk.mk (fun hn => ?_) ?_ <;> (conv=>whnf)) | (refine Ap.a ?_ ?_ <;> (conv=>whnf)) | (refine Fi.a ?_;conv=>whnf) | (refine Yl.a ?_ ?_ <;> (conv=>whnf)) | (refine Ob.b ?_;conv=>whnf)
    all_goals first | (exfalso; omega) | exact Lf
  have e : tastesR n = (((tst n.toNat : Nat) : Int), 0) := if_neg (by omega)
  rw [e]
  by_cases h1 : n = 1
  · subst h1
    have e1 : ((tst (Int.toNat 1) : Nat) : Int) = 0 := rfl
    rw [e1]
    refine Fn.of_ex (cuts := []) tys hM Try.func36 rfl Try.call36 rfl ?_
    show exC Try.prog T [] _ false none 0 (entry 36 [int 1]) (finQ T [ResultVar.tmp 2, ResultVar.tmp 3] _)
    conv => whnf
    repeat' first | ((first | refine Ob.a ?_ | refine Sp.tt ?_ | refine Sp.ff ?_ | refine Sp.yes ?_ | refine Sp.no ?_ | refine Sp.nyes ?_ | refine Sp.nno ?_);conv=>whnf) | (refine Sp.ne (fun hc => ?_) (fun hc => ?_) <;> (conv=>whnf)) | (refine Sp.dec (fun hc => ?_) (fun hc => ?_) <;> (conv=>whnf)) | (refine Sp.ndec (fun hc => ?_) (fun hc => ?_) <;> (conv=>whnf)) | (refine Sp.mk (fun hc => ?_) (fun hc => ?_) <;> (conv=>whnf)) | (refine Nx.mk (fun ka kb kx hx hs => ?_) (fun he => ?_) <;> (conv=>whnf)) | (refine Nx.mk (fun ka kx hx hs => ?_) (fun he => ?_) <;> (conv=>whnf)) | (refine Uk.mk (fun hn => ?_) ?_ <;> (conv=>whnf)) | (refine Ap.a ?_ ?_ <;> (conv=>whnf)) | (refine Fi.a ?_;conv=>whnf) | (refine Yl.a ?_ ?_ <;> (conv=>whnf)) | (refine Ob.b ?_;conv=>whnf)
    all_goals first | (exfalso; omega) | exact Lf
  obtain ⟨F, hFd⟩ : ∃ F : Int → Int, ∀ k, F k = ((tsTo n.toNat k.toNat : Nat) : Int) := ⟨fun k => ((tsTo n.toNat k.toNat : Nat) : Int), fun _ => rfl⟩
  have e2 : ((tst n.toNat : Nat) : Int) = F n := by
    rw [show tst n.toNat = tsTo n.toNat n.toNat from if_neg (by omega), hFd]
  have hF : ∀ k : Int, 0 ≤ k → k < n → F (k + 1) = min (F k) (1 + ndI k.toNat (n - 1 - k).toNat) := fun k k0 k1 => by
    rw [hFd, hFd, show (k + 1).toNat = k.toNat + 1 by omega, show (n - 1 - k).toNat = n.toNat - 1 - k.toNat by omega]
    show ((min (tsTo n.toNat k.toNat) (1 + nd k.toNat (n.toNat - 1 - k.toNat)) : Nat) : Int) = _
    unfold ndI; omega
  have hF0 : F 0 = n := by rw [hFd]; show ((n.toNat : Nat) : Int) = n; omega
  have hFr : ∀ k : Int, 0 ≤ F k ∧ F k ≤ n := fun k => by have := (tsTo_spec n.toNat k.toNat).1; rw [hFd]; omega
  have hNr : ∀ k : Int, 0 ≤ k → k < n → 0 ≤ ndI k.toNat (n - 1 - k).toNat ∧ ndI k.toNat (n - 1 - k).toNat ≤ 60 := fun k k0 k1 => ndI_rng (by omega)
  rw [e2]
  clear e e2 hFd
  generalize ndI = N at *
  refine Fn.of_ex (cuts := []) tys hM Try.func36 rfl Try.call36 rfl ?_
  show exC Try.prog T [] _ false none 0 (entry 36 [int n]) (finQ T [ResultVar.tmp 2, ResultVar.tmp 3] _)
  conv => whnf
  repeat' first | ((first | refine Ob.a ?_ | refine Sp.tt ?_ | refine Sp.ff ?_ | refine Sp.yes ?_ | refine Sp.no ?_ | refine Sp.nyes ?_ | refine Sp.nno ?_);conv=>whnf) | (refine Sp.ne (fun hc => ?_) (fun hc => ?_) <;> (conv=>whnf)) | (refine Sp.dec (fun hc => ?_) (fun hc => ?_) <;> (conv=>whnf)) | (refine Sp.ndec (fun hc => ?_) (fun hc => ?_) <;> (conv=>whnf)) | (refine Sp.mk (fun hc => ?_) (fun hc => ?_) <;> (conv=>whnf)) | (apply Cl.go;(conv=>whnf); (first | refine Ob.call (hn) ?_);(conv=>whnf)) | (refine Nx.mk (fun ka kb kx hx hs => ?_) (fun he => ?_) <;> (conv=>whnf)) | (refine Nx.mk (fun ka kx hx hs => ?_) (fun he => ?_) <;> (conv=>whnf)) | (refine Uk.mk (fun hn => ?_) ?_ <;> (conv=>whnf)) | (refine Ap.a ?_ ?_ <;> (conv=>whnf)) | (refine Fi.a ?_;conv=>whnf) | (refine Yl.a ?_ ?_ <;> (conv=>whnf)) | (refine Ob.b ?_;conv=>whnf)
  all_goals try (exfalso; omega)
  refine Lp.snap [0, 2, 3, 4, 35] 100 ?_
  (conv=>whnf)
  refine LpB.go 36 ({k : Int // 0 ≤ k ∧ k ≤ n}) 0 (fun ⟨k, _⟩ nx => ([(5, .d (int (F k))), (6, .d (int k))], [])) (fun p => (n - p.1).toNat) (⟨0, by omega, by omega⟩) ?_ ?_
  · rintro ⟨k, k0, k1⟩
    by_cases hk : k < n
    · have e := (hF k k0 hk).symm
      have r1 := hFr k
      have r2 := hNr k k0 hk
      conv => whnf
      repeat' first | ((first | refine Ob.a ?_ | refine Sp.tt ?_ | refine Sp.ff ?_ | refine Sp.yes ?_ | refine Sp.no ?_ | refine Sp.nyes ?_ | refine Sp.nno ?_);conv=>whnf) | (refine Sp.ne (fun hc => ?_) (fun hc => ?_) <;> (conv=>whnf)) | (refine Sp.dec (fun hc => ?_) (fun hc => ?_) <;> (conv=>whnf)) | (refine Sp.ndec (fun hc => ?_) (fun hc => ?_) <;> (conv=>whnf)) | (refine Sp.mk (fun hc => ?_) (fun hc => ?_) <;> (conv=>whnf)) | (refine Nx.mk (fun ka kb kx hx hs => ?_) (fun he => ?_) <;> (conv=>whnf)) | (refine Nx.mk (fun ka kx hx hs => ?_) (fun he => ?_) <;> (conv=>whnf)) | (refine Uk.mk (fun hn => ?_) ?_ <;> (conv=>whnf)) | (refine Ap.a ?_ ?_ <;> (conv=>whnf)) | (refine Fi.a ?_;conv=>whnf) | (refine Yl.a ?_ ?_ <;> (conv=>whnf)) | (refine Ob.b ?_;conv=>whnf)
      all_goals first | (exfalso; omega) | exact ⟨rfl, ⟨k + 1, by omega, by omega⟩, Lf, by simp only; omega⟩
    · have ek : k = n := by omega
      conv => whnf
      repeat' first | ((first | refine Ob.a ?_ | refine Sp.tt ?_ | refine Sp.ff ?_ | refine Sp.yes ?_ | refine Sp.no ?_ | refine Sp.nyes ?_ | refine Sp.nno ?_);conv=>whnf) | (refine Sp.ne (fun hc => ?_) (fun hc => ?_) <;> (conv=>whnf)) | (refine Sp.dec (fun hc => ?_) (fun hc => ?_) <;> (conv=>whnf)) | (refine Sp.ndec (fun hc => ?_) (fun hc => ?_) <;> (conv=>whnf)) | (refine Sp.mk (fun hc => ?_) (fun hc => ?_) <;> (conv=>whnf)) | (refine Nx.mk (fun ka kb kx hx hs => ?_) (fun he => ?_) <;> (conv=>whnf)) | (refine Nx.mk (fun ka kx hx hs => ?_) (fun he => ?_) <;> (conv=>whnf)) | (refine Uk.mk (fun hn => ?_) ?_ <;> (conv=>whnf)) | (refine Ap.a ?_ ?_ <;> (conv=>whnf)) | (refine Fi.a ?_;conv=>whnf) | (refine Yl.a ?_ ?_ <;> (conv=>whnf)) | (refine Ob.b ?_;conv=>whnf)
      all_goals first | (exfalso; omega) | (subst ek; exact Lf)
  · have e := hF0.symm
    all_goals first | exact Lf
end Go.Px.Try
end

/-! LwNeeds -/
noncomputable section
namespace Go.Px.Try
open Go Go.Proofs Go.Px
set_option maxRecDepth 100000
theorem BiteNeeds_bad (l r p : Int) (h : l < 0 ∨ 30 < l ∨ r < 0 ∨ 30 < r) : Fn Try.prog 6 [int l, int r, int p] (bool true) := by
  have hw := Works_spec
  have n1 := NeedP_spec l r
  have n2 := NeedRf_spec l r
  have t1 := TastesP_spec p
  have t2 := TastesRf_spec p
  have x := NextP_bad l r h
  have f := NextError_spec l r
  rw [show nextErr l r = 3 from if_pos h] at f
  generalize needR l r = u at *
  generalize tastesR p = v at *
  refine Fn.of_ex (cuts := []) tys hM Try.func6 rfl Try.call6 rfl ?_
  show exC Try.prog T [] _ false none 0 (entry 146 [int l, int r, int p]) (finQ T [ResultVar.tmp 6] _)
  conv => whnf
  repeat' first | ((first | refine Ob.a ?_ | refine Sp.tt ?_ | refine Sp.ff ?_ | refine Sp.yes ?_ | refine Sp.no ?_ | refine Sp.nyes ?_ | refine Sp.nno ?_);conv=>whnf) | (refine Sp.ne (fun hc => ?_) (fun hc => ?_) <;> (conv=>whnf)) | (refine Sp.dec (fun hc => ?_) (fun hc => ?_) <;> (conv=>whnf)) | (refine Sp.ndec (fun hc => ?_) (fun hc => ?_) <;> (conv=>whnf)) | (refine Sp.mk (fun hc => ?_) (fun hc => ?_) <;> (conv=>whnf)) | (apply Cl.go;(conv=>whnf); (first | refine Ob.call (hw) ?_ | refine Ob.call (n1) ?_ | refine Ob.call (n2) ?_ | refine Ob.call (t1) ?_ | refine Ob.call (t2) ?_ | refine Ob.call (x) ?_ | refine Ob.call (f) ?_);(conv=>whnf)) | (refine Ap.a ?_ ?_ <;> (conv=>whnf)) | (refine Fi.a ?_;conv=>whnf) | (refine Ob.b ?_;conv=>whnf)
  all_goals first | (exfalso; omega) | exact Lf
theorem BiteNeeds_none (p : Int) : Fn Try.prog 6 [int 0, int 0, int p] (bool true) := by
  have hw := Works_spec
  have n1 := NeedP_spec 0 0
  have n2 := NeedRf_spec 0 0
  have t1 := TastesP_spec p
  have t2 := TastesRf_spec p
  have x := NextP_none
  have f := NextError_spec 0 0
  rw [show nextErr 0 0 = 5 from rfl] at f
  generalize needR 0 0 = u at *
  generalize tastesR p = v at *
  refine Fn.of_ex (cuts := []) tys hM Try.func6 rfl Try.call6 rfl ?_
  show exC Try.prog T [] _ false none 0 (entry 146 [int 0, int 0, int p]) (finQ T [ResultVar.tmp 6] _)
  conv => whnf
  repeat' first | ((first | refine Ob.a ?_ | refine Sp.tt ?_ | refine Sp.ff ?_ | refine Sp.yes ?_ | refine Sp.no ?_ | refine Sp.nyes ?_ | refine Sp.nno ?_);conv=>whnf) | (refine Sp.ne (fun hc => ?_) (fun hc => ?_) <;> (conv=>whnf)) | (refine Sp.dec (fun hc => ?_) (fun hc => ?_) <;> (conv=>whnf)) | (refine Sp.ndec (fun hc => ?_) (fun hc => ?_) <;> (conv=>whnf)) | (refine Sp.mk (fun hc => ?_) (fun hc => ?_) <;> (conv=>whnf)) | (apply Cl.go;(conv=>whnf); (first | refine Ob.call (hw) ?_ | refine Ob.call (n1) ?_ | refine Ob.call (n2) ?_ | refine Ob.call (t1) ?_ | refine Ob.call (t2) ?_ | refine Ob.call (x) ?_ | refine Ob.call (f) ?_);(conv=>whnf)) | (refine Ap.a ?_ ?_ <;> (conv=>whnf)) | (refine Fi.a ?_;conv=>whnf) | (refine Ob.b ?_;conv=>whnf)
  all_goals first | (exfalso; omega) | exact Lf
theorem BiteNeeds_ok (l r p : Int) (hl : 0 ≤ l ∧ l ≤ 30) (hr : 0 ≤ r ∧ r ≤ 30) (h0 : 0 < l + r) : Fn Try.prog 6 [int l, int r, int p] (bool true) := by
  have hw := Works_spec
  have n1 := NeedP_spec l r
  have n2 := NeedRf_spec l r
  have t1 := TastesP_spec p
  have t2 := TastesRf_spec p
  obtain ⟨d, ⟨d0, d1, d2, d3⟩, x⟩ := NextP_spec l r hl hr h0
  have f := NextError_spec l r
  rw [show nextErr l r = 0 by unfold nextErr; rw [if_neg (by omega), if_neg (by omega)]] at f
  have hn := NeedsR_spec
  rw [show needR l r = (ndI l.toNat r.toNat, 0) from if_neg (by omega)] at n1 n2
  have d3 : (d < 0 → max (ndI (l + d).toNat (0 - d - 1).toNat) (ndI (0 - d - 1).toNat r.toNat) < ndI l.toNat r.toNat) ∧ (0 < d → max (ndI (d - 1).toNat (r - d).toNat) (ndI l.toNat (d - 1).toNat) < ndI l.toNat r.toNat) := by
    unfold afK at d3
    unfold ndI
    refine ⟨fun h => ?_, fun h => ?_⟩
    · rw [if_pos (by omega)] at d3
      unfold afL at d3
      rw [show l.toNat - (l.toNat - (d + l).toNat - 1 + 1) = (l + d).toNat by omega, show l.toNat - (d + l).toNat - 1 = (0 - d - 1).toNat by omega] at d3
      omega
    · rw [if_neg (by omega)] at d3
      unfold afR at d3
      rw [show r.toNat - ((d + l).toNat - l.toNat - 1 + 1) = (r - d).toNat by omega, show (d + l).toNat - l.toNat - 1 = (d - 1).toNat by omega] at d3
      omega
  generalize tastesR p = v at *
  generalize ndI = N at *
  by_cases hd : d < 0
  · have d3 := d3.1 hd
    refine Fn.of_ex (cuts := []) tys hM Try.func6 rfl Try.call6 rfl ?_
    show exC Try.prog T [] _ false none 0 (entry 146 [int l, int r, int p]) (finQ T [ResultVar.tmp 6] _)
    conv => whnf
    repeat' first | ((first | refine Ob.a ?_ | refine Sp.tt ?_ | refine Sp.ff ?_ | refine Sp.yes ?_ | refine Sp.no ?_ | refine Sp.nyes ?_ | refine Sp.nno ?_);conv=>whnf) | (refine Sp.ne (fun hc => ?_) (fun hc => ?_) <;> (conv=>whnf)) | (refine Sp.dec (fun hc => ?_) (fun hc => ?_) <;> (conv=>whnf)) | (refine Sp.ndec (fun hc => ?_) (fun hc => ?_) <;> (conv=>whnf)) | (refine Sp.mk (fun hc => ?_) (fun hc => ?_) <;> (conv=>whnf)) | (apply Cl.go;(conv=>whnf); (first | refine Ob.call (hw) ?_ | refine Ob.call (n1) ?_ | refine Ob.call (n2) ?_ | refine Ob.call (t1) ?_ | refine Ob.call (t2) ?_ | refine Ob.call (x) ?_ | refine Ob.call (f) ?_ | refine Ob.call (hn) ?_);(conv=>whnf)) | (refine Ap.a ?_ ?_ <;> (conv=>whnf)) | (refine Fi.a ?_;conv=>whnf) | (refine Ob.b ?_;conv=>whnf)
    all_goals first | (exfalso; omega) | exact Lf
  · have d3 := d3.2 (by omega)
    refine Fn.of_ex (cuts := []) tys hM Try.func6 rfl Try.call6 rfl ?_
    show exC Try.prog T [] _ false none 0 (entry 146 [int l, int r, int p]) (finQ T [ResultVar.tmp 6] _)
    conv => whnf
    repeat' first | ((first | refine Ob.a ?_ | refine Sp.tt ?_ | refine Sp.ff ?_ | refine Sp.yes ?_ | refine Sp.no ?_ | refine Sp.nyes ?_ | refine Sp.nno ?_);conv=>whnf) | (refine Sp.ne (fun hc => ?_) (fun hc => ?_) <;> (conv=>whnf)) | (refine Sp.dec (fun hc => ?_) (fun hc => ?_) <;> (conv=>whnf)) | (refine Sp.ndec (fun hc => ?_) (fun hc => ?_) <;> (conv=>whnf)) | (refine Sp.mk (fun hc => ?_) (fun hc => ?_) <;> (conv=>whnf)) | (apply Cl.go;(conv=>whnf); (first | refine Ob.call (hw) ?_ | refine Ob.call (n1) ?_ | refine Ob.call (n2) ?_ | refine Ob.call (t1) ?_ | refine Ob.call (t2) ?_ | refine Ob.call (x) ?_ | refine Ob.call (f) ?_ | refine Ob.call (hn) ?_);(conv=>whnf)) | (refine Ap.a ?_ ?_ <;> (conv=>whnf)) | (refine Fi.a ?_;conv=>whnf) | (refine Ob.b ?_;conv=>whnf)
    all_goals first | (exfalso; omega) | exact Lf
theorem BiteNeeds_spec (l r p : Int) : Fn Try.prog 6 [int l, int r, int p] (bool true) := by
  by_cases h : l < 0 ∨ 30 < l ∨ r < 0 ∨ 30 < r
  · exact BiteNeeds_bad l r p h
  by_cases h0 : l + r = 0
  · have e1 : l = 0 := by omega
    have e2 : r = 0 := by omega
    subst e1 e2
    exact BiteNeeds_none p
  exact BiteNeeds_ok l r p (by omega) (by omega) (by omega)
end Go.Px.Try
end

namespace Go.Proofs.Ytofcdpkanjiefaa.biteNeedsDone
open Go.ChangeShapes Go.WideShapes Go.ChangeAt Go.RowKit
open Go.Px
open Go.Px.Try (own laidOut)
set_option maxRecDepth 100000 in
theorem lifted (os : Os) (started : os.Started) (H : Type) (enc : TypeId × Value → H) :
    ReturnsInHanded {} Try.checked os 6 .any (Rows.biteNeedsSpec.pre6 enc Try.prog Try.f6 Rows.biteNeedsRow.domain false) (Rows.biteNeedsSpec.post enc Try.prog Try.f6 false true false false) := by
  refine returnsInHanded_of_change (C := Try.checked) own started (by kernel_rfl) Try.func6
    (ChangeSpec.witness6 (enc := enc) (C := Try.checked) false ⟨#[], #[.int .i64 0, .int .i64 0, .int .i64 0], []⟩ 8 (by kernel_rfl) (by kernel_rfl) (by kernel_rfl) (by kernel_rfl)) ?_
  intro W base args ds gs before hval0 hW hcnd _
  have hval : ∀ (j : Nat) t v, Try.f6.params[j]? = some t → args[j]? = some v → Value.okWide Try.prog W .any base t v := hval0
  have hW' := hW
  obtain ⟨p, q, hA0, hV, rfl, hfz, hnd⟩ := hW
  have hA : DataW.TrodAll enc Try.prog W 0 (fun _ => true) true Try.f6.params.toList args.toList ds p := hA0
  rw [Try.params6] at hA hval
  obtain ⟨v0, vs0, d0, ds0, p0, q0, hargs, rfl, rfl, h0, r0⟩ := trodAll_cons hA
  obtain ⟨v1, vs1, d1, ds1, p1, q1, rfl, rfl, rfl, h1, r1⟩ := trodAll_cons r0
  obtain ⟨v2, vs2, d2, ds2, p2, q2, rfl, rfl, rfl, h2, r2⟩ := trodAll_cons r1
  obtain ⟨rfl, rfl, rfl⟩ := trodAll_nil r2
  obtain rfl : args = #[v0, v1, v2] := by cases args; simp_all
  obtain ⟨rfl, rfl⟩ := trodVars_none hV
  have lt0 : ∀ x ∈ p0, x.block < W.heap.size := by have k := h0; obtain ⟨m, hm⟩ := k; exact DataW.trod_lt m _ _ _ hm
  obtain ⟨x0, g0, e0⟩ := Go.Px.Try.int_arg h0 (hval 0 3 v0 rfl rfl)
  have lt1 : ∀ x ∈ p1, x.block < W.heap.size := by have k := h1; obtain ⟨m, hm⟩ := k; exact DataW.trod_lt m _ _ _ hm
  obtain ⟨x1, g1, e1⟩ := Go.Px.Try.int_arg h1 (hval 1 3 v1 rfl rfl)
  have lt2 : ∀ x ∈ p2, x.block < W.heap.size := by have k := h2; obtain ⟨m, hm⟩ := k; exact DataW.trod_lt m _ _ _ hm
  obtain ⟨x2, g2, e2⟩ := Go.Px.Try.int_arg h2 (hval 2 3 v2 rfl rfl)
  clear hA0 hval0
  refine ((Go.Px.Try.BiteNeeds_spec x0 x1 x2).2 (All W) W [v0, v1, v2] (fun _ h => h) ⟨e0, e1, e2, trivial⟩).mono fun e W' ⟨v, S', he, hr, _, _, bel⟩ => ?_
  obtain rfl : v = .bool true := hr
  subst he
  exact ⟨_, rfl, _, _, _, [], _, [], hW', trodAll_mk1 (shut_bool Try.underlying4 _), (trodAll_cons_mk (Below.trod laidOut (by kernel_rfl) (of_decide_eq_true (by kernel_rfl)) h0 bel lt0) (trodAll_cons_mk (Below.trod laidOut (by kernel_rfl) (of_decide_eq_true (by kernel_rfl)) h1 bel lt1) (trodAll_cons_mk (Below.trod laidOut (by kernel_rfl) (of_decide_eq_true (by kernel_rfl)) h2 bel lt2) trodAll_mk0))), rfl, bel.frame _, fun h => by cases h⟩
theorem over : Rows.biteNeedsRow.holds Try.pinned (OpenSpec.ofChange Rows.biteNeedsSpec) :=
  OpenClaim.holds_of_wide 6 Try.f6 rfl rfl rfl rfl rfl rfl rfl ⟨rfl, rfl, rfl, rfl, rfl⟩ rfl rfl rfl rfl rfl (by kernel_rfl) Try.func6 (by kernel_rfl)
    (of_decide_eq_true (by kernel_rfl)) (by unfold Func.isWrapper; first | (rw [if_pos (by decide +kernel)]; kernel_rfl) | (rw [if_neg (by decide +kernel)]; exact ⟨rfl, rfl⟩))
    (fun os started H enc _ => lifted os started H enc)
theorem proved : Rows.BiteNeedsSaid := over
#print axioms proved
end Go.Proofs.Ytofcdpkanjiefaa.biteNeedsDone
