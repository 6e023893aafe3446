/- The statement StoneProved: no given plan that is always safe grinds more than a given right table proves, nor than Most says, which the best plan grinds, and the table that is returned proves; no given plan that grinds as much comes before the best one. Conditions: none. -/
import Derived.Test.YtbodonldkndgjaaJ6
import Derived.Test.YtbodonldkndgjaaRows
set_option linter.unusedVariables false
set_option linter.unusedSimpArgs false
/-! Law3 -/
namespace Go.Px.Try
open Go Go.Proofs Go.Px

theorem fine_spec (m : Mill) : Fn Try.prog 39 [millD m] (bool (decide (m.hours.length ≤ 16 ∧ checkMill m = 0))) := by
  refine Fn.hide (D := fun r : Bool => bool r) fun r hr => ?_
  have hg := great_spec m
  by_cases h1 : 16 < (m.hours.length : Int)
  · have e : r = false := by rw [← hr.h]; exact decide_eq_false fun h => by omega
    rw [decide_eq_true h1] at hg
    rw [e]
    refine Fn.of_ex (cuts := []) tys hM Try.func39 rfl Try.call39 rfl ?_
    show exC Try.prog T [] _ false none 0 (entry 11 [millD m]) (finQ T [ResultVar.tmp 2] _)
    conv => whnf
    repeat' first
      | (refine Ob.a ?_; conv => whnf)
      | (refine Sp.tt ?_; conv => whnf)
      | (refine Sp.ff ?_; conv => whnf)
      | (refine Sp.yes ?_; conv => whnf)
      | (refine Sp.no ?_; conv => whnf)
      | (refine Sp.nyes ?_; conv => whnf)
      | (refine Sp.nno ?_; conv => whnf)
      | (refine Sp.ne (fun hc => ?_) (fun hc => ?_) <;> (conv => whnf))
      | (refine Sp.dec (fun hc => ?_) (fun hc => ?_) <;> (conv => whnf))
      | (refine Sp.ndec (fun hc => ?_) (fun hc => ?_) <;> (conv => whnf))
      | (refine Sp.mk (fun hc => ?_) (fun hc => ?_) <;> (conv => whnf))
      | (apply Cl.go; (conv => whnf); (first | refine Ob.call (hg) ?_); (conv => whnf))
      | (refine Nx.mk (fun ka kb kx hx hs => ?_) (fun he => ?_) <;> (conv => whnf))
      | (refine Nx.mk (fun ka kx hx hs => ?_) (fun he => ?_) <;> (conv => whnf))
      | (refine Uk.mk (fun hn => ?_) ?_ <;> (conv => whnf))
      | (refine Fi.a ?_; conv => whnf)
      | (refine Yl.a ?_ ?_ <;> (conv => whnf))
      | (refine Ob.b ?_; conv => whnf)
    all_goals exact Lf
  have hc := CheckMill_spec m (by omega)
  have e : r = decide (checkMill m = 0) := by rw [← hr.h]; exact decide_eq_decide.2 ⟨fun h => h.2, fun h => ⟨by omega, h⟩⟩
  rw [decide_eq_false h1] at hg
  rw [e]
  generalize checkMill m = c at *
  refine Fn.of_ex (cuts := []) tys hM Try.func39 rfl Try.call39 rfl ?_
  show exC Try.prog T [] _ false none 0 (entry 11 [millD m]) (finQ T [ResultVar.tmp 2] _)
  conv => whnf
  repeat' first
    | (refine Ob.a ?_; conv => whnf)
    | (refine Sp.tt ?_; conv => whnf)
    | (refine Sp.ff ?_; conv => whnf)
    | (refine Sp.yes ?_; conv => whnf)
    | (refine Sp.no ?_; conv => whnf)
    | (refine Sp.nyes ?_; conv => whnf)
    | (refine Sp.nno ?_; conv => whnf)
    | (refine Sp.ne (fun hc => ?_) (fun hc => ?_) <;> (conv => whnf))
    | (refine Sp.dec (fun hc => ?_) (fun hc => ?_) <;> (conv => whnf))
    | (refine Sp.ndec (fun hc => ?_) (fun hc => ?_) <;> (conv => whnf))
    | (refine Sp.mk (fun hc => ?_) (fun hc => ?_) <;> (conv => whnf))
    | (apply Cl.go; (conv => whnf); (first | refine Ob.call (hg) ?_ | refine Ob.call (hc) ?_); (conv => whnf))
    | (refine Nx.mk (fun ka kb kx hx hs => ?_) (fun he => ?_) <;> (conv => whnf))
    | (refine Nx.mk (fun ka kx hx hs => ?_) (fun he => ?_) <;> (conv => whnf))
    | (refine Uk.mk (fun hn => ?_) ?_ <;> (conv => whnf))
    | (refine Fi.a ?_; conv => whnf)
    | (refine Yl.a ?_ ?_ <;> (conv => whnf))
    | (refine Ob.b ?_; conv => whnf)
  all_goals exact Lf

theorem safe_spec (m : Mill) (plan : List Int) (hl : m.hours.length < 1000000) (hp : plan.length < 1000000) : Fn Try.prog 43 [millD m, ints plan] (bool (decide ((safeR m plan).2 = 0 ∧ (safeR m plan).1 = 2))) := by
  have a5 := SafePr_spec m plan hl hp
  generalize safeR m plan = r at *
  have e1 : r.2 = 0 → decide (r.2 = 0 ∧ r.1 = 2) = decide (r.1 = 2) := fun h => decide_eq_decide.2 ⟨fun a => a.2, fun a => ⟨h, a⟩⟩
  have e2 : ¬ r.2 = 0 → decide (r.2 = 0 ∧ r.1 = 2) = false := fun h => decide_eq_false fun a => h a.1
  generalize decide (r.2 = 0 ∧ r.1 = 2) = b at *
  refine Fn.of_ex (cuts := []) tys hM Try.func43 rfl Try.call43 rfl ?_
  show exC Try.prog T [] _ false none 0 (entry 19 [millD m, ints plan]) (finQ T [ResultVar.tmp 4] _)
  conv => whnf
  repeat' first
    | (refine Ob.a ?_; conv => whnf)
    | (refine Sp.tt ?_; conv => whnf)
    | (refine Sp.ff ?_; conv => whnf)
    | (refine Sp.yes ?_; conv => whnf)
    | (refine Sp.no ?_; conv => whnf)
    | (refine Sp.nyes ?_; conv => whnf)
    | (refine Sp.nno ?_; conv => whnf)
    | (refine Sp.ne (fun hc => ?_) (fun hc => ?_) <;> (conv => whnf))
    | (refine Sp.dec (fun hc => ?_) (fun hc => ?_) <;> (conv => whnf))
    | (refine Sp.ndec (fun hc => ?_) (fun hc => ?_) <;> (conv => whnf))
    | (refine Sp.mk (fun hc => ?_) (fun hc => ?_) <;> (conv => whnf))
    | (apply Cl.go; (conv => whnf); (first | refine Ob.call (a5) ?_); (conv => whnf))
    | (refine Nx.mk (fun ka kb kx hx hs => ?_) (fun he => ?_) <;> (conv => whnf))
    | (refine Nx.mk (fun ka kx hx hs => ?_) (fun he => ?_) <;> (conv => whnf))
    | (refine Uk.mk (fun hn => ?_) ?_ <;> (conv => whnf))
    | (refine Fi.a ?_; conv => whnf)
    | (refine Yl.a ?_ ?_ <;> (conv => whnf))
    | (refine Ob.b ?_; conv => whnf)
  all_goals exact Lf

def u16 (n : Nat) : DV := .v (.int .u16 n)
def u8 (n : Nat) : DV := .v (.int .u8 n)
theorem band16 (b k : Nat) : band .u16 ((b : Int) / 2 ^ k) 1 = ((b / 2 ^ k % 2 : Nat) : Int) := by
  have e : ((b : Int) / 2 ^ k) = ((b / 2 ^ k : Nat) : Int) := by simp
  rw [e]
  generalize b / 2 ^ k = c
  unfold band
  have h : (BitVec.ofInt IntKind.u16.bits (c : Int) &&& BitVec.ofInt IntKind.u16.bits 1).toNat = c % 2 := by
    have e1 : BitVec.ofInt IntKind.u16.bits (c : Int) = BitVec.ofNat 16 c := BitVec.ofInt_natCast 16 c
    have e2 : BitVec.ofInt IntKind.u16.bits 1 = BitVec.ofNat 16 1 := rfl
    rw [e1, e2]
    show (BitVec.ofNat 16 c &&& BitVec.ofNat 16 1).toNat = _
    rw [BitVec.toNat_and, BitVec.toNat_ofNat, BitVec.toNat_ofNat, show 1 % 2 ^ 16 = 1 from rfl, Nat.and_one_is_mod, Nat.mod_mod_of_dvd]
    decide
  rw [h, wrap_in]
  simp only [inR]
  omega

/-- The plan that bits say, the first hour by the least bit. -/
def anyGo (b : Nat) : Nat → List Int
  | 0 => []
  | k + 1 => anyGo b k ++ [((b / 2 ^ k % 2 : Nat) : Int)]
theorem anyGo_length (b : Nat) : ∀ k, (anyGo b k).length = k
  | 0 => rfl
  | k + 1 => by simp [anyGo, anyGo_length b k]
def anyP (m : Mill) (b : Nat) : List Int := anyGo b m.hours.length

set_option maxHeartbeats 4000000 in
theorem Any_spec (m : Mill) (b : Nat) (hm : m.hours.length ≤ 16) : Fn Try.prog 54 [millD m, u16 b] (ints (anyP m b)) := by
  refine Fn.of_ex (cuts := []) tys hM Try.func54 rfl Try.call54 rfl ?_
  show exC Try.prog T [] _ false none 0 (entry 23 [millD m, u16 b]) (finQ T [ResultVar.tmp 4] _)
  conv => whnf
  repeat' first
    | (refine Ob.a ?_; conv => whnf)
    | (refine Sp.tt ?_; conv => whnf)
    | (refine Sp.ff ?_; conv => whnf)
    | (refine Sp.yes ?_; conv => whnf)
    | (refine Sp.no ?_; conv => whnf)
    | (refine Sp.nyes ?_; conv => whnf)
    | (refine Sp.nno ?_; conv => whnf)
    | (refine Sp.ne (fun hc => ?_) (fun hc => ?_) <;> (conv => whnf))
    | (refine Sp.dec (fun hc => ?_) (fun hc => ?_) <;> (conv => whnf))
    | (refine Sp.ndec (fun hc => ?_) (fun hc => ?_) <;> (conv => whnf))
    | (refine Sp.mk (fun hc => ?_) (fun hc => ?_) <;> (conv => whnf))
    | (refine Nx.mk (fun ka kb kx hx hs => ?_) (fun he => ?_) <;> (conv => whnf))
    | (refine Nx.mk (fun ka kx hx hs => ?_) (fun he => ?_) <;> (conv => whnf))
    | (refine Uk.mk (fun hn => ?_) ?_ <;> (conv => whnf))
    | (refine Fi.a ?_; conv => whnf)
    | (refine Yl.a ?_ ?_ <;> (conv => whnf))
    | (refine Ob.b ?_; conv => whnf)
  refine Lp.snap [0, 1, 2, 4, 22] 40 ?_
  (conv => whnf)
  refine LpB.go 23 ({p : Int × List Int // (0 ≤ p.1 ∧ p.1 ≤ m.hours.length) ∧ p.2 = anyGo b p.1.toNat}) 0 (fun ⟨(i, o), _⟩ nx => ([(6, .d (int i)), (5, .ms 2 1 0 o.length)], [(2, .row true 3 1 o.length (rowOf int 0 o))])) (fun p => (m.hours.length - p.1.1).toNat) (⟨(0, []), ⟨by simp, by simp⟩, rfl⟩) ?_ ?_
  · rintro ⟨⟨i, o⟩, ⟨hi0, hi⟩, ho⟩
    simp only at hi0 hi ho
    have hol : o.length = i.toNat := by rw [ho, anyGo_length]
    have hb := band16 b i.toNat
    have hs : o ++ [((b / 2 ^ i.toNat % 2 : Nat) : Int)] = anyGo b (i + 1).toNat := by rw [ho, show (i + 1).toNat = i.toNat + 1 by omega]; rfl
    have he : ¬ i < m.hours.length → o = anyP m b := fun h => by rw [ho, anyP, show i.toNat = m.hours.length by omega]
    have hi16 : i < m.hours.length → i < 64 := fun h => by omega
    conv => whnf
    repeat' first
      | (refine Ob.a ?_; conv => whnf)
      | (refine Sp.tt ?_; conv => whnf)
      | (refine Sp.ff ?_; conv => whnf)
      | (refine Sp.yes ?_; conv => whnf)
      | (refine Sp.no ?_; conv => whnf)
      | (refine Sp.nyes ?_; conv => whnf)
      | (refine Sp.nno ?_; conv => whnf)
      | (refine Sp.ne (fun hc => ?_) (fun hc => ?_) <;> (conv => whnf))
      | (refine Sp.dec (fun hc => ?_) (fun hc => ?_) <;> (conv => whnf))
      | (refine Sp.ndec (fun hc => ?_) (fun hc => ?_) <;> (conv => whnf))
      | (refine Sp.mk (fun hc => ?_) (fun hc => ?_) <;> (conv => whnf))
      | (refine Nx.mk (fun ka kb kx hx hs => ?_) (fun he => ?_) <;> (conv => whnf))
      | (refine Nx.mk (fun ka kx hx hs => ?_) (fun he => ?_) <;> (conv => whnf))
      | (refine Uk.mk (fun hn => ?_) ?_ <;> (conv => whnf))
      | (refine Fi.a ?_; conv => whnf)
      | (refine Yl.a ?_ ?_ <;> (conv => whnf))
      | (refine Ob.b ?_; conv => whnf)
    · exact ⟨rfl, ⟨(i + 1, o ++ [((b / 2 ^ i.toNat % 2 : Nat) : Int)]), ⟨by simp only; omega, by simp only; omega⟩, hs⟩, Lf, by simp only; omega⟩
    · have e := he hc
      exact Lf
  · exact Lf

/-- Does a given plan grind in an hour? -/
def gbit (m : Mill) (b i : Nat) (x : Hour) (h : Int) : Int := if m.limit < after m h x.hi 1 then 0 else ((b / 2 ^ i % 2 : Nat) : Int)
def gvGo (m : Mill) (b : Nat) : List Hour → Nat → Int → List Int
  | [], _, _ => []
  | x :: H, i, h => gbit m b i x h :: gvGo m b H (i + 1) (after m h x.hi (gbit m b i x h))
def givenP (m : Mill) (b : Nat) : List Int := gvGo m b m.hours 0 m.start
theorem gvGo_length (m : Mill) (b : Nat) : ∀ (H : List Hour) (i : Nat) (h : Int), (gvGo m b H i h).length = H.length
  | [], _, _ => rfl
  | x :: H, i, h => by simp [gvGo, gvGo_length m b H]
theorem gbit_bit (m : Mill) (b i : Nat) (x : Hour) (h : Int) : Bit (gbit m b i x h) := by
  unfold gbit Bit; split <;> omega
theorem gvGo_bit (m : Mill) (b : Nat) : ∀ (H : List Hour) (i : Nat) (h : Int), ∀ x ∈ gvGo m b H i h, Bit x
  | [], _, _, x, hx => by cases hx
  | y :: H, i, h, x, hx => by
    rcases List.mem_cons.1 hx with rfl | hx
    · exact gbit_bit ..
    · exact gvGo_bit m b H _ _ x hx

set_option maxHeartbeats 4000000 in
theorem Given_spec (m : Mill) (b : Nat) (hm : checkMill m = 0) : Fn Try.prog 40 [millD m, u16 b] (ints (givenP m b)) := by
  have hfit := fit_of hm
  have hn := hfit.n12
  obtain ⟨_, hk, hho⟩ := checkMill_zero hm
  obtain ⟨⟨_, _⟩, ⟨_, _⟩, ⟨_, _⟩, _, _⟩ := hk
  have hA := fun (h r g : Int) (hh : 0 ≤ h ∧ h ≤ 40) (hr : 0 ≤ r ∧ r ≤ 40) => After_spec m h r g ⟨⟨by omega, by omega⟩, ⟨by omega, by omega⟩, ⟨by omega, by omega⟩, ⟨by omega, by omega⟩⟩
  generalize hr : givenP m b = r
  refine Fn.of_ex (cuts := []) tys hM Try.func40 rfl Try.call40 rfl ?_
  show exC Try.prog T [] _ false none 0 (entry 48 [millD m, u16 b]) (finQ T [ResultVar.tmp 4] _)
  conv => whnf
  repeat' first
    | (refine Ob.a ?_; conv => whnf)
    | (refine Sp.tt ?_; conv => whnf)
    | (refine Sp.ff ?_; conv => whnf)
    | (refine Sp.yes ?_; conv => whnf)
    | (refine Sp.no ?_; conv => whnf)
    | (refine Sp.nyes ?_; conv => whnf)
    | (refine Sp.nno ?_; conv => whnf)
    | (refine Sp.ne (fun hc => ?_) (fun hc => ?_) <;> (conv => whnf))
    | (refine Sp.dec (fun hc => ?_) (fun hc => ?_) <;> (conv => whnf))
    | (refine Sp.ndec (fun hc => ?_) (fun hc => ?_) <;> (conv => whnf))
    | (refine Sp.mk (fun hc => ?_) (fun hc => ?_) <;> (conv => whnf))
    | (refine Nx.mk (fun ka kb kx hx hs => ?_) (fun he => ?_) <;> (conv => whnf))
    | (refine Nx.mk (fun ka kx hx hs => ?_) (fun he => ?_) <;> (conv => whnf))
    | (refine Uk.mk (fun hn => ?_) ?_ <;> (conv => whnf))
    | (refine Fi.a ?_; conv => whnf)
    | (refine Yl.a ?_ ?_ <;> (conv => whnf))
    | (refine Ob.b ?_; conv => whnf)
  refine Lp.snap [0, 1, 2, 4, 47] 40 ?_
  (conv => whnf)
  refine LpB.go 48 ({p : Int × Int × List Int // (0 ≤ p.1 ∧ p.1 ≤ m.hours.length) ∧ (0 ≤ p.2.1 ∧ p.2.1 ≤ 40) ∧ p.2.2 ++ gvGo m b (m.hours.drop p.1.toNat) p.1.toNat p.2.1 = r ∧ p.2.2.length = p.1}) 0 (fun ⟨(i, h, o), _⟩ nx => ([(7, .d (int i)), (6, .d (int h)), (5, .ms 2 1 0 o.length)], [(2, .row true 3 1 o.length (rowOf int 0 o))])) (fun p => (m.hours.length - p.1.1).toNat) (⟨(0, m.start, []), ⟨by simp, by simp⟩, ⟨by simp only; omega, by simp only; omega⟩, hr, rfl⟩) ?_ ?_
  · rintro ⟨⟨i, h, o⟩, ⟨hi0, hi⟩, ⟨hh0, hh1⟩, hinv, hol⟩
    simp only at hi0 hi hh0 hh1 hinv hol
    have hb := band16 b i.toNat
    have hi16 : i < m.hours.length → i < 64 := fun h => by omega
    have hx : i < m.hours.length → 0 ≤ (m.hours.getD i.toNat default).hi ∧ (m.hours.getD i.toNat default).hi ≤ 40 := fun hlt => by
      obtain ⟨_, ⟨_, _⟩, _⟩ := hho _ (getD_mem (i := i.toNat) (by omega) default)
      omega
    have hs : i < m.hours.length → ∀ g, gbit m b i.toNat (m.hours.getD i.toNat default) h = g → (o ++ [g]) ++ gvGo m b (m.hours.drop (i + 1).toNat) (i + 1).toNat (after m h (m.hours.getD i.toNat default).hi g) = r ∧ ((o ++ [g]).length : Int) = i + 1 := fun hlt g hg => by
      subst hg
      rw [← hinv, drop_getD default (show i.toNat < m.hours.length by omega), gvGo, List.append_assoc, show (i + 1).toNat = i.toNat + 1 by omega]
      exact ⟨rfl, by simp; omega⟩
    have hg0 : m.limit < after m h (m.hours.getD i.toNat default).hi 1 → gbit m b i.toNat (m.hours.getD i.toNat default) h = 0 := fun a => if_pos a
    have hg1 : ¬ m.limit < after m h (m.hours.getD i.toNat default).hi 1 → gbit m b i.toNat (m.hours.getD i.toNat default) h = ((b / 2 ^ i.toNat % 2 : Nat) : Int) := fun a => if_neg a
    have hbd : i < m.hours.length → ∀ g, (g = 0 ∨ ¬ m.limit < after m h (m.hours.getD i.toNat default).hi 1) → Bit g → 0 ≤ after m h (m.hours.getD i.toNat default).hi g ∧ after m h (m.hours.getD i.toNat default).hi g ≤ 40 := fun hlt g hg hbit => by
      obtain ⟨_, _⟩ := hx hlt
      have h0 : after m h (m.hours.getD i.toNat default).hi 0 = max (m.hours.getD i.toNat default).hi (h - m.fall) := if_neg (by omega)
      have h1 : after m h (m.hours.getD i.toNat default).hi 1 = max h (m.hours.getD i.toNat default).hi + m.gain := if_pos rfl
      rcases hbit with rfl | rfl
      · rw [h0]; omega
      · rw [h1] at hg ⊢; omega
    have hbb : Bit ((b / 2 ^ i.toNat % 2 : Nat) : Int) := by unfold Bit; omega
    have he : ¬ i < m.hours.length → o = r := fun hn => by rw [← hinv, List.drop_eq_nil_of_le (by omega)]; simp [gvGo]
    generalize ((b / 2 ^ i.toNat % 2 : Nat) : Int) = bv at *
    have hbv : 0 ≤ bv ∧ bv ≤ 1 := by rcases hbb with rfl | rfl <;> omega
    have hA1 := fun hlt => hA h (m.hours.getD i.toNat default).hi 1 ⟨hh0, hh1⟩ (hx hlt)
    have hA0 := fun hlt => hA h (m.hours.getD i.toNat default).hi 0 ⟨hh0, hh1⟩ (hx hlt)
    have hAb : i < m.hours.length → Fn Try.prog 75 [millD m, int h, int (m.hours.getD i.toNat default).hi, int (band IntKind.u16 (↑b / 2 ^ i.toNat) 1)] (int (after m h (m.hours.getD i.toNat default).hi bv)) := fun hlt => by
      rw [hb]; exact hA h (m.hours.getD i.toNat default).hi bv ⟨hh0, hh1⟩ (hx hlt)
    conv => whnf
    repeat' first
      | (refine Ob.a ?_; conv => whnf)
      | (refine Sp.tt ?_; conv => whnf)
      | (refine Sp.ff ?_; conv => whnf)
      | (refine Sp.yes ?_; conv => whnf)
      | (refine Sp.no ?_; conv => whnf)
      | (refine Sp.nyes ?_; conv => whnf)
      | (refine Sp.nno ?_; conv => whnf)
      | (refine Sp.ne (fun hc => ?_) (fun hc => ?_) <;> (conv => whnf))
      | (refine Sp.dec (fun hc => ?_) (fun hc => ?_) <;> (conv => whnf))
      | (refine Sp.ndec (fun hc => ?_) (fun hc => ?_) <;> (conv => whnf))
      | (refine Sp.mk (fun hc => ?_) (fun hc => ?_) <;> (conv => whnf))
      | (apply Cl.go; (conv => whnf); (first | refine Ob.call (hA1 (by omega)) ?_ | refine Ob.call (hA0 (by omega)) ?_ | refine Ob.call (hAb (by omega)) ?_); (conv => whnf))
      | (refine Nx.mk (fun ka kb kx hx hs => ?_) (fun he => ?_) <;> (conv => whnf))
      | (refine Nx.mk (fun ka kx hx hs => ?_) (fun he => ?_) <;> (conv => whnf))
      | (refine Uk.mk (fun hn => ?_) ?_ <;> (conv => whnf))
      | (refine Fi.a ?_; conv => whnf)
      | (refine Yl.a ?_ ?_ <;> (conv => whnf))
      | (refine Ob.b ?_; conv => whnf)
    · have e := hg0 (by assumption)
      obtain ⟨e1, e2⟩ := hs (by omega) 0 e
      exact ⟨rfl, ⟨(i + 1, after m h (m.hours.getD i.toNat default).hi 0, o ++ [0]), ⟨by simp only; omega, by simp only; omega⟩, hbd (by omega) 0 (.inl rfl) (.inl rfl), e1, e2⟩, Lf, by simp only; omega⟩
    · have e := hg1 (by assumption)
      obtain ⟨e1, e2⟩ := hs (by omega) bv e
      exact ⟨rfl, ⟨(i + 1, after m h (m.hours.getD i.toNat default).hi bv, o ++ [bv]), ⟨by simp only; omega, by simp only; omega⟩, hbd (by omega) bv (.inr (by assumption)) hbb, e1, e2⟩, Lf, by simp only; omega⟩
    · have e := he (by omega)
      exact Lf
  · exact Lf

theorem planError_B {m : Mill} (hm : checkMill m = 0) : planError m (B m m.hours m.start) = 0 := by
  unfold planError
  rw [if_neg (by omega), if_neg (by rw [B_length]; simp), if_pos (B_bit m m.hours m.start)]
theorem checkPlan_B {m : Mill} (hm : checkMill m = 0) (hc : Cool m m.hours) : checkPlanR m (B m m.hours m.start) = (V m m.hours m.start, 0) := by
  obtain ⟨_, hk, _⟩ := checkMill_zero hm
  obtain ⟨⟨_, _⟩, ⟨_, _⟩, ⟨_, _⟩, _, _⟩ := hk
  have hs : is m (B m m.hours m.start) (roomOf m true) := by
    have := B_sf (m := m) (by omega) m.hours m.start hc (by omega)
    rw [← room_his] at this
    exact (is_sf (by omega) (by rw [B_length, room_len]; exact Nat.le_refl _)).2 this
  unfold checkPlanR
  rw [if_neg (by rw [planError_B hm]; simp), if_pos hs, grinds_gr (by rw [B_length]; exact Nat.le_refl _), gr_B]

theorem tabP_len (m : Mill) : (tabP m).length = m.hours.length + 1 := by simp [tabP, tab]
theorem at2_tabP {m : Mill} (hl : 0 ≤ m.limit ∧ m.limit ≤ 41) (i : Nat) (hi : i ≤ m.hours.length) (h : Int) (h0 : 0 ≤ h) (h1 : h ≤ m.limit) : at2 (tabP m) i h = V m (m.hours.drop i) h := by
  have e : (tabP m).getD i [] = (vrow m i).take (m.limit + 1).toNat := by
    rw [List.getD_eq_getElem?_getD, tabP, List.getElem?_map, tab, List.getElem?_map, List.getElem?_range (by omega)]; rfl
  unfold at2
  rw [Int.toNat_natCast, e, List.getD_eq_getElem?_getD, List.getElem?_take, if_pos (by omega), ← List.getD_eq_getElem?_getD, vrow_getD _ _ _ (by omega), if_pos (by omega), Int.toNat_of_nonneg h0]
theorem V_le_rest {m : Mill} {x : Hour} {H : List Hour} {h : Int} : V m H (after m h x.hi 0) ≤ V m (x :: H) h := by
  rw [V_step]; split <;> omega
theorem V_le_grind {m : Mill} {x : Hour} {H : List Hour} {h : Int} (h1 : after m h x.hi 1 ≤ m.limit) : x.pounds + V m H (after m h x.hi 1) ≤ V m (x :: H) h := by
  rw [V_step]
  split
  · exact Int.le_refl _
  · rename_i hn
    exact Int.not_lt.1 fun hlt => hn ⟨h1, hlt⟩
theorem checkTable_tab {m : Mill} (hm : checkMill m = 0) (hc : Cool m m.hours) : checkTableR m (tabP m) = (V m m.hours m.start, 0) := by
  have hfit := fit_of hm
  have hn := hfit.n12
  obtain ⟨_, hk, hho⟩ := checkMill_zero hm
  obtain ⟨⟨_, _⟩, ⟨_, _⟩, ⟨_, _⟩, _, _⟩ := hk
  have hpo : ∀ x ∈ m.hours, 0 ≤ x.pounds ∧ x.pounds ≤ 100 := fun x hx => by obtain ⟨_, _, h1, h2⟩ := hho x hx; omega
  have h0 := at2_tabP (m := m) ⟨by omega, by omega⟩ 0 (by omega) m.start (by omega) (by omega)
  rw [ct5 hm (tabP_len m) ?_ ?_ ?_]
  · exact congrArg (·, 0) h0
  · intro r hr
    obtain ⟨r', hr', rfl⟩ := List.mem_map.1 hr
    obtain ⟨i, _, rfl⟩ := List.mem_map.1 hr'
    rw [List.length_take]; simp [vrow]; omega
  · intro r hr x hx
    obtain ⟨r', hr', rfl⟩ := List.mem_map.1 hr
    obtain ⟨i, _, rfl⟩ := List.mem_map.1 hr'
    obtain ⟨h, _, rfl⟩ := List.mem_map.1 (List.mem_of_mem_take hx)
    split
    · refine ⟨V_nn _ _ _, Int.le_trans (V_le m (b := 100) _ _ fun y hy => hpo y (List.mem_of_mem_drop hy)) ?_⟩
      rw [List.length_drop]; omega
    · omega
  · intro i h hi hh
    have hx := hho _ (getD_mem hi default)
    have hxc := hc _ (getD_mem hi default)
    obtain ⟨⟨_, _⟩, ⟨_, _⟩, _, _⟩ := hx
    have e : at2 (tabP m) i h = V m (m.hours.drop i) h := at2_tabP ⟨by omega, by omega⟩ i (by omega) h (by omega) (by omega)
    have en : ∀ h' : Int, 0 ≤ h' → h' ≤ m.limit → at2 (tabP m) (i + 1) h' = V m (m.hours.drop (i + 1)) h' := fun h' a b => by
      have := at2_tabP (m := m) ⟨by omega, by omega⟩ (i + 1) (by omega) h' a b
      rwa [show ((i + 1 : Nat) : Int) = (i : Int) + 1 by omega] at this
    unfold CellOk hourAt
    rw [Int.toNat_natCast]
    have a0 : 0 ≤ after m h (m.hours.getD i default).hi 0 := after_nn (by omega) (by assumption) (by omega)
    have a1 : 0 ≤ after m h (m.hours.getD i default).hi 1 := after_nn (by omega) (by assumption) (by omega)
    rw [e, drop_getD default hi]
    exact ⟨fun hr => by rw [en _ a0 hr]; exact V_le_rest, fun hr => by rw [en _ a1 hr]; exact V_le_grind hr⟩

/-- What the helper 'most' gives for a valid mill. -/
def mostN (m : Mill) : Int := if Cool m m.hours then V m m.hours m.start else 0
theorem widest_tabP (m : Mill) : widest (tabP m) (tabP m).length ≤ 60 := by
  unfold widest
  rw [List.take_length]
  have : ∀ (l : List Int) (a : Int), a ≤ 60 → (∀ x ∈ l, x ≤ 60) → l.foldl max a ≤ 60 := by
    intro l
    induction l with
    | nil => intro a h _; exact h
    | cons x l ih => intro a h hl; exact ih _ (by have := hl x (by simp); omega) fun y hy => hl y (by simp [hy])
  refine this _ _ (by omega) fun x hx => ?_
  obtain ⟨r, hr, rfl⟩ := List.mem_map.1 hx
  obtain ⟨r', hr', rfl⟩ := List.mem_map.1 hr
  obtain ⟨i, _, rfl⟩ := List.mem_map.1 hr'
  rw [List.length_take]; simp [vrow]; omega

set_option maxHeartbeats 16000000 in
theorem most_spec (m : Mill) (hm : checkMill m = 0) : Fn Try.prog 53 [millD m] (tpl [int (mostN m), bool (decide (Cool m m.hours)), bool true]) := by
  have hfit := fit_of hm
  have hn := hfit.n12
  have hl : m.hours.length < 1000000 := by omega
  have a1 := MostP_spec m hl
  have a2 := PlanP_spec m hl
  have a3 := TableP_spec m hl
  unfold mostN
  unfold mostP at a1
  unfold planP at a2
  unfold tableP at a3
  rw [if_neg (by omega)] at a1 a2 a3
  by_cases hc : Cool m m.hours
  case neg =>
    rw [if_neg hc] at a1 a2 a3 ⊢
    rw [decide_eq_false hc]
    refine Fn.of_ex (cuts := []) tys hM Try.func53 rfl Try.call53 rfl ?_
    show exC Try.prog T [] _ false none 0 (entry 142 [millD m]) (finQ T [ResultVar.tmp 2, ResultVar.tmp 3, ResultVar.tmp 4] _)
    conv => whnf
    repeat' first
      | (refine Ob.a ?_; conv => whnf)
      | (refine Sp.tt ?_; conv => whnf)
      | (refine Sp.ff ?_; conv => whnf)
      | (refine Sp.yes ?_; conv => whnf)
      | (refine Sp.no ?_; conv => whnf)
      | (refine Sp.nyes ?_; conv => whnf)
      | (refine Sp.nno ?_; conv => whnf)
      | (refine Sp.ne (fun hc => ?_) (fun hc => ?_) <;> (conv => whnf))
      | (refine Sp.dec (fun hc => ?_) (fun hc => ?_) <;> (conv => whnf))
      | (refine Sp.ndec (fun hc => ?_) (fun hc => ?_) <;> (conv => whnf))
      | (refine Sp.mk (fun hc => ?_) (fun hc => ?_) <;> (conv => whnf))
      | (apply Cl.go; (conv => whnf); (first | refine Ob.call (a1) ?_ | refine Ob.call (a2) ?_ | refine Ob.call (a3) ?_); (conv => whnf))
      | (refine Nx.mk (fun ka kb kx hx hs => ?_) (fun he => ?_) <;> (conv => whnf))
      | (refine Nx.mk (fun ka kx hx hs => ?_) (fun he => ?_) <;> (conv => whnf))
      | (refine Uk.mk (fun hn => ?_) ?_ <;> (conv => whnf))
      | (refine Fi.a ?_; conv => whnf)
      | (refine Yl.a ?_ ?_ <;> (conv => whnf))
      | (refine Ob.b ?_; conv => whnf)
    all_goals exact Lf
  obtain ⟨_, hk, hho⟩ := checkMill_zero hm
  have hpo : ∀ x ∈ m.hours, 0 ≤ x.pounds ∧ x.pounds ≤ 100 := fun x hx => by obtain ⟨_, _, h1, h2⟩ := hho x hx; omega
  rw [if_pos hc] at a1 a2 a3 ⊢
  rw [decide_eq_true hc]
  have hB := B_length m m.hours m.start
  have hT := tabP_len m
  have b1 := CheckPlanPr_spec m (B m m.hours m.start) hl (by omega)
  have b2 := CheckPlan_spec m (B m m.hours m.start) hl (by omega)
  rw [checkPlan_B hm hc] at b1 b2
  have b3 := CheckTableP_spec m (tabP m) hl (by omega) (fun r hr => by
    obtain ⟨r', hr', rfl⟩ := List.mem_map.1 hr
    obtain ⟨i, _, rfl⟩ := List.mem_map.1 hr'
    rw [List.length_take]; simp [vrow]; omega)
  have b4 := CheckTable_spec m (tabP m) hl (by omega)
  rw [checkTable_tab hm hc] at b3 b4
  have c1 := long_spec (B m m.hours m.start)
  rw [decide_eq_false (by omega)] at c1
  have c2 := wide_spec (tabP m) (by omega)
  rw [decide_eq_false (by unfold isWide; have := widest_tabP m; omega)] at c2
  have v1 := V_nn m m.hours m.start
  have v2 := V_le m m.hours m.start hpo
  have v3 : V m m.hours m.start ≤ 1200 := by omega
  generalize B m m.hours m.start = p at *
  generalize V m m.hours m.start = v at *
  generalize tabP m = t at *
  refine Fn.of_ex (cuts := []) tys hM Try.func53 rfl Try.call53 rfl ?_
  show exC Try.prog T [] _ false none 0 (entry 142 [millD m]) (finQ T [ResultVar.tmp 2, ResultVar.tmp 3, ResultVar.tmp 4] _)
  conv => whnf
  repeat' first
    | (refine Ob.a ?_; conv => whnf)
    | (refine Sp.tt ?_; conv => whnf)
    | (refine Sp.ff ?_; conv => whnf)
    | (refine Sp.yes ?_; conv => whnf)
    | (refine Sp.no ?_; conv => whnf)
    | (refine Sp.nyes ?_; conv => whnf)
    | (refine Sp.nno ?_; conv => whnf)
    | (refine Sp.ne (fun hc => ?_) (fun hc => ?_) <;> (conv => whnf))
    | (refine Sp.dec (fun hc => ?_) (fun hc => ?_) <;> (conv => whnf))
    | (refine Sp.ndec (fun hc => ?_) (fun hc => ?_) <;> (conv => whnf))
    | (refine Sp.mk (fun hc => ?_) (fun hc => ?_) <;> (conv => whnf))
    | (apply Cl.go; (conv => whnf); (first | refine Ob.call (a1) ?_ | refine Ob.call (a2) ?_ | refine Ob.call (a3) ?_ | refine Ob.call (b1) ?_ | refine Ob.call (b2) ?_ | refine Ob.call (b3) ?_ | refine Ob.call (b4) ?_ | refine Ob.call (c1) ?_ | refine Ob.call (c2) ?_); (conv => whnf))
    | (refine Nx.mk (fun ka kb kx hx hs => ?_) (fun he => ?_) <;> (conv => whnf))
    | (refine Nx.mk (fun ka kx hx hs => ?_) (fun he => ?_) <;> (conv => whnf))
    | (refine Uk.mk (fun hn => ?_) ?_ <;> (conv => whnf))
    | (refine Fi.a ?_; conv => whnf)
    | (refine Yl.a ?_ ?_ <;> (conv => whnf))
    | (refine Ob.b ?_; conv => whnf)
  all_goals first | exact Lf
end Go.Px.Try

/-! LwTables -/
namespace Go.Px.Try
open Go Go.Proofs Go.Px

theorem foldl_max_ge' : ∀ (l : List Int) (a : Int), a ≤ l.foldl max a ∧ ∀ x ∈ l, x ≤ l.foldl max a
  | [], a => ⟨Int.le_refl _, fun x hx => by cases hx⟩
  | y :: l, a => by
    obtain ⟨h1, h2⟩ := foldl_max_ge' l (max a y)
    refine ⟨Int.le_trans (by omega) h1, fun x hx => ?_⟩
    rcases List.mem_cons.1 hx with rfl | hx
    · exact Int.le_trans (by omega) h1
    · exact h2 x hx
theorem notWide {t : List (List Int)} (h : ¬ isWide t) : t.length ≤ 20 ∧ ∀ r ∈ t, r.length ≤ 60 := by
  unfold isWide widest at h
  rw [List.take_length] at h
  refine ⟨by omega, fun r hr => ?_⟩
  have := (foldl_max_ge' (t.map fun r => (r.length : Int)) 0).2 _ (List.mem_map.2 ⟨r, hr, rfl⟩)
  omega
theorem checkTableR_rng (m : Mill) (t : List (List Int)) : -100000 ≤ (checkTableR m t).1 ∧ (checkTableR m t).1 ≤ 100000 := by
  unfold checkTableR
  split
  · simp
  split
  · simp
  split
  · simp
  split
  · simp
  split
  · simp
  · rename_i h _
    have := range_sm (Decidable.of_not_not h) 0 m.start
    unfold Sm at this
    simp only; omega

set_option maxRecDepth 100000 in
set_option maxHeartbeats 16000000 in
theorem StoneTables_spec (m : Mill) (t : List (List Int)) (ht : t.length ≤ 9223372036854775807) : Fn Try.prog 9 [millD m, tableD t] (bool true) := by
  have hw := Works_spec
  have hg := great_spec m
  have hwt := wide_spec t ht
  by_cases h1 : 16 < (m.hours.length : Int)
  · rw [decide_eq_true h1] at hg
    refine Fn.of_ex (cuts := []) tys hM Try.func9 rfl Try.call9 rfl ?_
    show exC Try.prog T [] _ false none 0 (entry 85 [millD m, tableD t]) (finQ T [ResultVar.tmp 4] _)
    conv => whnf
    repeat' first
      | (refine Ob.a ?_; conv => whnf)
      | (refine Sp.tt ?_; conv => whnf)
      | (refine Sp.ff ?_; conv => whnf)
      | (refine Sp.yes ?_; conv => whnf)
      | (refine Sp.no ?_; conv => whnf)
      | (refine Sp.nyes ?_; conv => whnf)
      | (refine Sp.nno ?_; conv => whnf)
      | (refine Sp.ne (fun hc => ?_) (fun hc => ?_) <;> (conv => whnf))
      | (refine Sp.dec (fun hc => ?_) (fun hc => ?_) <;> (conv => whnf))
      | (refine Sp.ndec (fun hc => ?_) (fun hc => ?_) <;> (conv => whnf))
      | (refine Sp.mk (fun hc => ?_) (fun hc => ?_) <;> (conv => whnf))
      | (apply Cl.go; (conv => whnf); (first | refine Ob.call (hg) ?_ | refine Ob.call (hwt) ?_ | refine Ob.call (hw) ?_); (conv => whnf))
      | (refine Nx.mk (fun ka kb kx hx hs => ?_) (fun he => ?_) <;> (conv => whnf))
      | (refine Nx.mk (fun ka kx hx hs => ?_) (fun he => ?_) <;> (conv => whnf))
      | (refine Uk.mk (fun hn => ?_) ?_ <;> (conv => whnf))
      | (refine Fi.a ?_; conv => whnf)
      | (refine Yl.a ?_ ?_ <;> (conv => whnf))
      | (refine Ob.b ?_; conv => whnf)
    all_goals exact Lf
  rw [decide_eq_false h1] at hg
  by_cases h2 : isWide t
  · rw [decide_eq_true h2] at hwt
    refine Fn.of_ex (cuts := []) tys hM Try.func9 rfl Try.call9 rfl ?_
    show exC Try.prog T [] _ false none 0 (entry 85 [millD m, tableD t]) (finQ T [ResultVar.tmp 4] _)
    conv => whnf
    repeat' first
      | (refine Ob.a ?_; conv => whnf)
      | (refine Sp.tt ?_; conv => whnf)
      | (refine Sp.ff ?_; conv => whnf)
      | (refine Sp.yes ?_; conv => whnf)
      | (refine Sp.no ?_; conv => whnf)
      | (refine Sp.nyes ?_; conv => whnf)
      | (refine Sp.nno ?_; conv => whnf)
      | (refine Sp.ne (fun hc => ?_) (fun hc => ?_) <;> (conv => whnf))
      | (refine Sp.dec (fun hc => ?_) (fun hc => ?_) <;> (conv => whnf))
      | (refine Sp.ndec (fun hc => ?_) (fun hc => ?_) <;> (conv => whnf))
      | (refine Sp.mk (fun hc => ?_) (fun hc => ?_) <;> (conv => whnf))
      | (apply Cl.go; (conv => whnf); (first | refine Ob.call (hg) ?_ | refine Ob.call (hwt) ?_ | refine Ob.call (hw) ?_); (conv => whnf))
      | (refine Nx.mk (fun ka kb kx hx hs => ?_) (fun he => ?_) <;> (conv => whnf))
      | (refine Nx.mk (fun ka kx hx hs => ?_) (fun he => ?_) <;> (conv => whnf))
      | (refine Uk.mk (fun hn => ?_) ?_ <;> (conv => whnf))
      | (refine Fi.a ?_; conv => whnf)
      | (refine Yl.a ?_ ?_ <;> (conv => whnf))
      | (refine Ob.b ?_; conv => whnf)
    all_goals exact Lf
  rw [decide_eq_false h2] at hwt
  obtain ⟨t1, t2⟩ := notWide h2
  have hl : m.hours.length < 1000000 := by omega
  have a1 := CheckTableP_spec m t hl (by omega) fun r hr => by have := t2 r hr; omega
  have a2 := CheckTable_spec m t hl (by omega)
  have a3 := TableP_spec m hl
  have a4 := Most_spec m hl
  rw [mostR_P] at a4
  generalize checkTableR m t = c at *
  unfold tableP at a3
  unfold mostP at a4
  by_cases hm : checkMill m = 0
  case neg =>
    rw [if_pos hm] at a3 a4
    have c2 := wide_spec [] (by simp)
    rw [decide_eq_false (by unfold isWide widest; simp)] at c2
    generalize checkMill m = e at *
    refine Fn.of_ex (cuts := []) tys hM Try.func9 rfl Try.call9 rfl ?_
    show exC Try.prog T [] _ false none 0 (entry 85 [millD m, tableD t]) (finQ T [ResultVar.tmp 4] _)
    conv => whnf
    repeat' first
      | (refine Ob.a ?_; conv => whnf)
      | (refine Sp.tt ?_; conv => whnf)
      | (refine Sp.ff ?_; conv => whnf)
      | (refine Sp.yes ?_; conv => whnf)
      | (refine Sp.no ?_; conv => whnf)
      | (refine Sp.nyes ?_; conv => whnf)
      | (refine Sp.nno ?_; conv => whnf)
      | (refine Sp.ne (fun hc => ?_) (fun hc => ?_) <;> (conv => whnf))
      | (refine Sp.dec (fun hc => ?_) (fun hc => ?_) <;> (conv => whnf))
      | (refine Sp.ndec (fun hc => ?_) (fun hc => ?_) <;> (conv => whnf))
      | (refine Sp.mk (fun hc => ?_) (fun hc => ?_) <;> (conv => whnf))
      | (apply Cl.go; (conv => whnf); (first | refine Ob.call (hg) ?_ | refine Ob.call (hwt) ?_ | refine Ob.call (hw) ?_ | refine Ob.call (a1) ?_ | refine Ob.call (a2) ?_ | refine Ob.call (a3) ?_ | refine Ob.call (a4) ?_ | refine Ob.call (c2) ?_); (conv => whnf))
      | (refine Nx.mk (fun ka kb kx hx hs => ?_) (fun he => ?_) <;> (conv => whnf))
      | (refine Nx.mk (fun ka kx hx hs => ?_) (fun he => ?_) <;> (conv => whnf))
      | (refine Uk.mk (fun hn => ?_) ?_ <;> (conv => whnf))
      | (refine Fi.a ?_; conv => whnf)
      | (refine Yl.a ?_ ?_ <;> (conv => whnf))
      | (refine Ob.b ?_; conv => whnf)
    all_goals exact Lf
  rw [if_neg (by omega)] at a3 a4
  by_cases hc : Cool m m.hours
  case neg =>
    rw [if_neg hc] at a3 a4
    have c2 := wide_spec [] (by simp)
    rw [decide_eq_false (by unfold isWide widest; simp)] at c2
    refine Fn.of_ex (cuts := []) tys hM Try.func9 rfl Try.call9 rfl ?_
    show exC Try.prog T [] _ false none 0 (entry 85 [millD m, tableD t]) (finQ T [ResultVar.tmp 4] _)
    conv => whnf
    repeat' first
      | (refine Ob.a ?_; conv => whnf)
      | (refine Sp.tt ?_; conv => whnf)
      | (refine Sp.ff ?_; conv => whnf)
      | (refine Sp.yes ?_; conv => whnf)
      | (refine Sp.no ?_; conv => whnf)
      | (refine Sp.nyes ?_; conv => whnf)
      | (refine Sp.nno ?_; conv => whnf)
      | (refine Sp.ne (fun hc => ?_) (fun hc => ?_) <;> (conv => whnf))
      | (refine Sp.dec (fun hc => ?_) (fun hc => ?_) <;> (conv => whnf))
      | (refine Sp.ndec (fun hc => ?_) (fun hc => ?_) <;> (conv => whnf))
      | (refine Sp.mk (fun hc => ?_) (fun hc => ?_) <;> (conv => whnf))
      | (apply Cl.go; (conv => whnf); (first | refine Ob.call (hg) ?_ | refine Ob.call (hwt) ?_ | refine Ob.call (hw) ?_ | refine Ob.call (a1) ?_ | refine Ob.call (a2) ?_ | refine Ob.call (a3) ?_ | refine Ob.call (a4) ?_ | refine Ob.call (c2) ?_); (conv => whnf))
      | (refine Nx.mk (fun ka kb kx hx hs => ?_) (fun he => ?_) <;> (conv => whnf))
      | (refine Nx.mk (fun ka kx hx hs => ?_) (fun he => ?_) <;> (conv => whnf))
      | (refine Uk.mk (fun hn => ?_) ?_ <;> (conv => whnf))
      | (refine Fi.a ?_; conv => whnf)
      | (refine Yl.a ?_ ?_ <;> (conv => whnf))
      | (refine Ob.b ?_; conv => whnf)
    all_goals exact Lf
  rw [if_pos hc] at a3 a4
  have hT := tabP_len m
  have b4 := CheckTable_spec m (tabP m) hl (by omega)
  rw [checkTable_tab hm hc] at b4
  have c2 := wide_spec (tabP m) (by omega)
  rw [decide_eq_false (by unfold isWide; have := widest_tabP m; omega)] at c2
  generalize V m m.hours m.start = v at *
  generalize tabP m = q at *
  refine Fn.of_ex (cuts := []) tys hM Try.func9 rfl Try.call9 rfl ?_
  show exC Try.prog T [] _ false none 0 (entry 85 [millD m, tableD t]) (finQ T [ResultVar.tmp 4] _)
  conv => whnf
  repeat' first
    | (refine Ob.a ?_; conv => whnf)
    | (refine Sp.tt ?_; conv => whnf)
    | (refine Sp.ff ?_; conv => whnf)
    | (refine Sp.yes ?_; conv => whnf)
    | (refine Sp.no ?_; conv => whnf)
    | (refine Sp.nyes ?_; conv => whnf)
    | (refine Sp.nno ?_; conv => whnf)
    | (refine Sp.ne (fun hc => ?_) (fun hc => ?_) <;> (conv => whnf))
    | (refine Sp.dec (fun hc => ?_) (fun hc => ?_) <;> (conv => whnf))
    | (refine Sp.ndec (fun hc => ?_) (fun hc => ?_) <;> (conv => whnf))
    | (refine Sp.mk (fun hc => ?_) (fun hc => ?_) <;> (conv => whnf))
    | (apply Cl.go; (conv => whnf); (first | refine Ob.call (hg) ?_ | refine Ob.call (hwt) ?_ | refine Ob.call (hw) ?_ | refine Ob.call (a1) ?_ | refine Ob.call (a2) ?_ | refine Ob.call (a3) ?_ | refine Ob.call (a4) ?_ | refine Ob.call (b4) ?_ | refine Ob.call (c2) ?_); (conv => whnf))
    | (refine Nx.mk (fun ka kb kx hx hs => ?_) (fun he => ?_) <;> (conv => whnf))
    | (refine Nx.mk (fun ka kx hx hs => ?_) (fun he => ?_) <;> (conv => whnf))
    | (refine Uk.mk (fun hn => ?_) ?_ <;> (conv => whnf))
    | (refine Fi.a ?_; conv => whnf)
    | (refine Yl.a ?_ ?_ <;> (conv => whnf))
    | (refine Ob.b ?_; conv => whnf)
  all_goals exact Lf
end Go.Px.Try

/-! Ma3 -/
namespace Go.Px.Try
open Go Go.Proofs Go.Px

/-- Number by number at most. -/
def LeL : List Int → List Int → Prop
  | [], [] => True
  | x :: l, y :: l' => x ≤ y ∧ LeL l l'
  | _, _ => False
theorem LeL.refl : ∀ l, LeL l l
  | [] => trivial
  | x :: l => ⟨Int.le_refl x, LeL.refl l⟩
theorem LeL.length : ∀ {l l' : List Int}, LeL l l' → l.length = l'.length
  | [], [], _ => rfl
  | _ :: _, _ :: _, h => by simp [LeL.length h.2]
theorem LeL.getD : ∀ {l l' : List Int}, LeL l l' → ∀ j, l.getD j 0 ≤ l'.getD j 0
  | [], [], _, j => by simp
  | x :: l, y :: l', h, 0 => by simpa using h.1
  | x :: l, y :: l', h, j + 1 => by simpa using LeL.getD h.2 j
theorem LeL.set0 : ∀ (l : List Int) (i : Nat), (∀ x ∈ l, 0 ≤ x) → LeL (l.set i 0) l
  | [], _, _ => by simp; trivial
  | x :: l, 0, h => ⟨h x (by simp), LeL.refl l⟩
  | x :: l, i + 1, h => ⟨Int.le_refl x, LeL.set0 l i fun y hy => h y (by simp [hy])⟩
theorem LeL.le_all {l l' : List Int} (h : LeL l l') {b : Int} : (∀ x ∈ l', x ≤ b) → ∀ x ∈ l, x ≤ b := by
  induction l generalizing l' with
  | nil => intro _ x hx; cases hx
  | cons y l ih => cases l' with
    | nil => exact h.elim
    | cons z l' =>
      intro hb x hx
      rcases List.mem_cons.1 hx with rfl | hx
      · exact Int.le_trans h.1 (hb z (by simp))
      · exact ih h.2 (fun w hw => hb w (by simp [hw])) x hx
theorem after_mono {m : Mill} (hg : 0 ≤ m.gain) (hf : 0 ≤ m.fall) {h h' r r' g g' : Int} (hh : h ≤ h') (hr : r ≤ r') (hgg : g ≤ g') (hb : Bit g) (hb' : Bit g') : after m h r g ≤ after m h' r' g' := by
  have e0 : ∀ h r, after m h r 0 = max r (h - m.fall) := fun h r => if_neg (by omega)
  have e1 : ∀ h r, after m h r 1 = max h r + m.gain := fun h r => if_pos rfl
  rcases hb with rfl | rfl <;> rcases hb' with rfl | rfl <;> simp only [e0, e1] <;> omega
theorem hs_mono {m : Mill} (hg : 0 ≤ m.gain) (hf : 0 ≤ m.fall) : ∀ {R R' p p' : List Int} {h h' : Int}, LeL R R' → LeL p p' → (∀ x ∈ p, Bit x) → (∀ x ∈ p', Bit x) → h ≤ h' → LeL (hs m R p h) (hs m R' p' h')
  | [], [], _, _, _, _, _, _, _, _, _ => trivial
  | r :: R, r' :: R', [], [], _, _, _, _, _, _, _ => trivial
  | r :: R, r' :: R', g :: p, g' :: p', h, h', hR, hp, hb, hb', hh => by
    have ha := after_mono (m := m) hg hf hh hR.1 hp.1 (hb g (by simp)) (hb' g' (by simp))
    exact ⟨ha, hs_mono hg hf hR.2 hp.2 (fun x hx => hb x (by simp [hx])) (fun x hx => hb' x (by simp [hx])) ha⟩
theorem heatsOf_hs {m : Mill} {plan : List Int} (hl : plan.length = m.hours.length) (w : Bool) : heatsOf m plan w = hs m (roomOf m w) plan m.start := by
  unfold heatsOf
  rw [show plan.length = plan.length - 0 from rfl, heatsGo_hs m plan (roomOf m w) (by rw [room_len]; omega) _ 0 m.start rfl]
  rfl
theorem heats_mono {m : Mill} (hm : checkMill m = 0) {p p' : List Int} (hl : p'.length = m.hours.length) (hp : LeL p p') (hb : ∀ x ∈ p, Bit x) (hb' : ∀ x ∈ p', Bit x) (w : Bool) : LeL (heatsOf m p w) (heatsOf m p' w) := by
  obtain ⟨_, hk, _⟩ := checkMill_zero hm
  obtain ⟨⟨_, _⟩, ⟨_, _⟩, ⟨_, _⟩, _, _⟩ := hk
  rw [heatsOf_hs (by rw [hp.length, hl]), heatsOf_hs hl]
  exact hs_mono (by omega) (by omega) (LeL.refl _) hp hb hb' (Int.le_refl _)
theorem is_heats {m : Mill} (hm : checkMill m = 0) {p : List Int} (w : Bool) : is m p (roomOf m w) ↔ ∀ x ∈ heatsOf m p w, x ≤ m.limit := by
  obtain ⟨_, hk, _⟩ := checkMill_zero hm
  obtain ⟨⟨_, _⟩, ⟨_, _⟩, ⟨_, _⟩, _, _⟩ := hk
  unfold is heatsOf
  rw [greatest_le (by omega)]
theorem is_mono {m : Mill} (hm : checkMill m = 0) {p p' : List Int} (hl : p'.length = m.hours.length) (hp : LeL p p') (hb : ∀ x ∈ p, Bit x) (hb' : ∀ x ∈ p', Bit x) (w : Bool) (h : is m p' (roomOf m w)) : is m p (roomOf m w) := by
  rw [is_heats hm] at h ⊢
  exact (heats_mono hm hl hp hb hb' w).le_all h
theorem planError_of {m : Mill} (hm : checkMill m = 0) {p : List Int} (hl : p.length = m.hours.length) (hb : ∀ x ∈ p, Bit x) : planError m p = 0 := by
  unfold planError
  rw [if_neg (by omega), if_neg (by omega), if_pos hb]
/-- When a plan is safe. -/
def safeN (m : Mill) (p : List Int) : Int := if is m p (roomOf m true) then 2 else if is m p (roomOf m false) then 1 else 0
theorem safeR_N {m : Mill} {p : List Int} (h : planError m p = 0) : safeR m p = (safeN m p, 0) := by
  unfold safeR safeN
  rw [if_neg (by omega)]
  split
  · rfl
  · split <;> rfl
theorem safeN_rng (m : Mill) (p : List Int) : 0 ≤ safeN m p ∧ safeN m p ≤ 2 := by
  unfold safeN; split <;> (try split) <;> omega
theorem safeN_mono {m : Mill} (hm : checkMill m = 0) {p p' : List Int} (hl : p'.length = m.hours.length) (hp : LeL p p') (hb : ∀ x ∈ p, Bit x) (hb' : ∀ x ∈ p', Bit x) : safeN m p' ≤ safeN m p := by
  have h1 := is_mono hm hl hp hb hb' true
  have h2 := is_mono hm hl hp hb hb' false
  unfold safeN
  by_cases a : is m p' (roomOf m true)
  · rw [if_pos a, if_pos (h1 a)]; exact Int.le_refl _
  · rw [if_neg a]
    by_cases b : is m p' (roomOf m false)
    · rw [if_pos b, if_pos (h2 b)]; split <;> omega
    · rw [if_neg b]; split <;> (try split) <;> omega
theorem anyGo_bit (b : Nat) : ∀ k, ∀ x ∈ anyGo b k, Bit x
  | 0, x, h => by cases h
  | k + 1, x, h => by
    rcases List.mem_append.1 h with h | h
    · exact anyGo_bit b k x h
    · rw [List.mem_singleton.1 h]; unfold Bit; omega
theorem anyGo_zero : ∀ k, anyGo 0 k = zeros k
  | 0 => rfl
  | k + 1 => by
    rw [anyGo, anyGo_zero k, Nat.zero_div]
    show zeros k ++ [0] = zeros (k + 1)
    unfold zeros
    rw [List.replicate_succ', ]
end Go.Px.Try

/-! LwProv -/
namespace Go.Px.Try
open Go Go.Proofs Go.Px

theorem range_nn {t : List (List Int)} (h : Range t) (i j : Int) : 0 ≤ at2 t i j := by
  unfold at2
  by_cases h1 : i.toNat < t.length
  · by_cases h2 : j.toNat < (t.getD i.toNat []).length
    · exact (h _ (getD_mem h1 []) _ (getD_mem h2 0)).1
    · rw [List.getD_eq_getElem?_getD (l := t.getD i.toNat []), List.getElem?_eq_none (by omega)]; exact Int.le_refl _
  · rw [List.getD_eq_getElem?_getD (l := t), List.getElem?_eq_none (by omega)]; simp
theorem V_le_at2 {m : Mill} (hm : checkMill m = 0) (hc : Cool m m.hours) {t : List (List Int)} (hr : Range t) (hp : Proves m t) : ∀ (k i : Nat), i + k = m.hours.length → ∀ h : Int, 0 ≤ h → h ≤ m.limit → V m (m.hours.drop i) h ≤ at2 t i h
  | 0, i, hi, h, _, _ => by
    rw [List.drop_eq_nil_of_le (by omega)]
    exact range_nn hr _ _
  | k + 1, i, hi, h, h0, h1 => by
    obtain ⟨_, hk, hho⟩ := checkMill_zero hm
    obtain ⟨⟨_, _⟩, ⟨_, _⟩, ⟨_, _⟩, _, _⟩ := hk
    have hil : i < m.hours.length := by omega
    obtain ⟨⟨_, _⟩, ⟨_, _⟩, _, _⟩ := hho _ (getD_mem hil default)
    have hcx := hc _ (getD_mem hil default)
    have ih := V_le_at2 hm hc hr hp k (i + 1) (by omega)
    rw [show ((i + 1 : Nat) : Int) = (i : Int) + 1 by omega] at ih
    have hcell := hp i h.toNat hil (by omega)
    rw [Int.toNat_of_nonneg h0] at hcell
    obtain ⟨c0, c1⟩ := hcell
    unfold hourAt at c0 c1
    rw [Int.toNat_natCast] at c0 c1
    have a0 : 0 ≤ after m h (m.hours.getD i default).hi 0 := after_nn (by omega) (by assumption) (by omega)
    have a1 : 0 ≤ after m h (m.hours.getD i default).hi 1 := after_nn (by omega) (by assumption) (by omega)
    have a2 := after0_le (m := m) (by omega) h1 hcx
    have i0 := ih _ a0 a2
    have j0 := c0 a2
    rw [drop_getD default hil, V_step]
    split
    · rename_i hg
      have i1 := ih _ a1 hg.1
      have j1 := c1 hg.1
      omega
    · omega
theorem checkTable_ge {m : Mill} (hm : checkMill m = 0) (hc : Cool m m.hours) {t : List (List Int)} (h : (checkTableR m t).2 = 0) : V m m.hours m.start ≤ (checkTableR m t).1 := by
  obtain ⟨_, hk, _⟩ := checkMill_zero hm
  obtain ⟨⟨_, _⟩, ⟨_, _⟩, ⟨_, _⟩, _, _⟩ := hk
  unfold checkTableR at h ⊢
  rw [if_neg (by omega)] at h ⊢
  split at h
  · cases h
  rename_i e2; rw [if_neg e2]
  split at h
  · cases h
  rename_i e3; rw [if_neg e3]
  split at h
  · cases h
  rename_i e4; rw [if_neg e4]
  split at h
  · cases h
  rename_i e5; rw [if_neg e5]
  exact V_le_at2 hm hc (Decidable.of_not_not e4) (Decidable.of_not_not e5) m.hours.length 0 (by omega) m.start (by omega) (by omega)
/-- A given plan is safe. -/
theorem gv_sf {m : Mill} (hf : 1 ≤ m.fall) (b : Nat) : ∀ (H : List Hour) (i : Nat) (h : Int), Cool m H → h ≤ m.limit → sf m (his H) (gvGo m b H i h) h
  | [], _, _, _, _ => by intro x hx; cases hx
  | x :: H, i, h, hc, hh => by
    have hc' : Cool m H := fun y hy => hc y (by simp [hy])
    have h0 := after0_le hf hh (hc x (by simp))
    rw [gvGo, his, List.map_cons]
    refine sf_cons.2 ?_
    have ha : after m h x.hi (gbit m b i x h) ≤ m.limit := by
      unfold gbit
      split
      · exact h0
      · rename_i h1
        rcases (show b / 2 ^ i % 2 = 0 ∨ b / 2 ^ i % 2 = 1 by omega) with e | e <;> rw [e]
        · exact h0
        · show after m h x.hi 1 ≤ m.limit; omega
    exact ⟨ha, gv_sf hf b H (i + 1) _ hc' ha⟩
theorem lx_first : ∀ {p g : List Int}, lx p g → ∀ i, i < g.length → (∀ j, j < i → g.getD j 0 = p.getD j 0) → ¬ g.getD i 0 = p.getD i 0 → p.getD i 0 < g.getD i 0
  | x :: p, y :: g, h, 0, _, _, hn => by
    rcases h with h | ⟨rfl, _⟩
    · simpa using h
    · exact absurd rfl hn
  | x :: p, y :: g, h, i + 1, hi, he, hn => by
    have h0 := he 0 (by omega)
    simp at h0
    subst h0
    rcases h with h | ⟨_, h⟩
    · omega
    · have := lx_first h i (by simpa using hi) (fun j hj => by have := he (j + 1) (by omega); simpa using this) (by simpa using hn)
      simpa using this
theorem given_facts {m : Mill} (hm : checkMill m = 0) (b : Nat) : (¬ Cool m m.hours → checkPlanR m (givenP m b) = (0, 18)) ∧
    (Cool m m.hours → (checkPlanR m (givenP m b)).2 = 0 ∧ 0 ≤ (checkPlanR m (givenP m b)).1 ∧ (checkPlanR m (givenP m b)).1 ≤ V m m.hours m.start ∧
      ((checkPlanR m (givenP m b)).1 = V m m.hours m.start → ∀ i, i < m.hours.length → (∀ j, j < i → (givenP m b).getD j 0 = (B m m.hours m.start).getD j 0) → ¬ (givenP m b).getD i 0 = (B m m.hours m.start).getD i 0 → (B m m.hours m.start).getD i 0 < (givenP m b).getD i 0)) := by
  obtain ⟨_, hk, hho⟩ := checkMill_zero hm
  obtain ⟨⟨_, _⟩, ⟨_, _⟩, ⟨_, _⟩, _, _⟩ := hk
  have hgl : (givenP m b).length = m.hours.length := gvGo_length ..
  have hgb : ∀ x ∈ givenP m b, Bit x := gvGo_bit m b _ _ _
  have hpe := planError_of hm hgl hgb
  have hrl : (roomOf m true).length = m.hours.length := room_len m true
  have ei : is m (givenP m b) (roomOf m true) ↔ sf m (his m.hours) (givenP m b) m.start := by
    rw [is_sf (by omega) (by omega), ← room_his]; exact Iff.rfl
  have e1 : checkPlanR m (givenP m b) = if is m (givenP m b) (roomOf m true) then (grinds m (givenP m b), 0) else (0, 18) := if_neg (by omega)
  refine ⟨fun hc => ?_, fun hc => ?_⟩
  · rw [e1, if_neg fun h => hc (cool_of (by omega) _ _ _ hgl (ei.1 h))]
  · have hs := gv_sf (m := m) (by omega) b m.hours 0 m.start hc (by omega)
    have hv := V_best (m := m) (by omega) m.hours (givenP m b) m.start hgl hgb hs
    rw [e1, if_pos (ei.2 hs), grinds_gr (by omega)]
    have hnn : ∀ (H : List Hour) (p : List Int), (∀ h ∈ H, HourOk h) → (∀ x ∈ p, Bit x) → 0 ≤ gr H p := by
      intro H
      induction H with
      | nil => intro p _ _; simp [gr]
      | cons x H ih => intro p hh hb; cases p with
        | nil => simp [gr]
        | cons g p =>
          have := ih p (fun y hy => hh y (by simp [hy])) fun y hy => hb y (by simp [hy])
          obtain ⟨_, _, _, _⟩ := hh x (by simp)
          rw [gr]
          rcases hb g (by simp) with rfl | rfl <;> omega
    refine ⟨rfl, hnn _ _ hho hgb, hv.1, fun he i hi hj hn => ?_⟩
    have hl : (B m m.hours m.start).length = (givenP m b).length := by rw [B_length, hgl]
    rcases lx_or hl with h | h | h
    · rw [h] at hn; exact absurd rfl hn
    · exact lx_first h i (by omega) hj hn
    · have := hv.2 h
      simp only at he
      omega
end Go.Px.Try

/-! LwProved -/
namespace Go.Px.Try
open Go Go.Proofs Go.Px

set_option maxRecDepth 100000 in
set_option maxHeartbeats 16000000 in
theorem StoneProved_spec (m : Mill) (b : Nat) (t : List (List Int)) (hb : b < 65536) (ht : t.length ≤ 9223372036854775807) : Fn Try.prog 10 [millD m, u16 b, tableD t] (bool true) := by
  have hw := Works_spec
  have hf := fine_spec m
  have hwt := wide_spec t ht
  by_cases h1 : m.hours.length ≤ 16 ∧ checkMill m = 0
  case neg =>
    rw [decide_eq_false h1] at hf
    refine Fn.of_ex (cuts := []) tys hM Try.func10 rfl Try.call10 rfl ?_
    show exC Try.prog T [] _ false none 0 (entry 130 [millD m, u16 b, tableD t]) (finQ T [ResultVar.tmp 6] _)
    conv => whnf
    repeat' first
      | (refine Ob.a ?_; conv => whnf)
      | (refine Sp.tt ?_; conv => whnf)
      | (refine Sp.ff ?_; conv => whnf)
      | (refine Sp.yes ?_; conv => whnf)
      | (refine Sp.no ?_; conv => whnf)
      | (refine Sp.nyes ?_; conv => whnf)
      | (refine Sp.nno ?_; conv => whnf)
      | (refine Sp.ne (fun hc => ?_) (fun hc => ?_) <;> (conv => whnf))
      | (refine Sp.dec (fun hc => ?_) (fun hc => ?_) <;> (conv => whnf))
      | (refine Sp.ndec (fun hc => ?_) (fun hc => ?_) <;> (conv => whnf))
      | (refine Sp.mk (fun hc => ?_) (fun hc => ?_) <;> (conv => whnf))
      | (apply Cl.go; (conv => whnf); (first | refine Ob.call (hf) ?_ | refine Ob.call (hwt) ?_ | refine Ob.call (hw) ?_); (conv => whnf))
      | (refine Nx.mk (fun ka kb kx hx hs => ?_) (fun he => ?_) <;> (conv => whnf))
      | (refine Nx.mk (fun ka kx hx hs => ?_) (fun he => ?_) <;> (conv => whnf))
      | (refine Uk.mk (fun hn => ?_) ?_ <;> (conv => whnf))
      | (refine Fi.a ?_; conv => whnf)
      | (refine Yl.a ?_ ?_ <;> (conv => whnf))
      | (refine Ob.b ?_; conv => whnf)
    all_goals exact Lf
  rw [decide_eq_true h1] at hf
  by_cases h2 : isWide t
  · rw [decide_eq_true h2] at hwt
    refine Fn.of_ex (cuts := []) tys hM Try.func10 rfl Try.call10 rfl ?_
    show exC Try.prog T [] _ false none 0 (entry 130 [millD m, u16 b, tableD t]) (finQ T [ResultVar.tmp 6] _)
    conv => whnf
    repeat' first
      | (refine Ob.a ?_; conv => whnf)
      | (refine Sp.tt ?_; conv => whnf)
      | (refine Sp.ff ?_; conv => whnf)
      | (refine Sp.yes ?_; conv => whnf)
      | (refine Sp.no ?_; conv => whnf)
      | (refine Sp.nyes ?_; conv => whnf)
      | (refine Sp.nno ?_; conv => whnf)
      | (refine Sp.ne (fun hc => ?_) (fun hc => ?_) <;> (conv => whnf))
      | (refine Sp.dec (fun hc => ?_) (fun hc => ?_) <;> (conv => whnf))
      | (refine Sp.ndec (fun hc => ?_) (fun hc => ?_) <;> (conv => whnf))
      | (refine Sp.mk (fun hc => ?_) (fun hc => ?_) <;> (conv => whnf))
      | (apply Cl.go; (conv => whnf); (first | refine Ob.call (hf) ?_ | refine Ob.call (hwt) ?_ | refine Ob.call (hw) ?_); (conv => whnf))
      | (refine Nx.mk (fun ka kb kx hx hs => ?_) (fun he => ?_) <;> (conv => whnf))
      | (refine Nx.mk (fun ka kx hx hs => ?_) (fun he => ?_) <;> (conv => whnf))
      | (refine Uk.mk (fun hn => ?_) ?_ <;> (conv => whnf))
      | (refine Fi.a ?_; conv => whnf)
      | (refine Yl.a ?_ ?_ <;> (conv => whnf))
      | (refine Ob.b ?_; conv => whnf)
    all_goals exact Lf
  rw [decide_eq_false h2] at hwt
  have hm := h1.2
  obtain ⟨t1, t2⟩ := notWide h2
  obtain ⟨⟨hn1, hn12⟩, hk, hho⟩ := checkMill_zero hm
  have hl : m.hours.length < 1000000 := by omega
  have hgl : (givenP m b).length = m.hours.length := gvGo_length ..
  have a0 := most_spec m hm
  have a1 := Given_spec m b hm
  have a2 := CheckPlanPr_spec m (givenP m b) hl (by omega)
  have a3 := CheckTableP_spec m t hl (by omega) fun r hr => by have := t2 r hr; omega
  have a4 := PlanP_spec m hl
  obtain ⟨g1, g2⟩ := given_facts hm b
  have hct := fun hc => checkTable_ge (t := t) hm hc
  unfold mostN at a0
  unfold planP at a4
  rw [if_neg (by omega)] at a4
  by_cases hc : Cool m m.hours
  case neg =>
    rw [if_neg hc, decide_eq_false hc] at a0
    rw [g1 hc] at a2
    generalize givenP m b = g at *
    refine Fn.of_ex (cuts := []) tys hM Try.func10 rfl Try.call10 rfl ?_
    show exC Try.prog T [] _ false none 0 (entry 130 [millD m, u16 b, tableD t]) (finQ T [ResultVar.tmp 6] _)
    conv => whnf
    repeat' first
      | (refine Ob.a ?_; conv => whnf)
      | (refine Sp.tt ?_; conv => whnf)
      | (refine Sp.ff ?_; conv => whnf)
      | (refine Sp.yes ?_; conv => whnf)
      | (refine Sp.no ?_; conv => whnf)
      | (refine Sp.nyes ?_; conv => whnf)
      | (refine Sp.nno ?_; conv => whnf)
      | (refine Sp.ne (fun hc => ?_) (fun hc => ?_) <;> (conv => whnf))
      | (refine Sp.dec (fun hc => ?_) (fun hc => ?_) <;> (conv => whnf))
      | (refine Sp.ndec (fun hc => ?_) (fun hc => ?_) <;> (conv => whnf))
      | (refine Sp.mk (fun hc => ?_) (fun hc => ?_) <;> (conv => whnf))
      | (apply Cl.go; (conv => whnf); (first | refine Ob.call (hf) ?_ | refine Ob.call (hwt) ?_ | refine Ob.call (hw) ?_ | refine Ob.call (a0) ?_ | refine Ob.call (a1) ?_ | refine Ob.call (a2) ?_); (conv => whnf))
      | (refine Nx.mk (fun ka kb kx hx hs => ?_) (fun he => ?_) <;> (conv => whnf))
      | (refine Nx.mk (fun ka kx hx hs => ?_) (fun he => ?_) <;> (conv => whnf))
      | (refine Uk.mk (fun hn => ?_) ?_ <;> (conv => whnf))
      | (refine Fi.a ?_; conv => whnf)
      | (refine Yl.a ?_ ?_ <;> (conv => whnf))
      | (refine Ob.b ?_; conv => whnf)
    all_goals exact Lf
  rw [if_pos hc, decide_eq_true hc] at a0
  rw [if_pos hc] at a4
  obtain ⟨q1, q2, q3, q4⟩ := g2 hc
  have q5 := hct hc
  have hB := B_length m m.hours m.start
  have hrng := checkTableR_rng m t
  rw [q1] at a2
  clear g1 g2 hct
  generalize (checkPlanR m (givenP m b)).1 = a at *
  generalize givenP m b = g at *
  generalize B m m.hours m.start = p at *
  generalize V m m.hours m.start = v at *
  generalize checkTableR m t = r at *
  obtain ⟨r1, r2⟩ := r
  simp only at q5 hrng a3
  have k1 : ¬ v < a := by omega
  have k2 : ¬ a < 0 := by omega
  have k3 : r2 = 0 → ¬ r1 < v := fun h => by have := q5 h; omega
  have k4 : r2 = 0 → ¬ r1 < a := fun h => by have := q5 h; omega
  have hgp : (((p, (0 : Int)).1.length : Nat) : Int) = g.length := by show (p.length : Int) = _; omega
  by_cases hav : a < v
  · refine Fn.of_ex (cuts := []) tys hM Try.func10 rfl Try.call10 rfl ?_
    show exC Try.prog T [] _ false none 0 (entry 130 [millD m, u16 b, tableD t]) (finQ T [ResultVar.tmp 6] _)
    conv => whnf
    repeat' first
      | (refine Ob.a ?_; conv => whnf)
      | (refine Sp.tt ?_; conv => whnf)
      | (refine Sp.ff ?_; conv => whnf)
      | (refine Sp.yes ?_; conv => whnf)
      | (refine Sp.no ?_; conv => whnf)
      | (refine Sp.nyes ?_; conv => whnf)
      | (refine Sp.nno ?_; conv => whnf)
      | (refine Sp.ne (fun hc => ?_) (fun hc => ?_) <;> (conv => whnf))
      | (refine Sp.dec (fun hc => ?_) (fun hc => ?_) <;> (conv => whnf))
      | (refine Sp.ndec (fun hc => ?_) (fun hc => ?_) <;> (conv => whnf))
      | (refine Sp.mk (fun hc => ?_) (fun hc => ?_) <;> (conv => whnf))
      | (apply Cl.go; (conv => whnf); (first | refine Ob.call (hf) ?_ | refine Ob.call (hwt) ?_ | refine Ob.call (hw) ?_ | refine Ob.call (a0) ?_ | refine Ob.call (a1) ?_ | refine Ob.call (a2) ?_ | refine Ob.call (a3) ?_ | refine Ob.call (a4) ?_); (conv => whnf))
      | (refine Nx.mk (fun ka kb kx hx hs => ?_) (fun he => ?_) <;> (conv => whnf))
      | (refine Nx.mk (fun ka kx hx hs => ?_) (fun he => ?_) <;> (conv => whnf))
      | (refine Uk.mk (fun hn => ?_) ?_ <;> (conv => whnf))
      | (refine Fi.a ?_; conv => whnf)
      | (refine Yl.a ?_ ?_ <;> (conv => whnf))
      | (refine Ob.b ?_; conv => whnf)
    all_goals exact Lf
  by_cases hr2 : r2 = 0
  · have e0 : a = v := by omega
    have q5 := q4 e0
    refine Fn.of_ex (cuts := []) tys hM Try.func10 rfl Try.call10 rfl ?_
    show exC Try.prog T [] _ false none 0 (entry 130 [millD m, u16 b, tableD t]) (finQ T [ResultVar.tmp 6] _)
    conv => whnf
    repeat' first
      | (refine Ob.a ?_; conv => whnf)
      | (refine Sp.tt ?_; conv => whnf)
      | (refine Sp.ff ?_; conv => whnf)
      | (refine Sp.yes ?_; conv => whnf)
      | (refine Sp.no ?_; conv => whnf)
      | (refine Sp.nyes ?_; conv => whnf)
      | (refine Sp.nno ?_; conv => whnf)
      | (refine Sp.ne (fun hc => ?_) (fun hc => ?_) <;> (conv => whnf))
      | (refine Sp.dec (fun hc => ?_) (fun hc => ?_) <;> (conv => whnf))
      | (refine Sp.ndec (fun hc => ?_) (fun hc => ?_) <;> (conv => whnf))
      | (refine Sp.mk (fun hc => ?_) (fun hc => ?_) <;> (conv => whnf))
      | (apply Cl.go; (conv => whnf); (first | refine Ob.call (hf) ?_ | refine Ob.call (hwt) ?_ | refine Ob.call (hw) ?_ | refine Ob.call (a0) ?_ | refine Ob.call (a1) ?_ | refine Ob.call (a2) ?_ | refine Ob.call (a3) ?_ | refine Ob.call (a4) ?_); (conv => whnf))
      | (refine Nx.mk (fun ka kb kx hx hs => ?_) (fun he => ?_) <;> (conv => whnf))
      | (refine Nx.mk (fun ka kx hx hs => ?_) (fun he => ?_) <;> (conv => whnf))
      | (refine Uk.mk (fun hn => ?_) ?_ <;> (conv => whnf))
      | (refine Fi.a ?_; conv => whnf)
      | (refine Yl.a ?_ ?_ <;> (conv => whnf))
      | (refine Ob.b ?_; conv => whnf)
    refine Lp.snap [0, 1, 2, 10, 15, 129] 100 ?_
    (conv => whnf)
    refine LpB.go 130 ({i : Int // (0 ≤ i ∧ i ≤ m.hours.length) ∧ ∀ j : Nat, (j : Int) < i → g.getD j 0 = p.getD j 0}) 0 (fun ⟨i, _⟩ nx => ([(16, .d (int i))], [])) (fun p => (m.hours.length - p.1).toNat) (⟨0, ⟨by omega, by omega⟩, fun j hj => by omega⟩) ?_ ?_
    · rintro ⟨i, ⟨i0, i1⟩, hag⟩
      have h5 : i < g.length → ¬ g.getD i.toNat 0 = p.getD i.toNat 0 → p.getD i.toNat 0 < g.getD i.toNat 0 := fun hl => q5 i.toNat (by omega) fun j hj => hag j (by omega)
      have h6 : i < g.length → ¬ g.getD i.toNat 0 = (p, (0 : Int)).1.getD i.toNat 0 → (p, (0 : Int)).1.getD i.toNat 0 < g.getD i.toNat 0 := h5
      conv => whnf
      repeat' first
        | (refine Ob.a ?_; conv => whnf)
        | (refine Sp.tt ?_; conv => whnf)
        | (refine Sp.ff ?_; conv => whnf)
        | (refine Sp.yes ?_; conv => whnf)
        | (refine Sp.no ?_; conv => whnf)
        | (refine Sp.nyes ?_; conv => whnf)
        | (refine Sp.nno ?_; conv => whnf)
        | (refine Sp.ne (fun hc => ?_) (fun hc => ?_) <;> (conv => whnf))
        | (refine Sp.dec (fun hc => ?_) (fun hc => ?_) <;> (conv => whnf))
        | (refine Sp.ndec (fun hc => ?_) (fun hc => ?_) <;> (conv => whnf))
        | (refine Sp.mk (fun hc => ?_) (fun hc => ?_) <;> (conv => whnf))
        | (apply Cl.go; (conv => whnf); (first | refine Ob.call (hw) ?_); (conv => whnf))
        | (refine Nx.mk (fun ka kb kx hx hs => ?_) (fun he => ?_) <;> (conv => whnf))
        | (refine Nx.mk (fun ka kx hx hs => ?_) (fun he => ?_) <;> (conv => whnf))
        | (refine Uk.mk (fun hn => ?_) ?_ <;> (conv => whnf))
        | (refine Fi.a ?_; conv => whnf)
        | (refine Yl.a ?_ ?_ <;> (conv => whnf))
        | (refine Ob.b ?_; conv => whnf)
      · exact Lf
      · refine ⟨rfl, ⟨i + 1, ⟨by omega, by omega⟩, fun j hj => ?_⟩, Lf, by simp only; omega⟩
        by_cases e : (j : Int) < i
        · exact hag j e
        · have : j = i.toNat := by omega
          subst this; assumption
      · exact Lf
    · exact Lf
  · have e0 : a = v := by omega
    have q5 := q4 e0
    refine Fn.of_ex (cuts := []) tys hM Try.func10 rfl Try.call10 rfl ?_
    show exC Try.prog T [] _ false none 0 (entry 130 [millD m, u16 b, tableD t]) (finQ T [ResultVar.tmp 6] _)
    conv => whnf
    repeat' first
      | (refine Ob.a ?_; conv => whnf)
      | (refine Sp.tt ?_; conv => whnf)
      | (refine Sp.ff ?_; conv => whnf)
      | (refine Sp.yes ?_; conv => whnf)
      | (refine Sp.no ?_; conv => whnf)
      | (refine Sp.nyes ?_; conv => whnf)
      | (refine Sp.nno ?_; conv => whnf)
      | (refine Sp.ne (fun hc => ?_) (fun hc => ?_) <;> (conv => whnf))
      | (refine Sp.dec (fun hc => ?_) (fun hc => ?_) <;> (conv => whnf))
      | (refine Sp.ndec (fun hc => ?_) (fun hc => ?_) <;> (conv => whnf))
      | (refine Sp.mk (fun hc => ?_) (fun hc => ?_) <;> (conv => whnf))
      | (apply Cl.go; (conv => whnf); (first | refine Ob.call (hf) ?_ | refine Ob.call (hwt) ?_ | refine Ob.call (hw) ?_ | refine Ob.call (a0) ?_ | refine Ob.call (a1) ?_ | refine Ob.call (a2) ?_ | refine Ob.call (a3) ?_ | refine Ob.call (a4) ?_); (conv => whnf))
      | (refine Nx.mk (fun ka kb kx hx hs => ?_) (fun he => ?_) <;> (conv => whnf))
      | (refine Nx.mk (fun ka kx hx hs => ?_) (fun he => ?_) <;> (conv => whnf))
      | (refine Uk.mk (fun hn => ?_) ?_ <;> (conv => whnf))
      | (refine Fi.a ?_; conv => whnf)
      | (refine Yl.a ?_ ?_ <;> (conv => whnf))
      | (refine Ob.b ?_; conv => whnf)
    refine Lp.snap [0, 1, 2, 10, 15, 129] 100 ?_
    (conv => whnf)
    refine LpB.go 130 ({i : Int // (0 ≤ i ∧ i ≤ m.hours.length) ∧ ∀ j : Nat, (j : Int) < i → g.getD j 0 = p.getD j 0}) 0 (fun ⟨i, _⟩ nx => ([(16, .d (int i))], [])) (fun p => (m.hours.length - p.1).toNat) (⟨0, ⟨by omega, by omega⟩, fun j hj => by omega⟩) ?_ ?_
    · rintro ⟨i, ⟨i0, i1⟩, hag⟩
      have h5 : i < g.length → ¬ g.getD i.toNat 0 = p.getD i.toNat 0 → p.getD i.toNat 0 < g.getD i.toNat 0 := fun hl => q5 i.toNat (by omega) fun j hj => hag j (by omega)
      have h6 : i < g.length → ¬ g.getD i.toNat 0 = (p, (0 : Int)).1.getD i.toNat 0 → (p, (0 : Int)).1.getD i.toNat 0 < g.getD i.toNat 0 := h5
      conv => whnf
      repeat' first
        | (refine Ob.a ?_; conv => whnf)
        | (refine Sp.tt ?_; conv => whnf)
        | (refine Sp.ff ?_; conv => whnf)
        | (refine Sp.yes ?_; conv => whnf)
        | (refine Sp.no ?_; conv => whnf)
        | (refine Sp.nyes ?_; conv => whnf)
        | (refine Sp.nno ?_; conv => whnf)
        | (refine Sp.ne (fun hc => ?_) (fun hc => ?_) <;> (conv => whnf))
        | (refine Sp.dec (fun hc => ?_) (fun hc => ?_) <;> (conv => whnf))
        | (refine Sp.ndec (fun hc => ?_) (fun hc => ?_) <;> (conv => whnf))
        | (refine Sp.mk (fun hc => ?_) (fun hc => ?_) <;> (conv => whnf))
        | (apply Cl.go; (conv => whnf); (first | refine Ob.call (hw) ?_); (conv => whnf))
        | (refine Nx.mk (fun ka kb kx hx hs => ?_) (fun he => ?_) <;> (conv => whnf))
        | (refine Nx.mk (fun ka kx hx hs => ?_) (fun he => ?_) <;> (conv => whnf))
        | (refine Uk.mk (fun hn => ?_) ?_ <;> (conv => whnf))
        | (refine Fi.a ?_; conv => whnf)
        | (refine Yl.a ?_ ?_ <;> (conv => whnf))
        | (refine Ob.b ?_; conv => whnf)
      · exact Lf
      · refine ⟨rfl, ⟨i + 1, ⟨by omega, by omega⟩, fun j hj => ?_⟩, Lf, by simp only; omega⟩
        by_cases e : (j : Int) < i
        · exact hag j e
        · have : j = i.toNat := by omega
          subst this; assumption
      · exact Lf
    · exact Lf
end Go.Px.Try

/-! FrS2 -/
namespace Go.Px.Try
open Go Go.Proofs Go.Px

set_option maxRecDepth 100000 in
theorem u16_arg {H : Type} {enc : TypeId × Value → H} {w : World} {base : Nat} {v : Value} {d : DataW H} {ps : List MemPlace} (ht : DataW.Trod enc Try.prog w 0 (fun _ => true) true 48 v d ps) (hv : Value.okWide Try.prog w .any base 48 v) :
    ∃ n : Nat, n < 65536 ∧ Rep (All w) w (u16 n) v := by
  obtain ⟨n, hg, hc⟩ := Opn.arg (Opn.int (q := false) Try.underlying48) ht fun h => by cases h
  obtain ⟨k, rfl⟩ := Go.WideShapes.okWide_int Try.underlying48 hv
  have hr := hc.one rfl
  simp only [Lit.wf, IntKind.min, IntKind.max, Bool.and_eq_true, decide_eq_true_eq] at hg
  have hn : n = (n.toNat : Int) := by have := hg.1; simp [IntKind.signed] at this; omega
  refine ⟨n.toNat, by have := hg.2; simp [IntKind.signed, IntKind.bits] at this; omega, ?_⟩
  rw [hn] at hr; exact hr
set_option maxRecDepth 100000 in
theorem u8_arg {H : Type} {enc : TypeId × Value → H} {w : World} {base : Nat} {v : Value} {d : DataW H} {ps : List MemPlace} (ht : DataW.Trod enc Try.prog w 0 (fun _ => true) true 5 v d ps) (hv : Value.okWide Try.prog w .any base 5 v) :
    ∃ n : Nat, n < 256 ∧ Rep (All w) w (u8 n) v := by
  obtain ⟨n, hg, hc⟩ := Opn.arg (Opn.int (q := false) Try.underlying5) ht fun h => by cases h
  obtain ⟨k, rfl⟩ := Go.WideShapes.okWide_int Try.underlying5 hv
  have hr := hc.one rfl
  simp only [Lit.wf, IntKind.min, IntKind.max, Bool.and_eq_true, decide_eq_true_eq] at hg
  have hn : n = (n.toNat : Int) := by have := hg.1; simp [IntKind.signed] at this; omega
  refine ⟨n.toNat, by have := hg.2; simp [IntKind.signed, IntKind.bits] at this; omega, ?_⟩
  rw [hn] at hr; exact hr
end Go.Px.Try

/-! Law4 -/
namespace Go.Px.Try
open Go Go.Proofs Go.Px

def hotH (more : Int) (h : Hour) : Hour := ⟨h.lo, h.hi + more, h.pounds⟩
def hotM (m : Mill) (more : Int) : Mill := { m with hours := m.hours.map (hotH more) }
def hotU (s l g f i : Int) (nx : Nat) : List Hour → List (Nat × AV) × List (Nat × Res)
  | [] => ([(6, .d (int i))], [(3, .cs true 5 (nthL [.d (int s), .d (int l), .d (int g), .d (int f), .d (.v (.slice none 0 0))]))])
  | y :: o => ([(6, .d (int i))], [(3, .cs true 5 (nthL [.d (int s), .d (int l), .d (int g), .d (int f), .ms nx 3 0 (y :: o).length])), (nx, .row true 73 3 (y :: o).length (rowOf hourD default (y :: o)))])

set_option maxHeartbeats 4000000 in
theorem hotter_spec (m : Mill) (more : Int) (hl : m.hours.length < 1000000) (hb : ∀ h ∈ m.hours, -1000 ≤ h.hi ∧ h.hi ≤ 1000) (hm : -1000 ≤ more ∧ more ≤ 1000) : Fn Try.prog 44 [millD m, int more] (millD (hotM m more)) := by
  have eMil : millD (hotM m more) = st [int m.start, int m.limit, int m.gain, int m.fall, slOf 3 hourD default (m.hours.map (hotH more))] := rfl
  rw [eMil]
  generalize hr : m.hours.map (hotH more) = r
  refine Fn.of_ex (cuts := []) tys hM Try.func44 rfl Try.call44 rfl ?_
  show exC Try.prog T [] _ false none 0 (entry 40 [millD m, int more]) (finQ T [ResultVar.cell 4 24] _)
  conv => whnf
  repeat' first
    | (refine Ob.a ?_; conv => whnf)
    | (refine Sp.tt ?_; conv => whnf)
    | (refine Sp.ff ?_; conv => whnf)
    | (refine Sp.yes ?_; conv => whnf)
    | (refine Sp.no ?_; conv => whnf)
    | (refine Sp.nyes ?_; conv => whnf)
    | (refine Sp.nno ?_; conv => whnf)
    | (refine Sp.ne (fun hc => ?_) (fun hc => ?_) <;> (conv => whnf))
    | (refine Sp.dec (fun hc => ?_) (fun hc => ?_) <;> (conv => whnf))
    | (refine Sp.ndec (fun hc => ?_) (fun hc => ?_) <;> (conv => whnf))
    | (refine Sp.mk (fun hc => ?_) (fun hc => ?_) <;> (conv => whnf))
    | (refine Nx.mk (fun ka kb kx hx hs => ?_) (fun he => ?_) <;> (conv => whnf))
    | (refine Nx.mk (fun ka kx hx hs => ?_) (fun he => ?_) <;> (conv => whnf))
    | (refine Uk.mk (fun hn => ?_) ?_ <;> (conv => whnf))
    | (refine Fi.a ?_; conv => whnf)
    | (refine Yl.a ?_ ?_ <;> (conv => whnf))
    | (refine Ob.b ?_; conv => whnf)
  refine Lp.snap [0, 1, 2, 4, 5, 39] 40 ?_
  (conv => whnf)
  refine LpB.go 40 ({p : Int × List Hour // (0 ≤ p.1 ∧ p.1 ≤ m.hours.length) ∧ p.2 ++ (m.hours.drop p.1.toNat).map (hotH more) = r ∧ p.2.length = p.1}) 1 (fun ⟨(i, o), _⟩ nx => hotU m.start m.limit m.gain m.fall i nx o) (fun p => (m.hours.length - p.1.1).toNat) (⟨(0, []), ⟨by simp, by simp only; omega⟩, hr, by simp⟩) ?_ ?_ (hl := by rintro ⟨⟨i, o⟩, _⟩; cases o <;> rfl)
  · rintro ⟨⟨i, o⟩, ⟨hi0, hi⟩, hinv, hol⟩
    simp only at hi0 hi hinv hol
    have hx : i < m.hours.length → -1000 ≤ (m.hours.getD i.toNat default).hi ∧ (m.hours.getD i.toNat default).hi ≤ 1000 := fun hlt => hb _ (getD_mem (i := i.toNat) (by omega) default)
    have hs : i < m.hours.length → (o ++ [hotH more (m.hours.getD i.toNat default)]) ++ (m.hours.drop (i + 1).toNat).map (hotH more) = r := fun hlt => by
      rw [← hinv, drop_getD default (show i.toNat < m.hours.length by omega), show (i + 1).toNat = i.toNat + 1 by omega, List.append_assoc]; rfl
    have he : ¬ i < m.hours.length → o = r := fun hn => by rw [← hinv, List.drop_eq_nil_of_le (by omega)]; simp
    cases o with
    | nil =>
      conv => whnf
      repeat' first
        | (refine Ob.a ?_; conv => whnf)
        | (refine Sp.tt ?_; conv => whnf)
        | (refine Sp.ff ?_; conv => whnf)
        | (refine Sp.yes ?_; conv => whnf)
        | (refine Sp.no ?_; conv => whnf)
        | (refine Sp.nyes ?_; conv => whnf)
        | (refine Sp.nno ?_; conv => whnf)
        | (refine Sp.ne (fun hc => ?_) (fun hc => ?_) <;> (conv => whnf))
        | (refine Sp.dec (fun hc => ?_) (fun hc => ?_) <;> (conv => whnf))
        | (refine Sp.ndec (fun hc => ?_) (fun hc => ?_) <;> (conv => whnf))
        | (refine Sp.mk (fun hc => ?_) (fun hc => ?_) <;> (conv => whnf))
        | (refine Nx.mk (fun ka kb kx hx hs => ?_) (fun he => ?_) <;> (conv => whnf))
        | (refine Nx.mk (fun ka kx hx hs => ?_) (fun he => ?_) <;> (conv => whnf))
        | (refine Uk.mk (fun hn => ?_) ?_ <;> (conv => whnf))
        | (refine Fi.a ?_; conv => whnf)
        | (refine Yl.a ?_ ?_ <;> (conv => whnf))
        | (refine Ob.b ?_; conv => whnf)
      · have e := hs (by omega)
        refine ⟨rfl, ⟨(i + 1, [hotH more (m.hours.getD i.toNat default)]), ⟨by simp only; omega, by simp only; omega⟩, e, by simp at hol ⊢; omega⟩, ?_, by simp only; omega⟩
        repeat' first | (refine Edge.fast ?_) | ((conv => whnf); first | exact True.intro | (refine And.intro ?_ ?_) | exact rfl | exact Nat.le_of_eq (Nat.zero_add _) | exact ImpS.refl _ | ((conv => arg 1; whnf); first | exact ImpS.refl _ | (refine ImpS.nil_eq ?_) | (refine ImpS.vnil_eq ?_) | (refine ImpS.row ?_) | (refine ImpS.rowN ?_ ?_) | (refine ImpS.sl_eq ?_) | (refine ImpS.expl rfl ?_)) | (refine row_snoc' ?_) | (apply row_upd) | exact cimp_none | exact cimp_same | exact List.not_mem_nil | exact DImp.refl _) | exact rfl | (refine And.intro ?_ ?_) | exact ImpS.refl _
        all_goals first | omega | refine row_first ?_
        repeat' first | (refine Edge.fast ?_) | ((conv => whnf); first | exact True.intro | (refine And.intro ?_ ?_) | exact rfl | exact Nat.le_of_eq (Nat.zero_add _) | exact ImpS.refl _ | ((conv => arg 1; whnf); first | exact ImpS.refl _ | (refine ImpS.nil_eq ?_) | (refine ImpS.vnil_eq ?_) | (refine ImpS.row ?_) | (refine ImpS.rowN ?_ ?_) | (refine ImpS.sl_eq ?_) | (refine ImpS.expl rfl ?_)) | (refine row_snoc' ?_) | (apply row_upd) | exact cimp_none | exact cimp_same | exact List.not_mem_nil | exact DImp.refl _) | exact rfl | (refine And.intro ?_ ?_) | exact ImpS.refl _
      · have e := he (by omega)
        exact Lf
    | cons y o =>
      conv => whnf
      repeat' first
        | (refine Ob.a ?_; conv => whnf)
        | (refine Sp.tt ?_; conv => whnf)
        | (refine Sp.ff ?_; conv => whnf)
        | (refine Sp.yes ?_; conv => whnf)
        | (refine Sp.no ?_; conv => whnf)
        | (refine Sp.nyes ?_; conv => whnf)
        | (refine Sp.nno ?_; conv => whnf)
        | (refine Sp.ne (fun hc => ?_) (fun hc => ?_) <;> (conv => whnf))
        | (refine Sp.dec (fun hc => ?_) (fun hc => ?_) <;> (conv => whnf))
        | (refine Sp.ndec (fun hc => ?_) (fun hc => ?_) <;> (conv => whnf))
        | (refine Sp.mk (fun hc => ?_) (fun hc => ?_) <;> (conv => whnf))
        | (refine Nx.mk (fun ka kb kx hx hs => ?_) (fun he => ?_) <;> (conv => whnf))
        | (refine Nx.mk (fun ka kx hx hs => ?_) (fun he => ?_) <;> (conv => whnf))
        | (refine Uk.mk (fun hn => ?_) ?_ <;> (conv => whnf))
        | (refine Fi.a ?_; conv => whnf)
        | (refine Yl.a ?_ ?_ <;> (conv => whnf))
        | (refine Ob.b ?_; conv => whnf)
      · have e := hs (by omega)
        refine ⟨rfl, ⟨(i + 1, y :: o ++ [hotH more (m.hours.getD i.toNat default)]), ⟨by simp only; omega, by simp only; omega⟩, e, by simp at hol ⊢; omega⟩, ?_, by simp only; omega⟩
        repeat' first | (refine Edge.fast ?_) | ((conv => whnf); first | exact True.intro | (refine And.intro ?_ ?_) | exact rfl | exact Nat.le_of_eq (Nat.zero_add _) | exact ImpS.refl _ | ((conv => arg 1; whnf); first | exact ImpS.refl _ | (refine ImpS.nil_eq ?_) | (refine ImpS.vnil_eq ?_) | (refine ImpS.row ?_) | (refine ImpS.rowN ?_ ?_) | (refine ImpS.sl_eq ?_) | (refine ImpS.expl rfl ?_)) | (refine row_snoc' ?_) | exact MImp.refl _ | exact cimp_none | exact cimp_same | exact List.not_mem_nil | exact DImp.refl _) | exact rfl | (refine And.intro ?_ ?_) | exact ImpS.refl _
        all_goals first | (simp; done) | refine row_snoc' (l := y :: o) ?_
        repeat' first | (refine Edge.fast ?_) | ((conv => whnf); first | exact True.intro | (refine And.intro ?_ ?_) | exact rfl | exact Nat.le_of_eq (Nat.zero_add _) | exact ImpS.refl _ | ((conv => arg 1; whnf); first | exact ImpS.refl _ | (refine ImpS.nil_eq ?_) | (refine ImpS.vnil_eq ?_) | (refine ImpS.row ?_) | (refine ImpS.rowN ?_ ?_) | (refine ImpS.sl_eq ?_) | (refine ImpS.expl rfl ?_)) | (refine row_snoc' ?_) | (apply row_upd) | exact cimp_none | exact cimp_same | exact List.not_mem_nil | exact DImp.refl _) | exact rfl | (refine And.intro ?_ ?_) | exact ImpS.refl _
      · have e := he (by omega)
        exact Lf
  · exact Lf
end Go.Px.Try

/-! Ma4 -/
namespace Go.Px.Try
open Go Go.Proofs Go.Px

theorem heatsGo_congr {m m' : Mill} (hg : m'.gain = m.gain) (hf : m'.fall = m.fall) (p r : List Int) : ∀ (k i : Nat) (h : Int), heatsGo m' p r k i h = heatsGo m p r k i h
  | 0, _, _ => rfl
  | k + 1, i, h => by
    have e : ∀ h r g, after m' h r g = after m h r g := fun h r g => by unfold after; rw [hg, hf]
    simp only [heatsGo, e, heatsGo_congr hg hf p r k]

theorem safe_iff {m : Mill} {p : List Int} (hl : p.length = m.hours.length) (hb : ∀ x ∈ p, Bit x) : ((safeR m p).2 = 0 ∧ (safeR m p).1 = 2) ↔ checkMill m = 0 ∧ is m p (room m) := by
  by_cases h : checkMill m = 0
  · rw [safeR_N (planError_of h hl hb), safeN]
    show ((0 : Int) = 0 ∧ (if is m p (room m) then (2 : Int) else _) = 2) ↔ _
    split
    · simp_all
    · split <;> simp_all
  · have e : planError m p = checkMill m := if_pos h
    have e2 : safeR m p = (0, checkMill m) := by rw [← e]; exact if_pos (by rw [e]; exact h)
    rw [e2]; simp [h]

theorem lim_ok {m : Mill} (hm : checkMill m = 0) {k : Int} (h0 : m.start ≤ k) (h1 : k ≤ 40) : checkMill { m with limit := k } = 0 := by
  obtain ⟨⟨a, b⟩, ⟨⟨_, _⟩, ⟨_, _⟩, hg, hf⟩, hh⟩ := checkMill_zero hm
  unfold checkMill
  rw [if_neg (by simp only; omega), if_pos ⟨⟨⟨by simp only; omega, h1⟩, ⟨by simp only; omega, h0⟩, hg, hf⟩, hh⟩]
theorem is_lim {m : Mill} {p : List Int} {k : Int} : is { m with limit := k } p (room { m with limit := k }) ↔ greatest (heatsOf m p true) ≤ k := by
  unfold is heatsOf
  rw [heatsGo_congr (m := m) (m' := { m with limit := k }) rfl rfl]; exact Iff.rfl
theorem is_hot {m : Mill} {p : List Int} {w : Int} : is (hotM m w) p (room (hotM m w)) ↔ is m p (up (room m) w) := by
  have e : room (hotM m w) = up (room m) w := by simp [room, roomOf, hotM, hotH, up, Function.comp_def]
  rw [e]
  unfold is
  rw [heatsGo_congr (m := m) (m' := hotM m w) rfl rfl]; exact Iff.rfl
theorem up_zero (r : List Int) : up r 0 = r := by simp [up]
theorem up_lim {m : Mill} {plan : List Int} (h : PlanOk m plan) {w : Int} (hi : is m plan (up (room m) w)) : w ≤ m.limit := by
  have hn : plan.length = (plan.length - 1) + 1 := by have := h.len; have := h.n1; omega
  unfold is at hi
  obtain ⟨⟨hl0, hl1⟩, _, ⟨hg, _⟩, _⟩ := h.head
  rw [greatest_le hl0, hn] at hi
  have h1 := hi (after m m.start ((up (room m) w).getD 0 0) (plan.getD 0 0)) (by simp [heatsGo])
  have h2 := after_ge (m := m) (heat := m.start) (rm := (up (room m) w).getD 0 0) (g := plan.getD 0 0) hg
  have h3 : (up (room m) w).getD 0 0 = (m.hours.getD 0 default).hi + w := by
    have hh : 0 < m.hours.length := h.n1
    unfold up room roomOf
    rw [List.getD_eq_getElem?_getD, List.getElem?_map, List.getElem?_map, List.getElem?_eq_getElem hh, List.getD_eq_getElem?_getD, List.getElem?_eq_getElem hh]
    rfl
  have h4 := h.hours _ (getD_mem h.n1 default)
  have h5 := h4.2.1.1
  omega
theorem warmGo_max {m : Mill} {p : List Int} (h : PlanOk m p) : ∀ (f w : Nat), w + f = 41 → is m p (up (room m) w) → is m p (up (room m) (warmGo m p f w : Nat)) ∧ ¬ is m p (up (room m) ((warmGo m p f w : Nat) + 1))
  | 0, w, hw, hi => by have := up_head h hi; omega
  | f + 1, w, hw, hi => by
    unfold warmGo
    split
    · rename_i h1
      exact warmGo_max h f (w + 1) (by omega) (by rw [show (((w + 1 : Nat)) : Int) = (w : Int) + 1 by omega]; exact h1)
    · rename_i h1; exact ⟨hi, h1⟩
end Go.Px.Try

/-! Ma5 -/
namespace Go.Px.Try
open Go Go.Proofs Go.Px

theorem hs_congr {m m' : Mill} (hg : m'.gain = m.gain) (hf : m'.fall = m.fall) : ∀ (R p : List Int) (h : Int), hs m' R p h = hs m R p h
  | [], _, _ => rfl
  | _ :: _, [], _ => rfl
  | r :: R, g :: p, h => by
    have e : ∀ h r g, after m' h r g = after m h r g := fun h r g => by unfold after; rw [hg, hf]
    simp only [hs, e, hs_congr hg hf R p]
theorem hs_at {m : Mill} : ∀ (i : Nat) (R p : List Int) (h : Int), p.length ≤ R.length → i < p.length → sf m R p h →
    (hs m R p h).getD i 0 ≤ m.limit ∧ sf m (R.drop (i + 1)) (p.drop (i + 1)) ((hs m R p h).getD i 0)
  | _, _, [], _, _, hi, _ => by simp at hi
  | _, [], _ :: _, _, hl, _, _ => by simp at hl
  | 0, r :: R, g :: p, h, _, _, hs0 => by
    rw [sf_cons] at hs0
    exact ⟨by simpa [hs] using hs0.1, by simpa [hs] using hs0.2⟩
  | i + 1, r :: R, g :: p, h, hl, hi, hs0 => by
    rw [sf_cons] at hs0
    have := hs_at i R p (after m h r g) (by simp at hl; omega) (by simp at hi; omega) hs0.2
    simpa [hs] using this
/-- The rest of a mill, from a heat. -/
def restM (m : Mill) (i : Nat) (heat : Int) : Mill := ⟨heat, m.limit, m.gain, m.fall, m.hours.drop i⟩
theorem restM_ok {m : Mill} (hm : checkMill m = 0) {i : Nat} (hi : i < m.hours.length) {heat : Int} (h0 : 0 ≤ heat) (h1 : heat ≤ m.limit) : checkMill (restM m i heat) = 0 := by
  obtain ⟨⟨a, b⟩, ⟨hl, ⟨_, _⟩, hg, hf⟩, hh⟩ := checkMill_zero hm
  have e : (restM m i heat).hours.length = m.hours.length - i := List.length_drop ..
  unfold checkMill
  rw [if_neg (by rw [e]; omega), if_pos ⟨⟨hl, ⟨h0, h1⟩, hg, hf⟩, fun x hx => hh x (List.mem_of_mem_drop hx)⟩]
end Go.Px.Try

/-! Ma6 -/
namespace Go.Px.Try
open Go Go.Proofs Go.Px

/-- Hour by hour a room that is no warmer, and as much to grind. -/
def HLe : List Hour → List Hour → Prop
  | [], [] => True
  | x :: H, y :: H' => (y.hi ≤ x.hi ∧ y.pounds = x.pounds) ∧ HLe H H'
  | _, _ => False
theorem HLe.refl : ∀ H, HLe H H
  | [] => trivial
  | _ :: H => ⟨⟨Int.le_refl _, rfl⟩, HLe.refl H⟩
theorem V_mono {m m' : Mill} (hl : m.limit ≤ m'.limit) (hg : m'.gain ≤ m.gain) (hf : m.fall ≤ m'.fall) : ∀ (H H' : List Hour) (h h' : Int), HLe H H' → h' ≤ h → V m H h ≤ V m' H' h'
  | [], [], _, _, _, _ => Int.le_refl _
  | x :: H, y :: H', h, h', ⟨⟨h1, h2⟩, h3⟩, hh => by
    have a0 : after m' h' y.hi 0 ≤ after m h x.hi 0 := by unfold after; rw [if_neg (by omega), if_neg (by omega)]; omega
    have a1 : after m' h' y.hi 1 ≤ after m h x.hi 1 := by unfold after; rw [if_pos rfl, if_pos rfl]; omega
    have i0 := V_mono hl hg hf H H' _ _ h3 a0
    have i1 := V_mono hl hg hf H H' _ _ h3 a1
    rw [V_step (m := m)]
    split
    · rename_i hc
      have := V_le_grind (m := m') (x := y) (H := H') (h := h') (by omega)
      omega
    · have := V_le_rest (m := m') (x := y) (H := H') (h := h')
      omega

theorem more_ok {m : Mill} (hm : checkMill m = 0) (h : m.limit < 40) : checkMill (more m) = 0 := by
  obtain ⟨⟨a, b⟩, ⟨⟨_, _⟩, ⟨_, _⟩, hg, hf⟩, hh⟩ := checkMill_zero hm
  unfold checkMill
  rw [if_neg (by simp only [more]; omega), if_pos ⟨⟨⟨by simp only [more]; omega, by simp only [more]; omega⟩, ⟨by simp only [more]; omega, by simp only [more]; omega⟩, hg, hf⟩, hh⟩]

/-- A mill with other numbers. -/
def numM (m : Mill) (s l g f : Int) : Mill := ⟨s, l, g, f, m.hours⟩
theorem numM_ok {m : Mill} (hm : checkMill m = 0) {s l g f : Int} (h : HeadOk (numM m s l g f)) : checkMill (numM m s l g f) = 0 := by
  obtain ⟨⟨a, b⟩, _, hh⟩ := checkMill_zero hm
  unfold checkMill
  rw [if_neg (by simp only [numM]; omega), if_pos ⟨h, hh⟩]
theorem cool_le {m : Mill} {l : Int} (h : m.limit ≤ l) {m' : Mill} (e : m'.limit = l) {H : List Hour} (hc : Cool m H) : Cool m' H := fun x hx => by have := hc x hx; omega
end Go.Px.Try

/-! Ma7 -/
namespace Go.Px.Try
open Go Go.Proofs Go.Px

theorem V_last {m : Mill} {x : Hour} (hx : 0 ≤ x.pounds) : ∀ (H : List Hour) (h : Int), V m H h ≤ V m (H ++ [x]) h ∧ V m (H ++ [x]) h ≤ V m H h + x.pounds
  | [], h => by
    rw [List.nil_append, V_step]
    simp only [V]
    have : ∀ (c : Prop) [Decidable c], 0 ≤ (if c then x.pounds + 0 else 0) ∧ (if c then x.pounds + 0 else 0) ≤ 0 + x.pounds := fun c _ => by split <;> omega
    exact this _
  | y :: H, h => by
    have i0 := V_last (m := m) hx H (after m h y.hi 0)
    have i1 := V_last (m := m) hx H (after m h y.hi 1)
    rw [List.cons_append, V_step (x := y) (H := H ++ [x]), V_step (x := y) (H := H)]
    split <;> split <;> omega

def timesH (t : Int) (h : Hour) : Hour := ⟨h.lo, h.hi, t * h.pounds⟩
theorem V_times {m m' : Mill} (hl : m'.limit = m.limit) (hg : m'.gain = m.gain) (hf : m'.fall = m.fall) {t : Int} (ht : 1 ≤ t) : ∀ (H : List Hour) (h : Int), V m' (H.map (timesH t)) h = t * V m H h ∧ B m' (H.map (timesH t)) h = B m H h
  | [], h => by simp [V, B]
  | x :: H, h => by
    have ea : ∀ h r g, after m' h r g = after m h r g := fun h r g => by unfold after; rw [hg, hf]
    obtain ⟨a1, b1⟩ := V_times hl hg hf ht H (after m h x.hi 0)
    obtain ⟨a2, b2⟩ := V_times hl hg hf ht H (after m h x.hi 1)
    have hc : (after m' h (timesH t x).hi 1 ≤ m'.limit ∧ V m' (H.map (timesH t)) (after m' h (timesH t x).hi 0) < (timesH t x).pounds + V m' (H.map (timesH t)) (after m' h (timesH t x).hi 1)) ↔ (after m h x.hi 1 ≤ m.limit ∧ V m H (after m h x.hi 0) < x.pounds + V m H (after m h x.hi 1)) := by
      simp only [ea, hl, timesH, a1, a2]
      rw [← Int.mul_add]
      exact and_congr_right fun _ => Int.mul_lt_mul_left (by omega)
    rw [List.map_cons, V_step, V_step (H := H), B, B]
    simp only [hc]
    split
    · simp only [ea, timesH, a2, b2]
      rw [← Int.mul_add]
      exact ⟨rfl, trivial⟩
    · simp only [ea, timesH, a1, b1]
      exact ⟨trivial, trivial⟩
theorem cool_times {m m' : Mill} (hl : m'.limit = m.limit) {t : Int} {H : List Hour} : Cool m' (H.map (timesH t)) ↔ Cool m H := by
  unfold Cool
  rw [hl]
  simp [timesH]

def lessM (m : Mill) : Mill := { m with hours := m.hours.take (m.hours.length - 1) }
theorem lessM_ok {m : Mill} (hm : checkMill m = 0) (h : 1 < m.hours.length) : checkMill (lessM m) = 0 := by
  obtain ⟨⟨a, b⟩, hk, hh⟩ := checkMill_zero hm
  have e : (lessM m).hours.length = m.hours.length - 1 := by simp [lessM]
  unfold checkMill
  rw [if_neg (by rw [e]; omega), if_pos ⟨hk, fun x hx => hh x (List.mem_of_mem_take hx)⟩]
theorem hours_last {m : Mill} (h : 1 ≤ m.hours.length) : m.hours = m.hours.take (m.hours.length - 1) ++ [m.hours.getD (m.hours.length - 1) default] := by
  have := take_succ_getD m.hours (m.hours.length - 1) default (by omega)
  rw [show m.hours.length - 1 + 1 = m.hours.length by omega, List.take_length] at this
  exact this
end Go.Px.Try

/-! Ma7b -/
namespace Go.Px.Try
open Go Go.Proofs Go.Px

def scaleM (m : Mill) (t : Int) : Mill := { m with hours := m.hours.map (timesH t) }
/-- A mill whose hours grow: the slot of the loop's number, the name of the mill's cells. -/
def bldU (sl id : Nat) (s l g f i : Int) (nx : Nat) : List Hour → List (Nat × AV) × List (Nat × Res)
  | [] => ([(sl, .d (int i))], [(id, .cs true 5 (nthL [.d (int s), .d (int l), .d (int g), .d (int f), .d (.v (.slice none 0 0))]))])
  | y :: o => ([(sl, .d (int i))], [(id, .cs true 5 (nthL [.d (int s), .d (int l), .d (int g), .d (int f), .ms nx 3 0 (y :: o).length])), (nx, .row true 73 3 (y :: o).length (rowOf hourD default (y :: o)))])

theorem planP_ok {m : Mill} (h : checkMill m = 0) : planP m = if Cool m m.hours then (B m m.hours m.start, 0) else ([], 13) := by
  unfold planP; rw [if_neg (by omega)]
theorem V_congr {m m' : Mill} (hl : m'.limit = m.limit) (hg : m'.gain = m.gain) (hf : m'.fall = m.fall) : ∀ (H : List Hour) (h : Int), V m' H h = V m H h
  | [], _ => rfl
  | x :: H, h => by
    have ea : ∀ h r g, after m' h r g = after m h r g := fun h r g => by unfold after; rw [hg, hf]
    rw [V_step, V_step (m := m)]
    simp only [ea, hl, V_congr hl hg hf H]

def u8s (l : List Nat) : DV := slOf 1 u8 0 l
end Go.Px.Try

/-! FrS3 -/
namespace Go.Px.Try
open Go Go.Proofs Go.Px

def U8 (n : Int) : Prop := (Lit.int .u8 n).wf = true
theorem U8_rng {n : Int} (h : U8 n) : 0 ≤ n ∧ n < 256 := by
  simp only [U8, Lit.wf, IntKind.min, IntKind.max, Bool.and_eq_true, decide_eq_true_eq] at h
  have h1 := h.1
  have h2 := h.2
  simp [IntKind.signed, IntKind.bits] at h1 h2
  omega
theorem opn69 : Opn true Try.prog 69 (fun l : List Int => [slOf 1 (fun n => .v (.int .u8 n)) 0 l]) (fun l => (∀ n ∈ l, U8 n) ∧ l.length ≤ maxLen) :=
  Opn.slice (k := 1) Try.underlying69 (by kernel_rfl) (by decide) (fun _ => rfl) (fun a x hx => by simp at hx; rcases hx with rfl; trivial) 0 (Opn.int (q := false) Try.underlying5)
set_option maxRecDepth 100000 in
theorem u8s_arg {H : Type} {enc : TypeId × Value → H} {w : World} {base : Nat} {v : Value} {d : DataW H} {ps : List MemPlace} (ht : DataW.Trod enc Try.prog w 0 (fun _ => true) true 69 v d ps) (hv : Value.okWide Try.prog w .any base 69 v) :
    ∃ l : List Nat, (∀ x ∈ l, x < 256) ∧ Rep (All w) w (u8s l) v := by
  have hs := plain_slice Try.underlying69 hv
  obtain ⟨a, len, cap, rfl⟩ := Go.WideShapes.okWide_slice Try.underlying69 hv
  obtain ⟨l, hg, hc⟩ := Opn.arg opn69 ht fun _ => hs
  refine ⟨l.map Int.toNat, fun x hx => ?_, ?_⟩
  · obtain ⟨y, hy, rfl⟩ := List.mem_map.1 hx
    have := U8_rng (hg.1 y hy); omega
  · have hr := hc.one rfl
    have e : u8s (l.map Int.toNat) = slOf 1 (fun n => .v (.int .u8 n)) 0 l := by
      unfold u8s slOf
      rw [List.length_map]
      congr 1
      funext i
      rw [List.getD_eq_getElem?_getD, List.getD_eq_getElem?_getD, List.getElem?_map]
      cases h : l[i]? with
      | none => rfl
      | some y =>
        have := U8_rng (hg.1 y (List.mem_of_getElem? h))
        show DV.v (.int .u8 ((y.toNat : Nat) : Int)) = .v (.int .u8 y)
        rw [Int.toNat_of_nonneg this.1]
    rw [e]; exact hr
theorem opn29 : Opn true Try.prog 29 (fun l : List Int => [slOf 1 int 0 l]) (fun l => (∀ n ∈ l, I64 n) ∧ l.length ≤ maxLen) :=
  Opn.slice (k := 1) Try.underlying29 (by kernel_rfl) (by decide) (fun _ => rfl) (fun a x hx => by simp at hx; rcases hx with rfl; trivial) 0 (Opn.int (q := false) Try.underlying2)
theorem opn29' : Opn false Try.prog 29 (fun l : List Int => [slOf 1 int 0 l]) (fun l => (∀ n ∈ l, I64 n) ∧ l.length ≤ maxLen) :=
  Opn.slice (k := 1) Try.underlying29 (by kernel_rfl) (by decide) (fun _ => rfl) (fun a x hx => by simp at hx; rcases hx with rfl; trivial) 0 (Opn.int (q := false) Try.underlying2)
theorem opn59 : Opn true Try.prog 59 (fun t : List (List Int) => [slOf 1 (fun l => elD [slOf 1 int 0 l]) [] t]) (fun t => (∀ l ∈ t, (∀ n ∈ l, I64 n) ∧ l.length ≤ maxLen) ∧ t.length ≤ maxLen) :=
  Opn.slice (k := 1) Try.underlying59 (by kernel_rfl) (by decide) (fun _ => rfl) (fun a x hx => by simp at hx; rcases hx with rfl; trivial) [] opn29'
set_option maxRecDepth 100000 in
theorem table_arg {H : Type} {enc : TypeId × Value → H} {w : World} {base : Nat} {v : Value} {d : DataW H} {ps : List MemPlace} (ht : DataW.Trod enc Try.prog w 0 (fun _ => true) true 59 v d ps) (hv : Value.okWide Try.prog w .any base 59 v) :
    ∃ t : List (List Int), t.length ≤ 9223372036854775807 ∧ Rep (All w) w (tableD t) v := by
  have hs := plain_slice Try.underlying59 hv
  obtain ⟨a, len, cap, rfl⟩ := Go.WideShapes.okWide_slice Try.underlying59 hv
  obtain ⟨l, hg, hc⟩ := Opn.arg opn59 ht fun _ => hs
  exact ⟨l, by have := hg.2; unfold maxLen at this; omega, hc.one rfl⟩
end Go.Px.Try

namespace Go.Proofs.Ytbodonldkndgjaa.stoneProvedDone
open Go.ChangeShapes Go.WideShapes Go.ChangeAt Go.RowKit
open Go.Px
open Go.Px.Try (own laidOut)

set_option maxRecDepth 100000 in
theorem lifted (os : Os) (started : os.Started) (H : Type) (enc : TypeId × Value → H) :
    ReturnsInHanded {} Try.checked os 10 .any (Rows.stoneProvedSpec.pre6 enc Try.prog Try.f10 Rows.stoneProvedRow.domain false) (Rows.stoneProvedSpec.post enc Try.prog Try.f10 false true false false) := by
  refine returnsInHanded_of_change (C := Try.checked) own started (by kernel_rfl) Try.func10
    (ChangeSpec.witness6 (enc := enc) (C := Try.checked) false ⟨#[], #[.agg #[.int .i64 0, .int .i64 0, .int .i64 0, .int .i64 0, .slice none 0 0], .int .u16 0, .slice none 0 0], []⟩ 8 (by kernel_rfl) (by kernel_rfl) (by kernel_rfl) (by kernel_rfl)) ?_
  intro W base args ds gs before hval0 hW hcnd _
  have hval : ∀ (j : Nat) t v, Try.f10.params[j]? = some t → args[j]? = some v → Value.okWide Try.prog W .any base t v := hval0
  have hW' := hW
  obtain ⟨p, q, hA0, hV, rfl, hfz, hnd⟩ := hW
  have hA : DataW.TrodAll enc Try.prog W 0 (fun _ => true) true Try.f10.params.toList args.toList ds p := hA0
  rw [Try.params10] at hA hval
  obtain ⟨v0, vs0, d0, ds0, p0, q0, hargs, rfl, rfl, h0, r0⟩ := trodAll_cons hA
  obtain ⟨v1, vs1, d1, ds1, p1, q1, rfl, rfl, rfl, h1, r1⟩ := trodAll_cons r0
  obtain ⟨v2, vs2, d2, ds2, p2, q2, rfl, rfl, rfl, h2, r2⟩ := trodAll_cons r1
  obtain ⟨rfl, rfl, rfl⟩ := trodAll_nil r2
  obtain rfl : args = #[v0, v1, v2] := by cases args; simp_all
  obtain ⟨rfl, rfl⟩ := trodVars_none hV
  have lt0 : ∀ x ∈ p0, x.block < W.heap.size := by have k := h0; obtain ⟨m, hm⟩ := k; exact DataW.trod_lt m _ _ _ hm
  obtain ⟨x0, g0, e0⟩ := Go.Px.Try.mill_arg h0 (hval 0 24 v0 rfl rfl)
  have lt1 : ∀ x ∈ p1, x.block < W.heap.size := by have k := h1; obtain ⟨m, hm⟩ := k; exact DataW.trod_lt m _ _ _ hm
  obtain ⟨x1, g1, e1⟩ := Go.Px.Try.u16_arg h1 (hval 1 48 v1 rfl rfl)
  have lt2 : ∀ x ∈ p2, x.block < W.heap.size := by have k := h2; obtain ⟨m, hm⟩ := k; exact DataW.trod_lt m _ _ _ hm
  obtain ⟨x2, g2, e2⟩ := Go.Px.Try.table_arg h2 (hval 2 59 v2 rfl rfl)
  clear hA0 hval0
  refine ((Go.Px.Try.StoneProved_spec x0 x1 x2 g1 g2).2 (All W) W [v0, v1, v2] (fun _ h => h) ⟨e0, e1, e2, trivial⟩).mono fun e W' ⟨v, S', he, hr, _, _, bel⟩ => ?_
  obtain rfl : v = .bool true := hr
  subst he
  exact ⟨_, rfl, _, _, _, [], _, [], hW', trodAll_mk1 (shut_bool Try.underlying4 _), (trodAll_cons_mk (Below.trod laidOut (by kernel_rfl) (of_decide_eq_true (by kernel_rfl)) h0 bel lt0) (trodAll_cons_mk (Below.trod laidOut (by kernel_rfl) (of_decide_eq_true (by kernel_rfl)) h1 bel lt1) (trodAll_cons_mk (Below.trod laidOut (by kernel_rfl) (of_decide_eq_true (by kernel_rfl)) h2 bel lt2) trodAll_mk0))), rfl, bel.frame _, fun h => by cases h⟩

theorem over : Rows.stoneProvedRow.holds Try.pinned (OpenSpec.ofChange Rows.stoneProvedSpec) :=
  OpenClaim.holds_of_wide 10 Try.f10 rfl rfl rfl rfl rfl rfl rfl ⟨rfl, rfl, rfl, rfl, rfl⟩ rfl rfl rfl rfl rfl (by kernel_rfl) Try.func10 (by kernel_rfl)
    (of_decide_eq_true (by kernel_rfl)) (by unfold Func.isWrapper; first | (rw [if_pos (by decide +kernel)]; kernel_rfl) | (rw [if_neg (by decide +kernel)]; exact ⟨rfl, rfl⟩))
    (fun os started H enc _ => lifted os started H enc)

theorem proved : Rows.StoneProvedSaid := over
#print axioms proved
end Go.Proofs.Ytbodonldkndgjaa.stoneProvedDone
