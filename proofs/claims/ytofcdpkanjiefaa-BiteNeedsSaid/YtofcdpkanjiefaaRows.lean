/-
  No cell of these rows narrows 'for every input' (looked for: loops, veiled, ifaces, maps, wideKeys, modest, calm, conditions, laid).
  DERIVED. THE GIVEN ROWS OF THIS SEAT. 13 by the template 'for every input the law returns true; each argument reads behind the call as it read before'; 0 by the template 'total and deterministic' (their statements: YtofcdpkanjiefaaTotals.lean).
  GIVEN WITH THE SEED: the statements are not yours to turn. If you find one false, say at which input.
  Laid BY PROGRAM, IN A SANDBOX (cutbox-rows.mjs): the forced cells as the released guide's own fill.sh prints them over the translation 2858403f2783edb2… (all of the seat's roots in one cut). By AI agents, Wed Nov 11 2026. No macro, syntax, notation, axiom, sorry.
-/
import Derived.Test.YtofcdpkanjiefaaChecked
import GoSem.Claim
import GoSem.ClaimJoined
import GoSem.ClaimMapViews
import Derived.JoinedTies
import Derived.KernelRfl
namespace Go.Proofs.Ytofcdpkanjiefaa
/- THE CELL 'sum', in the pinned program and in every row, IS THE sha256 OF THE DUMP (.gsa) THAT YtofcdpkanjiefaaProg.lean LOADS. Nothing in Lean hashes anything: it is a label: what it is worth is what the hold of that sum in a sandbox is worth. -/
noncomputable def Try.pinned : Pinned := { name := "ytofcdpkanjiefaa", sum := "2858403f2783edb2dd4c5fb600d656083ec24608556e60a6c6141ee49992046f", checked := Try.checked }
namespace Rows
def none {H : Type} : Left H := { results := [], args := [] }

/-- 'senvylaw05.BiteCurves': WHATEVER THE INPUT: true; the input reads as it did. -/
def biteCurvesSpec : ChangeSpec := { name := "biteCurves", fn := fun _ => fun
  | [d1, d2, d3, d4, d5] => { results := [.lit (.bool true)], args := [d1, d2, d3, d4, d5] }
  | _ => none }
def biteCurvesRow : OpenClaim := { program := "ytofcdpkanjiefaa", sum := "2858403f2783edb2dd4c5fb600d656083ec24608556e60a6c6141ee49992046f", func := "senvy/senvylaw05.BiteCurves", spec := "biteCurves", unfollowed := true, recurses := true, plainKeys := false, apart := false }
def BiteCurvesSaid : Prop := biteCurvesRow.holds Try.pinned (OpenSpec.ofChange biteCurvesSpec)

/-- ITS FALSE NEIGHBOUR: 'it returns false'. Refute it at one input. -/
def biteCurvesWrong : ChangeSpec := { name := "biteCurves", fn := fun _ => fun
  | [d1, d2, d3, d4, d5] => { results := [.lit (.bool false)], args := [d1, d2, d3, d4, d5] }
  | _ => none }
def BiteCurvesWrongFalsely : Prop := biteCurvesRow.holds Try.pinned (OpenSpec.ofChange biteCurvesWrong)

/-- 'senvylaw05.BiteChanges': WHATEVER THE INPUT: true; the input reads as it did. -/
def biteChangesSpec : ChangeSpec := { name := "biteChanges", fn := fun _ => fun
  | [d] => { results := [.lit (.bool true)], args := [d] }
  | _ => none }
def biteChangesRow : OpenClaim := { program := "ytofcdpkanjiefaa", sum := "2858403f2783edb2dd4c5fb600d656083ec24608556e60a6c6141ee49992046f", func := "senvy/senvylaw05.BiteChanges", spec := "biteChanges", unfollowed := true, recurses := true, plainKeys := false, apart := false }
def BiteChangesSaid : Prop := biteChangesRow.holds Try.pinned (OpenSpec.ofChange biteChangesSpec)

/-- ITS FALSE NEIGHBOUR: 'it returns false'. Refute it at one input. -/
def biteChangesWrong : ChangeSpec := { name := "biteChanges", fn := fun _ => fun
  | [d] => { results := [.lit (.bool false)], args := [d] }
  | _ => none }
def BiteChangesWrongFalsely : Prop := biteChangesRow.holds Try.pinned (OpenSpec.ofChange biteChangesWrong)

/-- 'senvylaw05.BiteValleys': WHATEVER THE INPUT: true; the input reads as it did. -/
def biteValleysSpec : ChangeSpec := { name := "biteValleys", fn := fun _ => fun
  | [d1, d2] => { results := [.lit (.bool true)], args := [d1, d2] }
  | _ => none }
def biteValleysRow : OpenClaim := { program := "ytofcdpkanjiefaa", sum := "2858403f2783edb2dd4c5fb600d656083ec24608556e60a6c6141ee49992046f", func := "senvy/senvylaw05.BiteValleys", spec := "biteValleys", unfollowed := true, recurses := true, plainKeys := false, apart := false }
def BiteValleysSaid : Prop := biteValleysRow.holds Try.pinned (OpenSpec.ofChange biteValleysSpec)

/-- ITS FALSE NEIGHBOUR: 'it returns false'. Refute it at one input. -/
def biteValleysWrong : ChangeSpec := { name := "biteValleys", fn := fun _ => fun
  | [d1, d2] => { results := [.lit (.bool false)], args := [d1, d2] }
  | _ => none }
def BiteValleysWrongFalsely : Prop := biteValleysRow.holds Try.pinned (OpenSpec.ofChange biteValleysWrong)

/-- 'senvylaw05.BiteNeeds': WHATEVER THE INPUT: true; the input reads as it did. -/
def biteNeedsSpec : ChangeSpec := { name := "biteNeeds", fn := fun _ => fun
  | [d1, d2, d3] => { results := [.lit (.bool true)], args := [d1, d2, d3] }
  | _ => none }
def biteNeedsRow : OpenClaim := { program := "ytofcdpkanjiefaa", sum := "2858403f2783edb2dd4c5fb600d656083ec24608556e60a6c6141ee49992046f", func := "senvy/senvylaw05.BiteNeeds", spec := "biteNeeds", unfollowed := true, recurses := true, plainKeys := false, apart := false }
def BiteNeedsSaid : Prop := biteNeedsRow.holds Try.pinned (OpenSpec.ofChange biteNeedsSpec)

/-- ITS FALSE NEIGHBOUR: 'it returns false'. Refute it at one input. -/
def biteNeedsWrong : ChangeSpec := { name := "biteNeeds", fn := fun _ => fun
  | [d1, d2, d3] => { results := [.lit (.bool false)], args := [d1, d2, d3] }
  | _ => none }
def BiteNeedsWrongFalsely : Prop := biteNeedsRow.holds Try.pinned (OpenSpec.ofChange biteNeedsWrong)

/-- 'senvylaw05.BiteProved': WHATEVER THE INPUT: true; the input reads as it did. -/
def biteProvedSpec : ChangeSpec := { name := "biteProved", fn := fun _ => fun
  | [d1, d2, d3, d4, d5, d6] => { results := [.lit (.bool true)], args := [d1, d2, d3, d4, d5, d6] }
  | _ => none }
def biteProvedRow : OpenClaim := { program := "ytofcdpkanjiefaa", sum := "2858403f2783edb2dd4c5fb600d656083ec24608556e60a6c6141ee49992046f", func := "senvy/senvylaw05.BiteProved", spec := "biteProved", unfollowed := true, recurses := true, plainKeys := false, apart := false }
def BiteProvedSaid : Prop := biteProvedRow.holds Try.pinned (OpenSpec.ofChange biteProvedSpec)

/-- ITS FALSE NEIGHBOUR: 'it returns false'. Refute it at one input. -/
def biteProvedWrong : ChangeSpec := { name := "biteProved", fn := fun _ => fun
  | [d1, d2, d3, d4, d5, d6] => { results := [.lit (.bool false)], args := [d1, d2, d3, d4, d5, d6] }
  | _ => none }
def BiteProvedWrongFalsely : Prop := biteProvedRow.holds Try.pinned (OpenSpec.ofChange biteProvedWrong)

/-- 'senvylaw05.BiteBoth': WHATEVER THE INPUT: true; the input reads as it did. -/
def biteBothSpec : ChangeSpec := { name := "biteBoth", fn := fun _ => fun
  | [d] => { results := [.lit (.bool true)], args := [d] }
  | _ => none }
def biteBothRow : OpenClaim := { program := "ytofcdpkanjiefaa", sum := "2858403f2783edb2dd4c5fb600d656083ec24608556e60a6c6141ee49992046f", func := "senvy/senvylaw05.BiteBoth", spec := "biteBoth", unfollowed := true, recurses := true, plainKeys := false, apart := false }
def BiteBothSaid : Prop := biteBothRow.holds Try.pinned (OpenSpec.ofChange biteBothSpec)

/-- ITS FALSE NEIGHBOUR: 'it returns false'. Refute it at one input. -/
def biteBothWrong : ChangeSpec := { name := "biteBoth", fn := fun _ => fun
  | [d] => { results := [.lit (.bool false)], args := [d] }
  | _ => none }
def BiteBothWrongFalsely : Prop := biteBothRow.holds Try.pinned (OpenSpec.ofChange biteBothWrong)

/-- 'senvylaw05.BitePeaks': WHATEVER THE INPUT: true; the input reads as it did. -/
def bitePeaksSpec : ChangeSpec := { name := "bitePeaks", fn := fun _ => fun
  | [d1, d2, d3, d4, d5] => { results := [.lit (.bool true)], args := [d1, d2, d3, d4, d5] }
  | _ => none }
def bitePeaksRow : OpenClaim := { program := "ytofcdpkanjiefaa", sum := "2858403f2783edb2dd4c5fb600d656083ec24608556e60a6c6141ee49992046f", func := "senvy/senvylaw05.BitePeaks", spec := "bitePeaks", unfollowed := true, recurses := true, plainKeys := false, apart := false }
def BitePeaksSaid : Prop := bitePeaksRow.holds Try.pinned (OpenSpec.ofChange bitePeaksSpec)

/-- ITS FALSE NEIGHBOUR: 'it returns false'. Refute it at one input. -/
def bitePeaksWrong : ChangeSpec := { name := "bitePeaks", fn := fun _ => fun
  | [d1, d2, d3, d4, d5] => { results := [.lit (.bool false)], args := [d1, d2, d3, d4, d5] }
  | _ => none }
def BitePeaksWrongFalsely : Prop := bitePeaksRow.holds Try.pinned (OpenSpec.ofChange bitePeaksWrong)

/-- 'senvylaw05.BiteTurned': WHATEVER THE INPUT: true; the input reads as it did. -/
def biteTurnedSpec : ChangeSpec := { name := "biteTurned", fn := fun _ => fun
  | [d1, d2] => { results := [.lit (.bool true)], args := [d1, d2] }
  | _ => none }
def biteTurnedRow : OpenClaim := { program := "ytofcdpkanjiefaa", sum := "2858403f2783edb2dd4c5fb600d656083ec24608556e60a6c6141ee49992046f", func := "senvy/senvylaw05.BiteTurned", spec := "biteTurned", unfollowed := true, recurses := true, plainKeys := false, apart := false }
def BiteTurnedSaid : Prop := biteTurnedRow.holds Try.pinned (OpenSpec.ofChange biteTurnedSpec)

/-- ITS FALSE NEIGHBOUR: 'it returns false'. Refute it at one input. -/
def biteTurnedWrong : ChangeSpec := { name := "biteTurned", fn := fun _ => fun
  | [d1, d2] => { results := [.lit (.bool false)], args := [d1, d2] }
  | _ => none }
def BiteTurnedWrongFalsely : Prop := biteTurnedRow.holds Try.pinned (OpenSpec.ofChange biteTurnedWrong)

/-- 'senvylaw05.BiteMoved': WHATEVER THE INPUT: true; the input reads as it did. -/
def biteMovedSpec : ChangeSpec := { name := "biteMoved", fn := fun _ => fun
  | [d1, d2, d3] => { results := [.lit (.bool true)], args := [d1, d2, d3] }
  | _ => none }
def biteMovedRow : OpenClaim := { program := "ytofcdpkanjiefaa", sum := "2858403f2783edb2dd4c5fb600d656083ec24608556e60a6c6141ee49992046f", func := "senvy/senvylaw05.BiteMoved", spec := "biteMoved", unfollowed := true, recurses := true, plainKeys := false, apart := false }
def BiteMovedSaid : Prop := biteMovedRow.holds Try.pinned (OpenSpec.ofChange biteMovedSpec)

/-- ITS FALSE NEIGHBOUR: 'it returns false'. Refute it at one input. -/
def biteMovedWrong : ChangeSpec := { name := "biteMoved", fn := fun _ => fun
  | [d1, d2, d3] => { results := [.lit (.bool false)], args := [d1, d2, d3] }
  | _ => none }
def BiteMovedWrongFalsely : Prop := biteMovedRow.holds Try.pinned (OpenSpec.ofChange biteMovedWrong)

/-- 'senvylaw05.BiteMore': WHATEVER THE INPUT: true; the input reads as it did. -/
def biteMoreSpec : ChangeSpec := { name := "biteMore", fn := fun _ => fun
  | [d1, d2, d3, d4] => { results := [.lit (.bool true)], args := [d1, d2, d3, d4] }
  | _ => none }
def biteMoreRow : OpenClaim := { program := "ytofcdpkanjiefaa", sum := "2858403f2783edb2dd4c5fb600d656083ec24608556e60a6c6141ee49992046f", func := "senvy/senvylaw05.BiteMore", spec := "biteMore", unfollowed := true, recurses := true, plainKeys := false, apart := false }
def BiteMoreSaid : Prop := biteMoreRow.holds Try.pinned (OpenSpec.ofChange biteMoreSpec)

/-- ITS FALSE NEIGHBOUR: 'it returns false'. Refute it at one input. -/
def biteMoreWrong : ChangeSpec := { name := "biteMore", fn := fun _ => fun
  | [d1, d2, d3, d4] => { results := [.lit (.bool false)], args := [d1, d2, d3, d4] }
  | _ => none }
def BiteMoreWrongFalsely : Prop := biteMoreRow.holds Try.pinned (OpenSpec.ofChange biteMoreWrong)

/-- 'senvylaw05.BiteFound': WHATEVER THE INPUT: true; the input reads as it did. -/
def biteFoundSpec : ChangeSpec := { name := "biteFound", fn := fun _ => fun
  | [d1, d2, d3] => { results := [.lit (.bool true)], args := [d1, d2, d3] }
  | _ => none }
def biteFoundRow : OpenClaim := { program := "ytofcdpkanjiefaa", sum := "2858403f2783edb2dd4c5fb600d656083ec24608556e60a6c6141ee49992046f", func := "senvy/senvylaw05.BiteFound", spec := "biteFound", unfollowed := true, recurses := true, plainKeys := false, apart := false }
def BiteFoundSaid : Prop := biteFoundRow.holds Try.pinned (OpenSpec.ofChange biteFoundSpec)

/-- ITS FALSE NEIGHBOUR: 'it returns false'. Refute it at one input. -/
def biteFoundWrong : ChangeSpec := { name := "biteFound", fn := fun _ => fun
  | [d1, d2, d3] => { results := [.lit (.bool false)], args := [d1, d2, d3] }
  | _ => none }
def BiteFoundWrongFalsely : Prop := biteFoundRow.holds Try.pinned (OpenSpec.ofChange biteFoundWrong)

/-- 'senvylaw05.BiteNeeded': WHATEVER THE INPUT: true; the input reads as it did. -/
def biteNeededSpec : ChangeSpec := { name := "biteNeeded", fn := fun _ => fun
  | [d1, d2, d3] => { results := [.lit (.bool true)], args := [d1, d2, d3] }
  | _ => none }
def biteNeededRow : OpenClaim := { program := "ytofcdpkanjiefaa", sum := "2858403f2783edb2dd4c5fb600d656083ec24608556e60a6c6141ee49992046f", func := "senvy/senvylaw05.BiteNeeded", spec := "biteNeeded", unfollowed := true, recurses := true, plainKeys := false, apart := false }
def BiteNeededSaid : Prop := biteNeededRow.holds Try.pinned (OpenSpec.ofChange biteNeededSpec)

/-- ITS FALSE NEIGHBOUR: 'it returns false'. Refute it at one input. -/
def biteNeededWrong : ChangeSpec := { name := "biteNeeded", fn := fun _ => fun
  | [d1, d2, d3] => { results := [.lit (.bool false)], args := [d1, d2, d3] }
  | _ => none }
def BiteNeededWrongFalsely : Prop := biteNeededRow.holds Try.pinned (OpenSpec.ofChange biteNeededWrong)

/-- 'senvylaw05.BiteKnown': WHATEVER THE INPUT: true; the input reads as it did. -/
def biteKnownSpec : ChangeSpec := { name := "biteKnown", fn := fun _ => fun
  | [] => { results := [.lit (.bool true)], args := [] }
  | _ => none }
def biteKnownRow : OpenClaim := { program := "ytofcdpkanjiefaa", sum := "2858403f2783edb2dd4c5fb600d656083ec24608556e60a6c6141ee49992046f", func := "senvy/senvylaw05.BiteKnown", spec := "biteKnown", unfollowed := true, recurses := true, plainKeys := false, apart := false }
def BiteKnownSaid : Prop := biteKnownRow.holds Try.pinned (OpenSpec.ofChange biteKnownSpec)

/-- ITS FALSE NEIGHBOUR: 'it returns false'. Refute it at one input. -/
def biteKnownWrong : ChangeSpec := { name := "biteKnown", fn := fun _ => fun
  | [] => { results := [.lit (.bool false)], args := [] }
  | _ => none }
def BiteKnownWrongFalsely : Prop := biteKnownRow.holds Try.pinned (OpenSpec.ofChange biteKnownWrong)

/- THE SECOND FORM. 'bulk': how many values and letters a reading holds, each counted each time it is reached (what is shared counts as often as it is met; a slice's spare places count too). A statement '..UptoSaid' is the law's where the arguments, and the package variables that the reading takes, are together of bulk at most 1048576: NARROWER than '..Said'. Prove '..Said' where nothing that the law and all that it calls make is longer than what came in: it says more and counts as full. Else prove '..UptoSaid'. A law counts once. -/
mutual
def uptoBulk {H : Type} : DataW H → Nat
  | .lit (.string bytes) => bytes.length + 1
  | .lit _ => 1
  | .nil => 1
  | .ptr d => uptoBulk d + 1
  | .slice elems spare => uptoBulkAll elems + uptoBulkAll spare + 1
  | .agg parts => uptoBulkAll parts + 1
  | .iface _ d => uptoBulk d + 1
  | .map entries => uptoBulkEntries entries + 1
  | .held _ => 1
def uptoBulkAll {H : Type} : List (DataW H) → Nat
  | [] => 0
  | d :: r => uptoBulk d + uptoBulkAll r
def uptoBulkEntries {H : Type} : List (Lit × DataW H) → Nat
  | [] => 0
  | x :: r => uptoBulkEntry x + uptoBulkEntries r
def uptoBulkEntry {H : Type} : Lit × DataW H → Nat
  | (.string bytes, d) => bytes.length + uptoBulk d + 1
  | (_, d) => uptoBulk d + 1
 end
def uptoSmall : (H : Type) → List (DataW H) → Bool := fun _ ds => decide (uptoBulkAll ds ≤ 1048576)
def OpenSpec.upto (s : _root_.Go.ChangeSpec) : _root_.Go.OpenSpec := { _root_.Go.OpenSpec.ofChange s with cond := some uptoSmall }

/-- 'senvylaw05.BiteCurves', WHERE WHAT IT READS IS OF BULK AT MOST 1048576: true; the input reads as it did. -/
def biteCurvesUptoRow : OpenClaim := { program := "ytofcdpkanjiefaa", sum := "2858403f2783edb2dd4c5fb600d656083ec24608556e60a6c6141ee49992046f", func := "senvy/senvylaw05.BiteCurves", spec := "biteCurves", unfollowed := true, recurses := true, plainKeys := false, apart := false, narrowed := true }
def BiteCurvesUptoSaid : Prop := biteCurvesUptoRow.holds Try.pinned (OpenSpec.upto biteCurvesSpec)

/-- 'senvylaw05.BiteChanges', WHERE WHAT IT READS IS OF BULK AT MOST 1048576: true; the input reads as it did. -/
def biteChangesUptoRow : OpenClaim := { program := "ytofcdpkanjiefaa", sum := "2858403f2783edb2dd4c5fb600d656083ec24608556e60a6c6141ee49992046f", func := "senvy/senvylaw05.BiteChanges", spec := "biteChanges", unfollowed := true, recurses := true, plainKeys := false, apart := false, narrowed := true }
def BiteChangesUptoSaid : Prop := biteChangesUptoRow.holds Try.pinned (OpenSpec.upto biteChangesSpec)

/-- 'senvylaw05.BiteValleys', WHERE WHAT IT READS IS OF BULK AT MOST 1048576: true; the input reads as it did. -/
def biteValleysUptoRow : OpenClaim := { program := "ytofcdpkanjiefaa", sum := "2858403f2783edb2dd4c5fb600d656083ec24608556e60a6c6141ee49992046f", func := "senvy/senvylaw05.BiteValleys", spec := "biteValleys", unfollowed := true, recurses := true, plainKeys := false, apart := false, narrowed := true }
def BiteValleysUptoSaid : Prop := biteValleysUptoRow.holds Try.pinned (OpenSpec.upto biteValleysSpec)

/-- 'senvylaw05.BiteNeeds', WHERE WHAT IT READS IS OF BULK AT MOST 1048576: true; the input reads as it did. -/
def biteNeedsUptoRow : OpenClaim := { program := "ytofcdpkanjiefaa", sum := "2858403f2783edb2dd4c5fb600d656083ec24608556e60a6c6141ee49992046f", func := "senvy/senvylaw05.BiteNeeds", spec := "biteNeeds", unfollowed := true, recurses := true, plainKeys := false, apart := false, narrowed := true }
def BiteNeedsUptoSaid : Prop := biteNeedsUptoRow.holds Try.pinned (OpenSpec.upto biteNeedsSpec)

/-- 'senvylaw05.BiteProved', WHERE WHAT IT READS IS OF BULK AT MOST 1048576: true; the input reads as it did. -/
def biteProvedUptoRow : OpenClaim := { program := "ytofcdpkanjiefaa", sum := "2858403f2783edb2dd4c5fb600d656083ec24608556e60a6c6141ee49992046f", func := "senvy/senvylaw05.BiteProved", spec := "biteProved", unfollowed := true, recurses := true, plainKeys := false, apart := false, narrowed := true }
def BiteProvedUptoSaid : Prop := biteProvedUptoRow.holds Try.pinned (OpenSpec.upto biteProvedSpec)

/-- 'senvylaw05.BiteBoth', WHERE WHAT IT READS IS OF BULK AT MOST 1048576: true; the input reads as it did. -/
def biteBothUptoRow : OpenClaim := { program := "ytofcdpkanjiefaa", sum := "2858403f2783edb2dd4c5fb600d656083ec24608556e60a6c6141ee49992046f", func := "senvy/senvylaw05.BiteBoth", spec := "biteBoth", unfollowed := true, recurses := true, plainKeys := false, apart := false, narrowed := true }
def BiteBothUptoSaid : Prop := biteBothUptoRow.holds Try.pinned (OpenSpec.upto biteBothSpec)

/-- 'senvylaw05.BitePeaks', WHERE WHAT IT READS IS OF BULK AT MOST 1048576: true; the input reads as it did. -/
def bitePeaksUptoRow : OpenClaim := { program := "ytofcdpkanjiefaa", sum := "2858403f2783edb2dd4c5fb600d656083ec24608556e60a6c6141ee49992046f", func := "senvy/senvylaw05.BitePeaks", spec := "bitePeaks", unfollowed := true, recurses := true, plainKeys := false, apart := false, narrowed := true }
def BitePeaksUptoSaid : Prop := bitePeaksUptoRow.holds Try.pinned (OpenSpec.upto bitePeaksSpec)

/-- 'senvylaw05.BiteTurned', WHERE WHAT IT READS IS OF BULK AT MOST 1048576: true; the input reads as it did. -/
def biteTurnedUptoRow : OpenClaim := { program := "ytofcdpkanjiefaa", sum := "2858403f2783edb2dd4c5fb600d656083ec24608556e60a6c6141ee49992046f", func := "senvy/senvylaw05.BiteTurned", spec := "biteTurned", unfollowed := true, recurses := true, plainKeys := false, apart := false, narrowed := true }
def BiteTurnedUptoSaid : Prop := biteTurnedUptoRow.holds Try.pinned (OpenSpec.upto biteTurnedSpec)

/-- 'senvylaw05.BiteMoved', WHERE WHAT IT READS IS OF BULK AT MOST 1048576: true; the input reads as it did. -/
def biteMovedUptoRow : OpenClaim := { program := "ytofcdpkanjiefaa", sum := "2858403f2783edb2dd4c5fb600d656083ec24608556e60a6c6141ee49992046f", func := "senvy/senvylaw05.BiteMoved", spec := "biteMoved", unfollowed := true, recurses := true, plainKeys := false, apart := false, narrowed := true }
def BiteMovedUptoSaid : Prop := biteMovedUptoRow.holds Try.pinned (OpenSpec.upto biteMovedSpec)

/-- 'senvylaw05.BiteMore', WHERE WHAT IT READS IS OF BULK AT MOST 1048576: true; the input reads as it did. -/
def biteMoreUptoRow : OpenClaim := { program := "ytofcdpkanjiefaa", sum := "2858403f2783edb2dd4c5fb600d656083ec24608556e60a6c6141ee49992046f", func := "senvy/senvylaw05.BiteMore", spec := "biteMore", unfollowed := true, recurses := true, plainKeys := false, apart := false, narrowed := true }
def BiteMoreUptoSaid : Prop := biteMoreUptoRow.holds Try.pinned (OpenSpec.upto biteMoreSpec)

/-- 'senvylaw05.BiteFound', WHERE WHAT IT READS IS OF BULK AT MOST 1048576: true; the input reads as it did. -/
def biteFoundUptoRow : OpenClaim := { program := "ytofcdpkanjiefaa", sum := "2858403f2783edb2dd4c5fb600d656083ec24608556e60a6c6141ee49992046f", func := "senvy/senvylaw05.BiteFound", spec := "biteFound", unfollowed := true, recurses := true, plainKeys := false, apart := false, narrowed := true }
def BiteFoundUptoSaid : Prop := biteFoundUptoRow.holds Try.pinned (OpenSpec.upto biteFoundSpec)

/-- 'senvylaw05.BiteNeeded', WHERE WHAT IT READS IS OF BULK AT MOST 1048576: true; the input reads as it did. -/
def biteNeededUptoRow : OpenClaim := { program := "ytofcdpkanjiefaa", sum := "2858403f2783edb2dd4c5fb600d656083ec24608556e60a6c6141ee49992046f", func := "senvy/senvylaw05.BiteNeeded", spec := "biteNeeded", unfollowed := true, recurses := true, plainKeys := false, apart := false, narrowed := true }
def BiteNeededUptoSaid : Prop := biteNeededUptoRow.holds Try.pinned (OpenSpec.upto biteNeededSpec)

/-- 'senvylaw05.BiteKnown', WHERE WHAT IT READS IS OF BULK AT MOST 1048576: true; the input reads as it did. -/
def biteKnownUptoRow : OpenClaim := { program := "ytofcdpkanjiefaa", sum := "2858403f2783edb2dd4c5fb600d656083ec24608556e60a6c6141ee49992046f", func := "senvy/senvylaw05.BiteKnown", spec := "biteKnown", unfollowed := true, recurses := true, plainKeys := false, apart := false, narrowed := true }
def BiteKnownUptoSaid : Prop := biteKnownUptoRow.holds Try.pinned (OpenSpec.upto biteKnownSpec)

end Rows
end Go.Proofs.Ytofcdpkanjiefaa
