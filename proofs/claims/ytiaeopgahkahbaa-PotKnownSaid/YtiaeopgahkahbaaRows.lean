/-
  No cell of these rows narrows 'for every input' (looked for: loops, veiled, ifaces, maps, wideKeys, modest, calm, conditions, laid).
  DERIVED. THE GIVEN ROWS OF THIS SEAT. 13 by the template 'for every input the law returns true; each argument reads behind the call as it read before'; 0 by the template 'total and deterministic' (their statements: YtiaeopgahkahbaaTotals.lean).
  GIVEN WITH THE SEED: the statements are not yours to turn. If you find one false, say at which input.
  Laid BY PROGRAM, IN A SANDBOX (cutbox-rows.mjs): the forced cells as the released guide's own fill.sh prints them over the translation 4986812d8f0adeed… (all of the seat's roots in one cut). By AI agents, Wed Nov 11 2026. No macro, syntax, notation, axiom, sorry.
-/
import Derived.Test.YtiaeopgahkahbaaChecked
import GoSem.Claim
import GoSem.ClaimJoined
import GoSem.ClaimMapViews
import Derived.JoinedTies
import Derived.KernelRfl
namespace Go.Proofs.Ytiaeopgahkahbaa
/- THE CELL 'sum', in the pinned program and in every row, IS THE sha256 OF THE DUMP (.gsa) THAT YtiaeopgahkahbaaProg.lean LOADS. Nothing in Lean hashes anything: it is a label: what it is worth is what the hold of that sum in a sandbox is worth. -/
noncomputable def Try.pinned : Pinned := { name := "ytiaeopgahkahbaa", sum := "4986812d8f0adeed0f9a10a46ee2265f8bba327a1b97d45b86e8b543648c7d3d", checked := Try.checked }
namespace Rows
def none {H : Type} : Left H := { results := [], args := [] }

/-- 'senvylaw06.PotRows': WHATEVER THE INPUT: true; the input reads as it did. -/
def potRowsSpec : ChangeSpec := { name := "potRows", fn := fun _ => fun
  | [d1, d2] => { results := [.lit (.bool true)], args := [d1, d2] }
  | _ => none }
def potRowsRow : OpenClaim := { program := "ytiaeopgahkahbaa", sum := "4986812d8f0adeed0f9a10a46ee2265f8bba327a1b97d45b86e8b543648c7d3d", func := "senvy/senvylaw06.PotRows", spec := "potRows", unfollowed := true, recurses := true, plainKeys := false, apart := false }
def PotRowsSaid : Prop := potRowsRow.holds Try.pinned (OpenSpec.ofChange potRowsSpec)

/-- ITS FALSE NEIGHBOUR: 'it returns false'. Refute it at one input. -/
def potRowsWrong : ChangeSpec := { name := "potRows", fn := fun _ => fun
  | [d1, d2] => { results := [.lit (.bool false)], args := [d1, d2] }
  | _ => none }
def PotRowsWrongFalsely : Prop := potRowsRow.holds Try.pinned (OpenSpec.ofChange potRowsWrong)

/-- 'senvylaw06.PotLots': WHATEVER THE INPUT: true; the input reads as it did. -/
def potLotsSpec : ChangeSpec := { name := "potLots", fn := fun _ => fun
  | [d] => { results := [.lit (.bool true)], args := [d] }
  | _ => none }
def potLotsRow : OpenClaim := { program := "ytiaeopgahkahbaa", sum := "4986812d8f0adeed0f9a10a46ee2265f8bba327a1b97d45b86e8b543648c7d3d", func := "senvy/senvylaw06.PotLots", spec := "potLots", unfollowed := true, recurses := true, plainKeys := false, apart := false }
def PotLotsSaid : Prop := potLotsRow.holds Try.pinned (OpenSpec.ofChange potLotsSpec)

/-- ITS FALSE NEIGHBOUR: 'it returns false'. Refute it at one input. -/
def potLotsWrong : ChangeSpec := { name := "potLots", fn := fun _ => fun
  | [d] => { results := [.lit (.bool false)], args := [d] }
  | _ => none }
def PotLotsWrongFalsely : Prop := potLotsRow.holds Try.pinned (OpenSpec.ofChange potLotsWrong)

/-- 'senvylaw06.PotPrices': WHATEVER THE INPUT: true; the input reads as it did. -/
def potPricesSpec : ChangeSpec := { name := "potPrices", fn := fun _ => fun
  | [d1, d2] => { results := [.lit (.bool true)], args := [d1, d2] }
  | _ => none }
def potPricesRow : OpenClaim := { program := "ytiaeopgahkahbaa", sum := "4986812d8f0adeed0f9a10a46ee2265f8bba327a1b97d45b86e8b543648c7d3d", func := "senvy/senvylaw06.PotPrices", spec := "potPrices", unfollowed := true, recurses := true, plainKeys := false, apart := false }
def PotPricesSaid : Prop := potPricesRow.holds Try.pinned (OpenSpec.ofChange potPricesSpec)

/-- ITS FALSE NEIGHBOUR: 'it returns false'. Refute it at one input. -/
def potPricesWrong : ChangeSpec := { name := "potPrices", fn := fun _ => fun
  | [d1, d2] => { results := [.lit (.bool false)], args := [d1, d2] }
  | _ => none }
def PotPricesWrongFalsely : Prop := potPricesRow.holds Try.pinned (OpenSpec.ofChange potPricesWrong)

/-- 'senvylaw06.PotAparts': WHATEVER THE INPUT: true; the input reads as it did. -/
def potApartsSpec : ChangeSpec := { name := "potAparts", fn := fun _ => fun
  | [d1, d2, d3] => { results := [.lit (.bool true)], args := [d1, d2, d3] }
  | _ => none }
def potApartsRow : OpenClaim := { program := "ytiaeopgahkahbaa", sum := "4986812d8f0adeed0f9a10a46ee2265f8bba327a1b97d45b86e8b543648c7d3d", func := "senvy/senvylaw06.PotAparts", spec := "potAparts", unfollowed := true, recurses := true, plainKeys := false, apart := false }
def PotApartsSaid : Prop := potApartsRow.holds Try.pinned (OpenSpec.ofChange potApartsSpec)

/-- ITS FALSE NEIGHBOUR: 'it returns false'. Refute it at one input. -/
def potApartsWrong : ChangeSpec := { name := "potAparts", fn := fun _ => fun
  | [d1, d2, d3] => { results := [.lit (.bool false)], args := [d1, d2, d3] }
  | _ => none }
def PotApartsWrongFalsely : Prop := potApartsRow.holds Try.pinned (OpenSpec.ofChange potApartsWrong)

/-- 'senvylaw06.PotProved': WHATEVER THE INPUT: true; the input reads as it did. -/
def potProvedSpec : ChangeSpec := { name := "potProved", fn := fun _ => fun
  | [d1, d2, d3] => { results := [.lit (.bool true)], args := [d1, d2, d3] }
  | _ => none }
def potProvedRow : OpenClaim := { program := "ytiaeopgahkahbaa", sum := "4986812d8f0adeed0f9a10a46ee2265f8bba327a1b97d45b86e8b543648c7d3d", func := "senvy/senvylaw06.PotProved", spec := "potProved", unfollowed := true, recurses := true, plainKeys := false, apart := false }
def PotProvedSaid : Prop := potProvedRow.holds Try.pinned (OpenSpec.ofChange potProvedSpec)

/-- ITS FALSE NEIGHBOUR: 'it returns false'. Refute it at one input. -/
def potProvedWrong : ChangeSpec := { name := "potProved", fn := fun _ => fun
  | [d1, d2, d3] => { results := [.lit (.bool false)], args := [d1, d2, d3] }
  | _ => none }
def PotProvedWrongFalsely : Prop := potProvedRow.holds Try.pinned (OpenSpec.ofChange potProvedWrong)

/-- 'senvylaw06.PotFewest': WHATEVER THE INPUT: true; the input reads as it did. -/
def potFewestSpec : ChangeSpec := { name := "potFewest", fn := fun _ => fun
  | [d1, d2, d3] => { results := [.lit (.bool true)], args := [d1, d2, d3] }
  | _ => none }
def potFewestRow : OpenClaim := { program := "ytiaeopgahkahbaa", sum := "4986812d8f0adeed0f9a10a46ee2265f8bba327a1b97d45b86e8b543648c7d3d", func := "senvy/senvylaw06.PotFewest", spec := "potFewest", unfollowed := true, recurses := true, plainKeys := false, apart := false }
def PotFewestSaid : Prop := potFewestRow.holds Try.pinned (OpenSpec.ofChange potFewestSpec)

/-- ITS FALSE NEIGHBOUR: 'it returns false'. Refute it at one input. -/
def potFewestWrong : ChangeSpec := { name := "potFewest", fn := fun _ => fun
  | [d1, d2, d3] => { results := [.lit (.bool false)], args := [d1, d2, d3] }
  | _ => none }
def PotFewestWrongFalsely : Prop := potFewestRow.holds Try.pinned (OpenSpec.ofChange potFewestWrong)

/-- 'senvylaw06.PotUnknown': WHATEVER THE INPUT: true; the input reads as it did. -/
def potUnknownSpec : ChangeSpec := { name := "potUnknown", fn := fun _ => fun
  | [d] => { results := [.lit (.bool true)], args := [d] }
  | _ => none }
def potUnknownRow : OpenClaim := { program := "ytiaeopgahkahbaa", sum := "4986812d8f0adeed0f9a10a46ee2265f8bba327a1b97d45b86e8b543648c7d3d", func := "senvy/senvylaw06.PotUnknown", spec := "potUnknown", unfollowed := true, recurses := true, plainKeys := false, apart := false }
def PotUnknownSaid : Prop := potUnknownRow.holds Try.pinned (OpenSpec.ofChange potUnknownSpec)

/-- ITS FALSE NEIGHBOUR: 'it returns false'. Refute it at one input. -/
def potUnknownWrong : ChangeSpec := { name := "potUnknown", fn := fun _ => fun
  | [d] => { results := [.lit (.bool false)], args := [d] }
  | _ => none }
def PotUnknownWrongFalsely : Prop := potUnknownRow.holds Try.pinned (OpenSpec.ofChange potUnknownWrong)

/-- 'senvylaw06.PotTurned': WHATEVER THE INPUT: true; the input reads as it did. -/
def potTurnedSpec : ChangeSpec := { name := "potTurned", fn := fun _ => fun
  | [d1, d2] => { results := [.lit (.bool true)], args := [d1, d2] }
  | _ => none }
def potTurnedRow : OpenClaim := { program := "ytiaeopgahkahbaa", sum := "4986812d8f0adeed0f9a10a46ee2265f8bba327a1b97d45b86e8b543648c7d3d", func := "senvy/senvylaw06.PotTurned", spec := "potTurned", unfollowed := true, recurses := true, plainKeys := false, apart := false }
def PotTurnedSaid : Prop := potTurnedRow.holds Try.pinned (OpenSpec.ofChange potTurnedSpec)

/-- ITS FALSE NEIGHBOUR: 'it returns false'. Refute it at one input. -/
def potTurnedWrong : ChangeSpec := { name := "potTurned", fn := fun _ => fun
  | [d1, d2] => { results := [.lit (.bool false)], args := [d1, d2] }
  | _ => none }
def PotTurnedWrongFalsely : Prop := potTurnedRow.holds Try.pinned (OpenSpec.ofChange potTurnedWrong)

/-- 'senvylaw06.PotMore': WHATEVER THE INPUT: true; the input reads as it did. -/
def potMoreSpec : ChangeSpec := { name := "potMore", fn := fun _ => fun
  | [d1, d2, d3, d4] => { results := [.lit (.bool true)], args := [d1, d2, d3, d4] }
  | _ => none }
def potMoreRow : OpenClaim := { program := "ytiaeopgahkahbaa", sum := "4986812d8f0adeed0f9a10a46ee2265f8bba327a1b97d45b86e8b543648c7d3d", func := "senvy/senvylaw06.PotMore", spec := "potMore", unfollowed := true, recurses := true, plainKeys := false, apart := false }
def PotMoreSaid : Prop := potMoreRow.holds Try.pinned (OpenSpec.ofChange potMoreSpec)

/-- ITS FALSE NEIGHBOUR: 'it returns false'. Refute it at one input. -/
def potMoreWrong : ChangeSpec := { name := "potMore", fn := fun _ => fun
  | [d1, d2, d3, d4] => { results := [.lit (.bool false)], args := [d1, d2, d3, d4] }
  | _ => none }
def PotMoreWrongFalsely : Prop := potMoreRow.holds Try.pinned (OpenSpec.ofChange potMoreWrong)

/-- 'senvylaw06.PotPieces': WHATEVER THE INPUT: true; the input reads as it did. -/
def potPiecesSpec : ChangeSpec := { name := "potPieces", fn := fun _ => fun
  | [d1, d2] => { results := [.lit (.bool true)], args := [d1, d2] }
  | _ => none }
def potPiecesRow : OpenClaim := { program := "ytiaeopgahkahbaa", sum := "4986812d8f0adeed0f9a10a46ee2265f8bba327a1b97d45b86e8b543648c7d3d", func := "senvy/senvylaw06.PotPieces", spec := "potPieces", unfollowed := true, recurses := true, plainKeys := false, apart := false }
def PotPiecesSaid : Prop := potPiecesRow.holds Try.pinned (OpenSpec.ofChange potPiecesSpec)

/-- ITS FALSE NEIGHBOUR: 'it returns false'. Refute it at one input. -/
def potPiecesWrong : ChangeSpec := { name := "potPieces", fn := fun _ => fun
  | [d1, d2] => { results := [.lit (.bool false)], args := [d1, d2] }
  | _ => none }
def PotPiecesWrongFalsely : Prop := potPiecesRow.holds Try.pinned (OpenSpec.ofChange potPiecesWrong)

/-- 'senvylaw06.PotFellows': WHATEVER THE INPUT: true; the input reads as it did. -/
def potFellowsSpec : ChangeSpec := { name := "potFellows", fn := fun _ => fun
  | [d1, d2, d3] => { results := [.lit (.bool true)], args := [d1, d2, d3] }
  | _ => none }
def potFellowsRow : OpenClaim := { program := "ytiaeopgahkahbaa", sum := "4986812d8f0adeed0f9a10a46ee2265f8bba327a1b97d45b86e8b543648c7d3d", func := "senvy/senvylaw06.PotFellows", spec := "potFellows", unfollowed := true, recurses := true, plainKeys := false, apart := false }
def PotFellowsSaid : Prop := potFellowsRow.holds Try.pinned (OpenSpec.ofChange potFellowsSpec)

/-- ITS FALSE NEIGHBOUR: 'it returns false'. Refute it at one input. -/
def potFellowsWrong : ChangeSpec := { name := "potFellows", fn := fun _ => fun
  | [d1, d2, d3] => { results := [.lit (.bool false)], args := [d1, d2, d3] }
  | _ => none }
def PotFellowsWrongFalsely : Prop := potFellowsRow.holds Try.pinned (OpenSpec.ofChange potFellowsWrong)

/-- 'senvylaw06.PotBlamed': WHATEVER THE INPUT: true; the input reads as it did. -/
def potBlamedSpec : ChangeSpec := { name := "potBlamed", fn := fun _ => fun
  | [d1, d2] => { results := [.lit (.bool true)], args := [d1, d2] }
  | _ => none }
def potBlamedRow : OpenClaim := { program := "ytiaeopgahkahbaa", sum := "4986812d8f0adeed0f9a10a46ee2265f8bba327a1b97d45b86e8b543648c7d3d", func := "senvy/senvylaw06.PotBlamed", spec := "potBlamed", unfollowed := true, recurses := true, plainKeys := false, apart := false }
def PotBlamedSaid : Prop := potBlamedRow.holds Try.pinned (OpenSpec.ofChange potBlamedSpec)

/-- ITS FALSE NEIGHBOUR: 'it returns false'. Refute it at one input. -/
def potBlamedWrong : ChangeSpec := { name := "potBlamed", fn := fun _ => fun
  | [d1, d2] => { results := [.lit (.bool false)], args := [d1, d2] }
  | _ => none }
def PotBlamedWrongFalsely : Prop := potBlamedRow.holds Try.pinned (OpenSpec.ofChange potBlamedWrong)

/-- 'senvylaw06.PotKnown': WHATEVER THE INPUT: true; the input reads as it did. -/
def potKnownSpec : ChangeSpec := { name := "potKnown", fn := fun _ => fun
  | [] => { results := [.lit (.bool true)], args := [] }
  | _ => none }
def potKnownRow : OpenClaim := { program := "ytiaeopgahkahbaa", sum := "4986812d8f0adeed0f9a10a46ee2265f8bba327a1b97d45b86e8b543648c7d3d", func := "senvy/senvylaw06.PotKnown", spec := "potKnown", unfollowed := true, recurses := true, plainKeys := false, apart := false }
def PotKnownSaid : Prop := potKnownRow.holds Try.pinned (OpenSpec.ofChange potKnownSpec)

/-- ITS FALSE NEIGHBOUR: 'it returns false'. Refute it at one input. -/
def potKnownWrong : ChangeSpec := { name := "potKnown", fn := fun _ => fun
  | [] => { results := [.lit (.bool false)], args := [] }
  | _ => none }
def PotKnownWrongFalsely : Prop := potKnownRow.holds Try.pinned (OpenSpec.ofChange potKnownWrong)

/- THE SECOND FORM. 'bulk': how many values and letters a reading holds, each counted each time it is reached (what is shared counts as often as it is met; a slice's spare places count too). A statement '..UptoSaid' is the law's where the arguments, and the package variables that the reading takes, are together of bulk at most 1048576: NARROWER than '..Said'. Prove '..Said' where nothing that the law and all that it calls make is longer than what came in: it says more and counts as full. Else prove '..UptoSaid'. A law counts once. -/
mutual
def uptoBulk {H : Type} : DataW H → Nat
  | .lit (.string bytes) => bytes.length + 1
  | .lit _ => 1
  | .nil => 1
  | .ptr d => uptoBulk d + 1
  | .slice elems spare => uptoBulkAll elems + uptoBulkAll spare + 1
  | .agg parts => uptoBulkAll parts + 1
  | .iface _ d => uptoBulk d + 1
  | .map entries => uptoBulkEntries entries + 1
  | .held _ => 1
def uptoBulkAll {H : Type} : List (DataW H) → Nat
  | [] => 0
  | d :: r => uptoBulk d + uptoBulkAll r
def uptoBulkEntries {H : Type} : List (Lit × DataW H) → Nat
  | [] => 0
  | x :: r => uptoBulkEntry x + uptoBulkEntries r
def uptoBulkEntry {H : Type} : Lit × DataW H → Nat
  | (.string bytes, d) => bytes.length + uptoBulk d + 1
  | (_, d) => uptoBulk d + 1
 end
def uptoSmall : (H : Type) → List (DataW H) → Bool := fun _ ds => decide (uptoBulkAll ds ≤ 1048576)
def OpenSpec.upto (s : _root_.Go.ChangeSpec) : _root_.Go.OpenSpec := { _root_.Go.OpenSpec.ofChange s with cond := some uptoSmall }

/-- 'senvylaw06.PotRows', WHERE WHAT IT READS IS OF BULK AT MOST 1048576: true; the input reads as it did. -/
def potRowsUptoRow : OpenClaim := { program := "ytiaeopgahkahbaa", sum := "4986812d8f0adeed0f9a10a46ee2265f8bba327a1b97d45b86e8b543648c7d3d", func := "senvy/senvylaw06.PotRows", spec := "potRows", unfollowed := true, recurses := true, plainKeys := false, apart := false, narrowed := true }
def PotRowsUptoSaid : Prop := potRowsUptoRow.holds Try.pinned (OpenSpec.upto potRowsSpec)

/-- 'senvylaw06.PotLots', WHERE WHAT IT READS IS OF BULK AT MOST 1048576: true; the input reads as it did. -/
def potLotsUptoRow : OpenClaim := { program := "ytiaeopgahkahbaa", sum := "4986812d8f0adeed0f9a10a46ee2265f8bba327a1b97d45b86e8b543648c7d3d", func := "senvy/senvylaw06.PotLots", spec := "potLots", unfollowed := true, recurses := true, plainKeys := false, apart := false, narrowed := true }
def PotLotsUptoSaid : Prop := potLotsUptoRow.holds Try.pinned (OpenSpec.upto potLotsSpec)

/-- 'senvylaw06.PotPrices', WHERE WHAT IT READS IS OF BULK AT MOST 1048576: true; the input reads as it did. -/
def potPricesUptoRow : OpenClaim := { program := "ytiaeopgahkahbaa", sum := "4986812d8f0adeed0f9a10a46ee2265f8bba327a1b97d45b86e8b543648c7d3d", func := "senvy/senvylaw06.PotPrices", spec := "potPrices", unfollowed := true, recurses := true, plainKeys := false, apart := false, narrowed := true }
def PotPricesUptoSaid : Prop := potPricesUptoRow.holds Try.pinned (OpenSpec.upto potPricesSpec)

/-- 'senvylaw06.PotAparts', WHERE WHAT IT READS IS OF BULK AT MOST 1048576: true; the input reads as it did. -/
def potApartsUptoRow : OpenClaim := { program := "ytiaeopgahkahbaa", sum := "4986812d8f0adeed0f9a10a46ee2265f8bba327a1b97d45b86e8b543648c7d3d", func := "senvy/senvylaw06.PotAparts", spec := "potAparts", unfollowed := true, recurses := true, plainKeys := false, apart := false, narrowed := true }
def PotApartsUptoSaid : Prop := potApartsUptoRow.holds Try.pinned (OpenSpec.upto potApartsSpec)

/-- 'senvylaw06.PotProved', WHERE WHAT IT READS IS OF BULK AT MOST 1048576: true; the input reads as it did. -/
def potProvedUptoRow : OpenClaim := { program := "ytiaeopgahkahbaa", sum := "4986812d8f0adeed0f9a10a46ee2265f8bba327a1b97d45b86e8b543648c7d3d", func := "senvy/senvylaw06.PotProved", spec := "potProved", unfollowed := true, recurses := true, plainKeys := false, apart := false, narrowed := true }
def PotProvedUptoSaid : Prop := potProvedUptoRow.holds Try.pinned (OpenSpec.upto potProvedSpec)

/-- 'senvylaw06.PotFewest', WHERE WHAT IT READS IS OF BULK AT MOST 1048576: true; the input reads as it did. -/
def potFewestUptoRow : OpenClaim := { program := "ytiaeopgahkahbaa", sum := "4986812d8f0adeed0f9a10a46ee2265f8bba327a1b97d45b86e8b543648c7d3d", func := "senvy/senvylaw06.PotFewest", spec := "potFewest", unfollowed := true, recurses := true, plainKeys := false, apart := false, narrowed := true }
def PotFewestUptoSaid : Prop := potFewestUptoRow.holds Try.pinned (OpenSpec.upto potFewestSpec)

/-- 'senvylaw06.PotUnknown', WHERE WHAT IT READS IS OF BULK AT MOST 1048576: true; the input reads as it did. -/
def potUnknownUptoRow : OpenClaim := { program := "ytiaeopgahkahbaa", sum := "4986812d8f0adeed0f9a10a46ee2265f8bba327a1b97d45b86e8b543648c7d3d", func := "senvy/senvylaw06.PotUnknown", spec := "potUnknown", unfollowed := true, recurses := true, plainKeys := false, apart := false, narrowed := true }
def PotUnknownUptoSaid : Prop := potUnknownUptoRow.holds Try.pinned (OpenSpec.upto potUnknownSpec)

/-- 'senvylaw06.PotTurned', WHERE WHAT IT READS IS OF BULK AT MOST 1048576: true; the input reads as it did. -/
def potTurnedUptoRow : OpenClaim := { program := "ytiaeopgahkahbaa", sum := "4986812d8f0adeed0f9a10a46ee2265f8bba327a1b97d45b86e8b543648c7d3d", func := "senvy/senvylaw06.PotTurned", spec := "potTurned", unfollowed := true, recurses := true, plainKeys := false, apart := false, narrowed := true }
def PotTurnedUptoSaid : Prop := potTurnedUptoRow.holds Try.pinned (OpenSpec.upto potTurnedSpec)

/-- 'senvylaw06.PotMore', WHERE WHAT IT READS IS OF BULK AT MOST 1048576: true; the input reads as it did. -/
def potMoreUptoRow : OpenClaim := { program := "ytiaeopgahkahbaa", sum := "4986812d8f0adeed0f9a10a46ee2265f8bba327a1b97d45b86e8b543648c7d3d", func := "senvy/senvylaw06.PotMore", spec := "potMore", unfollowed := true, recurses := true, plainKeys := false, apart := false, narrowed := true }
def PotMoreUptoSaid : Prop := potMoreUptoRow.holds Try.pinned (OpenSpec.upto potMoreSpec)

/-- 'senvylaw06.PotPieces', WHERE WHAT IT READS IS OF BULK AT MOST 1048576: true; the input reads as it did. -/
def potPiecesUptoRow : OpenClaim := { program := "ytiaeopgahkahbaa", sum := "4986812d8f0adeed0f9a10a46ee2265f8bba327a1b97d45b86e8b543648c7d3d", func := "senvy/senvylaw06.PotPieces", spec := "potPieces", unfollowed := true, recurses := true, plainKeys := false, apart := false, narrowed := true }
def PotPiecesUptoSaid : Prop := potPiecesUptoRow.holds Try.pinned (OpenSpec.upto potPiecesSpec)

/-- 'senvylaw06.PotFellows', WHERE WHAT IT READS IS OF BULK AT MOST 1048576: true; the input reads as it did. -/
def potFellowsUptoRow : OpenClaim := { program := "ytiaeopgahkahbaa", sum := "4986812d8f0adeed0f9a10a46ee2265f8bba327a1b97d45b86e8b543648c7d3d", func := "senvy/senvylaw06.PotFellows", spec := "potFellows", unfollowed := true, recurses := true, plainKeys := false, apart := false, narrowed := true }
def PotFellowsUptoSaid : Prop := potFellowsUptoRow.holds Try.pinned (OpenSpec.upto potFellowsSpec)

/-- 'senvylaw06.PotBlamed', WHERE WHAT IT READS IS OF BULK AT MOST 1048576: true; the input reads as it did. -/
def potBlamedUptoRow : OpenClaim := { program := "ytiaeopgahkahbaa", sum := "4986812d8f0adeed0f9a10a46ee2265f8bba327a1b97d45b86e8b543648c7d3d", func := "senvy/senvylaw06.PotBlamed", spec := "potBlamed", unfollowed := true, recurses := true, plainKeys := false, apart := false, narrowed := true }
def PotBlamedUptoSaid : Prop := potBlamedUptoRow.holds Try.pinned (OpenSpec.upto potBlamedSpec)

/-- 'senvylaw06.PotKnown', WHERE WHAT IT READS IS OF BULK AT MOST 1048576: true; the input reads as it did. -/
def potKnownUptoRow : OpenClaim := { program := "ytiaeopgahkahbaa", sum := "4986812d8f0adeed0f9a10a46ee2265f8bba327a1b97d45b86e8b543648c7d3d", func := "senvy/senvylaw06.PotKnown", spec := "potKnown", unfollowed := true, recurses := true, plainKeys := false, apart := false, narrowed := true }
def PotKnownUptoSaid : Prop := potKnownUptoRow.holds Try.pinned (OpenSpec.upto potKnownSpec)

end Rows
end Go.Proofs.Ytiaeopgahkahbaa
