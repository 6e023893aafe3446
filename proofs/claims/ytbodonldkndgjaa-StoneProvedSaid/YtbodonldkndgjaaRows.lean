/-
  No cell of these rows narrows 'for every input' (looked for: loops, veiled, ifaces, maps, wideKeys, modest, calm, conditions, laid).
  DERIVED. THE GIVEN ROWS OF THIS SEAT. 13 by the template 'for every input the law returns true; each argument reads behind the call as it read before'; 0 by the template 'total and deterministic' (their statements: YtbodonldkndgjaaTotals.lean).
  GIVEN WITH THE SEED: the statements are not yours to turn. If you find one false, say at which input.
  Laid BY PROGRAM, IN A SANDBOX (cutbox-rows.mjs): the forced cells as the released guide's own fill.sh prints them over the translation 6b23577caef23989… (all of the seat's roots in one cut). By AI agents, Wed Nov 11 2026. No macro, syntax, notation, axiom, sorry.
-/
import Derived.Test.YtbodonldkndgjaaChecked
import GoSem.Claim
import GoSem.ClaimJoined
import GoSem.ClaimMapViews
import Derived.JoinedTies
import Derived.KernelRfl
namespace Go.Proofs.Ytbodonldkndgjaa
/- THE CELL 'sum', in the pinned program and in every row, IS THE sha256 OF THE DUMP (.gsa) THAT YtbodonldkndgjaaProg.lean LOADS. Nothing in Lean hashes anything: it is a label: what it is worth is what the hold of that sum in a sandbox is worth. -/
noncomputable def Try.pinned : Pinned := { name := "ytbodonldkndgjaa", sum := "6b23577caef2398965e324d349bdc1f274b2e68a63f680b9d929d7871a70c1bb", checked := Try.checked }
namespace Rows
def none {H : Type} : Left H := { results := [], args := [] }

/-- 'senvylaw02.StoneMills': WHATEVER THE INPUT: true; the input reads as it did. -/
def stoneMillsSpec : ChangeSpec := { name := "stoneMills", fn := fun _ => fun
  | [d1, d2, d3] => { results := [.lit (.bool true)], args := [d1, d2, d3] }
  | _ => none }
def stoneMillsRow : OpenClaim := { program := "ytbodonldkndgjaa", sum := "6b23577caef2398965e324d349bdc1f274b2e68a63f680b9d929d7871a70c1bb", func := "senvy/senvylaw02.StoneMills", spec := "stoneMills", inPlace := ["maps.clone"], unfollowed := true, recurses := true, plainKeys := false, apart := false }
def StoneMillsSaid : Prop := stoneMillsRow.holds Try.pinned (OpenSpec.ofChange stoneMillsSpec)

/-- ITS FALSE NEIGHBOUR: 'it returns false'. Refute it at one input. -/
def stoneMillsWrong : ChangeSpec := { name := "stoneMills", fn := fun _ => fun
  | [d1, d2, d3] => { results := [.lit (.bool false)], args := [d1, d2, d3] }
  | _ => none }
def StoneMillsWrongFalsely : Prop := stoneMillsRow.holds Try.pinned (OpenSpec.ofChange stoneMillsWrong)

/-- 'senvylaw02.StonePlans': WHATEVER THE INPUT: true; the input reads as it did. -/
def stonePlansSpec : ChangeSpec := { name := "stonePlans", fn := fun _ => fun
  | [d] => { results := [.lit (.bool true)], args := [d] }
  | _ => none }
def stonePlansRow : OpenClaim := { program := "ytbodonldkndgjaa", sum := "6b23577caef2398965e324d349bdc1f274b2e68a63f680b9d929d7871a70c1bb", func := "senvy/senvylaw02.StonePlans", spec := "stonePlans", inPlace := ["maps.clone"], unfollowed := true, recurses := true, plainKeys := false, apart := false }
def StonePlansSaid : Prop := stonePlansRow.holds Try.pinned (OpenSpec.ofChange stonePlansSpec)

/-- ITS FALSE NEIGHBOUR: 'it returns false'. Refute it at one input. -/
def stonePlansWrong : ChangeSpec := { name := "stonePlans", fn := fun _ => fun
  | [d] => { results := [.lit (.bool false)], args := [d] }
  | _ => none }
def StonePlansWrongFalsely : Prop := stonePlansRow.holds Try.pinned (OpenSpec.ofChange stonePlansWrong)

/-- 'senvylaw02.StoneSpares': WHATEVER THE INPUT: true; the input reads as it did. -/
def stoneSparesSpec : ChangeSpec := { name := "stoneSpares", fn := fun _ => fun
  | [d1, d2] => { results := [.lit (.bool true)], args := [d1, d2] }
  | _ => none }
def stoneSparesRow : OpenClaim := { program := "ytbodonldkndgjaa", sum := "6b23577caef2398965e324d349bdc1f274b2e68a63f680b9d929d7871a70c1bb", func := "senvy/senvylaw02.StoneSpares", spec := "stoneSpares", inPlace := ["maps.clone"], unfollowed := true, recurses := true, plainKeys := false, apart := false }
def StoneSparesSaid : Prop := stoneSparesRow.holds Try.pinned (OpenSpec.ofChange stoneSparesSpec)

/-- ITS FALSE NEIGHBOUR: 'it returns false'. Refute it at one input. -/
def stoneSparesWrong : ChangeSpec := { name := "stoneSpares", fn := fun _ => fun
  | [d1, d2] => { results := [.lit (.bool false)], args := [d1, d2] }
  | _ => none }
def StoneSparesWrongFalsely : Prop := stoneSparesRow.holds Try.pinned (OpenSpec.ofChange stoneSparesWrong)

/-- 'senvylaw02.StoneSpared': WHATEVER THE INPUT: true; the input reads as it did. -/
def stoneSparedSpec : ChangeSpec := { name := "stoneSpared", fn := fun _ => fun
  | [d1, d2] => { results := [.lit (.bool true)], args := [d1, d2] }
  | _ => none }
def stoneSparedRow : OpenClaim := { program := "ytbodonldkndgjaa", sum := "6b23577caef2398965e324d349bdc1f274b2e68a63f680b9d929d7871a70c1bb", func := "senvy/senvylaw02.StoneSpared", spec := "stoneSpared", inPlace := ["maps.clone"], unfollowed := true, recurses := true, plainKeys := false, apart := false }
def StoneSparedSaid : Prop := stoneSparedRow.holds Try.pinned (OpenSpec.ofChange stoneSparedSpec)

/-- ITS FALSE NEIGHBOUR: 'it returns false'. Refute it at one input. -/
def stoneSparedWrong : ChangeSpec := { name := "stoneSpared", fn := fun _ => fun
  | [d1, d2] => { results := [.lit (.bool false)], args := [d1, d2] }
  | _ => none }
def StoneSparedWrongFalsely : Prop := stoneSparedRow.holds Try.pinned (OpenSpec.ofChange stoneSparedWrong)

/-- 'senvylaw02.StoneLatest': WHATEVER THE INPUT: true; the input reads as it did. -/
def stoneLatestSpec : ChangeSpec := { name := "stoneLatest", fn := fun _ => fun
  | [d1, d2, d3, d4] => { results := [.lit (.bool true)], args := [d1, d2, d3, d4] }
  | _ => none }
def stoneLatestRow : OpenClaim := { program := "ytbodonldkndgjaa", sum := "6b23577caef2398965e324d349bdc1f274b2e68a63f680b9d929d7871a70c1bb", func := "senvy/senvylaw02.StoneLatest", spec := "stoneLatest", inPlace := ["maps.clone"], unfollowed := true, recurses := true, plainKeys := false, apart := false }
def StoneLatestSaid : Prop := stoneLatestRow.holds Try.pinned (OpenSpec.ofChange stoneLatestSpec)

/-- ITS FALSE NEIGHBOUR: 'it returns false'. Refute it at one input. -/
def stoneLatestWrong : ChangeSpec := { name := "stoneLatest", fn := fun _ => fun
  | [d1, d2, d3, d4] => { results := [.lit (.bool false)], args := [d1, d2, d3, d4] }
  | _ => none }
def StoneLatestWrongFalsely : Prop := stoneLatestRow.holds Try.pinned (OpenSpec.ofChange stoneLatestWrong)

/-- 'senvylaw02.StoneKnown': WHATEVER THE INPUT: true; the input reads as it did. -/
def stoneKnownSpec : ChangeSpec := { name := "stoneKnown", fn := fun _ => fun
  | [] => { results := [.lit (.bool true)], args := [] }
  | _ => none }
def stoneKnownRow : OpenClaim := { program := "ytbodonldkndgjaa", sum := "6b23577caef2398965e324d349bdc1f274b2e68a63f680b9d929d7871a70c1bb", func := "senvy/senvylaw02.StoneKnown", spec := "stoneKnown", inPlace := ["maps.clone"], unfollowed := true, recurses := true, plainKeys := false, apart := false }
def StoneKnownSaid : Prop := stoneKnownRow.holds Try.pinned (OpenSpec.ofChange stoneKnownSpec)

/-- ITS FALSE NEIGHBOUR: 'it returns false'. Refute it at one input. -/
def stoneKnownWrong : ChangeSpec := { name := "stoneKnown", fn := fun _ => fun
  | [] => { results := [.lit (.bool false)], args := [] }
  | _ => none }
def StoneKnownWrongFalsely : Prop := stoneKnownRow.holds Try.pinned (OpenSpec.ofChange stoneKnownWrong)

/-- 'senvylaw02.StoneTables': WHATEVER THE INPUT: true; the input reads as it did. -/
def stoneTablesSpec : ChangeSpec := { name := "stoneTables", fn := fun _ => fun
  | [d1, d2] => { results := [.lit (.bool true)], args := [d1, d2] }
  | _ => none }
def stoneTablesRow : OpenClaim := { program := "ytbodonldkndgjaa", sum := "6b23577caef2398965e324d349bdc1f274b2e68a63f680b9d929d7871a70c1bb", func := "senvy/senvylaw02.StoneTables", spec := "stoneTables", inPlace := ["maps.clone"], unfollowed := true, recurses := true, plainKeys := false, apart := false }
def StoneTablesSaid : Prop := stoneTablesRow.holds Try.pinned (OpenSpec.ofChange stoneTablesSpec)

/-- ITS FALSE NEIGHBOUR: 'it returns false'. Refute it at one input. -/
def stoneTablesWrong : ChangeSpec := { name := "stoneTables", fn := fun _ => fun
  | [d1, d2] => { results := [.lit (.bool false)], args := [d1, d2] }
  | _ => none }
def StoneTablesWrongFalsely : Prop := stoneTablesRow.holds Try.pinned (OpenSpec.ofChange stoneTablesWrong)

/-- 'senvylaw02.StoneProved': WHATEVER THE INPUT: true; the input reads as it did. -/
def stoneProvedSpec : ChangeSpec := { name := "stoneProved", fn := fun _ => fun
  | [d1, d2, d3] => { results := [.lit (.bool true)], args := [d1, d2, d3] }
  | _ => none }
def stoneProvedRow : OpenClaim := { program := "ytbodonldkndgjaa", sum := "6b23577caef2398965e324d349bdc1f274b2e68a63f680b9d929d7871a70c1bb", func := "senvy/senvylaw02.StoneProved", spec := "stoneProved", inPlace := ["maps.clone"], unfollowed := true, recurses := true, plainKeys := false, apart := false }
def StoneProvedSaid : Prop := stoneProvedRow.holds Try.pinned (OpenSpec.ofChange stoneProvedSpec)

/-- ITS FALSE NEIGHBOUR: 'it returns false'. Refute it at one input. -/
def stoneProvedWrong : ChangeSpec := { name := "stoneProved", fn := fun _ => fun
  | [d1, d2, d3] => { results := [.lit (.bool false)], args := [d1, d2, d3] }
  | _ => none }
def StoneProvedWrongFalsely : Prop := stoneProvedRow.holds Try.pinned (OpenSpec.ofChange stoneProvedWrong)

/-- 'senvylaw02.StoneRest': WHATEVER THE INPUT: true; the input reads as it did. -/
def stoneRestSpec : ChangeSpec := { name := "stoneRest", fn := fun _ => fun
  | [d1, d2, d3, d4] => { results := [.lit (.bool true)], args := [d1, d2, d3, d4] }
  | _ => none }
def stoneRestRow : OpenClaim := { program := "ytbodonldkndgjaa", sum := "6b23577caef2398965e324d349bdc1f274b2e68a63f680b9d929d7871a70c1bb", func := "senvy/senvylaw02.StoneRest", spec := "stoneRest", inPlace := ["maps.clone"], unfollowed := true, recurses := true, plainKeys := false, apart := false }
def StoneRestSaid : Prop := stoneRestRow.holds Try.pinned (OpenSpec.ofChange stoneRestSpec)

/-- ITS FALSE NEIGHBOUR: 'it returns false'. Refute it at one input. -/
def stoneRestWrong : ChangeSpec := { name := "stoneRest", fn := fun _ => fun
  | [d1, d2, d3, d4] => { results := [.lit (.bool false)], args := [d1, d2, d3, d4] }
  | _ => none }
def StoneRestWrongFalsely : Prop := stoneRestRow.holds Try.pinned (OpenSpec.ofChange stoneRestWrong)

/-- 'senvylaw02.StoneRooms': WHATEVER THE INPUT: true; the input reads as it did. -/
def stoneRoomsSpec : ChangeSpec := { name := "stoneRooms", fn := fun _ => fun
  | [d1, d2, d3] => { results := [.lit (.bool true)], args := [d1, d2, d3] }
  | _ => none }
def stoneRoomsRow : OpenClaim := { program := "ytbodonldkndgjaa", sum := "6b23577caef2398965e324d349bdc1f274b2e68a63f680b9d929d7871a70c1bb", func := "senvy/senvylaw02.StoneRooms", spec := "stoneRooms", inPlace := ["maps.clone"], unfollowed := true, recurses := true, plainKeys := false, apart := false }
def StoneRoomsSaid : Prop := stoneRoomsRow.holds Try.pinned (OpenSpec.ofChange stoneRoomsSpec)

/-- ITS FALSE NEIGHBOUR: 'it returns false'. Refute it at one input. -/
def stoneRoomsWrong : ChangeSpec := { name := "stoneRooms", fn := fun _ => fun
  | [d1, d2, d3] => { results := [.lit (.bool false)], args := [d1, d2, d3] }
  | _ => none }
def StoneRoomsWrongFalsely : Prop := stoneRoomsRow.holds Try.pinned (OpenSpec.ofChange stoneRoomsWrong)

/-- 'senvylaw02.StoneLimits': WHATEVER THE INPUT: true; the input reads as it did. -/
def stoneLimitsSpec : ChangeSpec := { name := "stoneLimits", fn := fun _ => fun
  | [d1, d2, d3, d4, d5] => { results := [.lit (.bool true)], args := [d1, d2, d3, d4, d5] }
  | _ => none }
def stoneLimitsRow : OpenClaim := { program := "ytbodonldkndgjaa", sum := "6b23577caef2398965e324d349bdc1f274b2e68a63f680b9d929d7871a70c1bb", func := "senvy/senvylaw02.StoneLimits", spec := "stoneLimits", inPlace := ["maps.clone"], unfollowed := true, recurses := true, plainKeys := false, apart := false }
def StoneLimitsSaid : Prop := stoneLimitsRow.holds Try.pinned (OpenSpec.ofChange stoneLimitsSpec)

/-- ITS FALSE NEIGHBOUR: 'it returns false'. Refute it at one input. -/
def stoneLimitsWrong : ChangeSpec := { name := "stoneLimits", fn := fun _ => fun
  | [d1, d2, d3, d4, d5] => { results := [.lit (.bool false)], args := [d1, d2, d3, d4, d5] }
  | _ => none }
def StoneLimitsWrongFalsely : Prop := stoneLimitsRow.holds Try.pinned (OpenSpec.ofChange stoneLimitsWrong)

/-- 'senvylaw02.StoneHours': WHATEVER THE INPUT: true; the input reads as it did. -/
def stoneHoursSpec : ChangeSpec := { name := "stoneHours", fn := fun _ => fun
  | [d1, d2] => { results := [.lit (.bool true)], args := [d1, d2] }
  | _ => none }
def stoneHoursRow : OpenClaim := { program := "ytbodonldkndgjaa", sum := "6b23577caef2398965e324d349bdc1f274b2e68a63f680b9d929d7871a70c1bb", func := "senvy/senvylaw02.StoneHours", spec := "stoneHours", inPlace := ["maps.clone"], unfollowed := true, recurses := true, plainKeys := false, apart := false }
def StoneHoursSaid : Prop := stoneHoursRow.holds Try.pinned (OpenSpec.ofChange stoneHoursSpec)

/-- ITS FALSE NEIGHBOUR: 'it returns false'. Refute it at one input. -/
def stoneHoursWrong : ChangeSpec := { name := "stoneHours", fn := fun _ => fun
  | [d1, d2] => { results := [.lit (.bool false)], args := [d1, d2] }
  | _ => none }
def StoneHoursWrongFalsely : Prop := stoneHoursRow.holds Try.pinned (OpenSpec.ofChange stoneHoursWrong)

/-- 'senvylaw02.StoneMoved': WHATEVER THE INPUT: true; the input reads as it did. -/
def stoneMovedSpec : ChangeSpec := { name := "stoneMoved", fn := fun _ => fun
  | [d1, d2, d3] => { results := [.lit (.bool true)], args := [d1, d2, d3] }
  | _ => none }
def stoneMovedRow : OpenClaim := { program := "ytbodonldkndgjaa", sum := "6b23577caef2398965e324d349bdc1f274b2e68a63f680b9d929d7871a70c1bb", func := "senvy/senvylaw02.StoneMoved", spec := "stoneMoved", inPlace := ["maps.clone"], unfollowed := true, recurses := true, plainKeys := false, apart := false }
def StoneMovedSaid : Prop := stoneMovedRow.holds Try.pinned (OpenSpec.ofChange stoneMovedSpec)

/-- ITS FALSE NEIGHBOUR: 'it returns false'. Refute it at one input. -/
def stoneMovedWrong : ChangeSpec := { name := "stoneMoved", fn := fun _ => fun
  | [d1, d2, d3] => { results := [.lit (.bool false)], args := [d1, d2, d3] }
  | _ => none }
def StoneMovedWrongFalsely : Prop := stoneMovedRow.holds Try.pinned (OpenSpec.ofChange stoneMovedWrong)

/- THE SECOND FORM. 'bulk': how many values and letters a reading holds, each counted each time it is reached (what is shared counts as often as it is met; a slice's spare places count too). A statement '..UptoSaid' is the law's where the arguments, and the package variables that the reading takes, are together of bulk at most 1048576: NARROWER than '..Said'. Prove '..Said' where nothing that the law and all that it calls make is longer than what came in: it says more and counts as full. Else prove '..UptoSaid'. A law counts once. -/
mutual
def uptoBulk {H : Type} : DataW H → Nat
  | .lit (.string bytes) => bytes.length + 1
  | .lit _ => 1
  | .nil => 1
  | .ptr d => uptoBulk d + 1
  | .slice elems spare => uptoBulkAll elems + uptoBulkAll spare + 1
  | .agg parts => uptoBulkAll parts + 1
  | .iface _ d => uptoBulk d + 1
  | .map entries => uptoBulkEntries entries + 1
  | .held _ => 1
def uptoBulkAll {H : Type} : List (DataW H) → Nat
  | [] => 0
  | d :: r => uptoBulk d + uptoBulkAll r
def uptoBulkEntries {H : Type} : List (Lit × DataW H) → Nat
  | [] => 0
  | x :: r => uptoBulkEntry x + uptoBulkEntries r
def uptoBulkEntry {H : Type} : Lit × DataW H → Nat
  | (.string bytes, d) => bytes.length + uptoBulk d + 1
  | (_, d) => uptoBulk d + 1
 end
def uptoSmall : (H : Type) → List (DataW H) → Bool := fun _ ds => decide (uptoBulkAll ds ≤ 1048576)
def OpenSpec.upto (s : _root_.Go.ChangeSpec) : _root_.Go.OpenSpec := { _root_.Go.OpenSpec.ofChange s with cond := some uptoSmall }

/-- 'senvylaw02.StoneMills', WHERE WHAT IT READS IS OF BULK AT MOST 1048576: true; the input reads as it did. -/
def stoneMillsUptoRow : OpenClaim := { program := "ytbodonldkndgjaa", sum := "6b23577caef2398965e324d349bdc1f274b2e68a63f680b9d929d7871a70c1bb", func := "senvy/senvylaw02.StoneMills", spec := "stoneMills", inPlace := ["maps.clone"], unfollowed := true, recurses := true, plainKeys := false, apart := false, narrowed := true }
def StoneMillsUptoSaid : Prop := stoneMillsUptoRow.holds Try.pinned (OpenSpec.upto stoneMillsSpec)

/-- 'senvylaw02.StonePlans', WHERE WHAT IT READS IS OF BULK AT MOST 1048576: true; the input reads as it did. -/
def stonePlansUptoRow : OpenClaim := { program := "ytbodonldkndgjaa", sum := "6b23577caef2398965e324d349bdc1f274b2e68a63f680b9d929d7871a70c1bb", func := "senvy/senvylaw02.StonePlans", spec := "stonePlans", inPlace := ["maps.clone"], unfollowed := true, recurses := true, plainKeys := false, apart := false, narrowed := true }
def StonePlansUptoSaid : Prop := stonePlansUptoRow.holds Try.pinned (OpenSpec.upto stonePlansSpec)

/-- 'senvylaw02.StoneSpares', WHERE WHAT IT READS IS OF BULK AT MOST 1048576: true; the input reads as it did. -/
def stoneSparesUptoRow : OpenClaim := { program := "ytbodonldkndgjaa", sum := "6b23577caef2398965e324d349bdc1f274b2e68a63f680b9d929d7871a70c1bb", func := "senvy/senvylaw02.StoneSpares", spec := "stoneSpares", inPlace := ["maps.clone"], unfollowed := true, recurses := true, plainKeys := false, apart := false, narrowed := true }
def StoneSparesUptoSaid : Prop := stoneSparesUptoRow.holds Try.pinned (OpenSpec.upto stoneSparesSpec)

/-- 'senvylaw02.StoneSpared', WHERE WHAT IT READS IS OF BULK AT MOST 1048576: true; the input reads as it did. -/
def stoneSparedUptoRow : OpenClaim := { program := "ytbodonldkndgjaa", sum := "6b23577caef2398965e324d349bdc1f274b2e68a63f680b9d929d7871a70c1bb", func := "senvy/senvylaw02.StoneSpared", spec := "stoneSpared", inPlace := ["maps.clone"], unfollowed := true, recurses := true, plainKeys := false, apart := false, narrowed := true }
def StoneSparedUptoSaid : Prop := stoneSparedUptoRow.holds Try.pinned (OpenSpec.upto stoneSparedSpec)

/-- 'senvylaw02.StoneLatest', WHERE WHAT IT READS IS OF BULK AT MOST 1048576: true; the input reads as it did. -/
def stoneLatestUptoRow : OpenClaim := { program := "ytbodonldkndgjaa", sum := "6b23577caef2398965e324d349bdc1f274b2e68a63f680b9d929d7871a70c1bb", func := "senvy/senvylaw02.StoneLatest", spec := "stoneLatest", inPlace := ["maps.clone"], unfollowed := true, recurses := true, plainKeys := false, apart := false, narrowed := true }
def StoneLatestUptoSaid : Prop := stoneLatestUptoRow.holds Try.pinned (OpenSpec.upto stoneLatestSpec)

/-- 'senvylaw02.StoneKnown', WHERE WHAT IT READS IS OF BULK AT MOST 1048576: true; the input reads as it did. -/
def stoneKnownUptoRow : OpenClaim := { program := "ytbodonldkndgjaa", sum := "6b23577caef2398965e324d349bdc1f274b2e68a63f680b9d929d7871a70c1bb", func := "senvy/senvylaw02.StoneKnown", spec := "stoneKnown", inPlace := ["maps.clone"], unfollowed := true, recurses := true, plainKeys := false, apart := false, narrowed := true }
def StoneKnownUptoSaid : Prop := stoneKnownUptoRow.holds Try.pinned (OpenSpec.upto stoneKnownSpec)

/-- 'senvylaw02.StoneTables', WHERE WHAT IT READS IS OF BULK AT MOST 1048576: true; the input reads as it did. -/
def stoneTablesUptoRow : OpenClaim := { program := "ytbodonldkndgjaa", sum := "6b23577caef2398965e324d349bdc1f274b2e68a63f680b9d929d7871a70c1bb", func := "senvy/senvylaw02.StoneTables", spec := "stoneTables", inPlace := ["maps.clone"], unfollowed := true, recurses := true, plainKeys := false, apart := false, narrowed := true }
def StoneTablesUptoSaid : Prop := stoneTablesUptoRow.holds Try.pinned (OpenSpec.upto stoneTablesSpec)

/-- 'senvylaw02.StoneProved', WHERE WHAT IT READS IS OF BULK AT MOST 1048576: true; the input reads as it did. -/
def stoneProvedUptoRow : OpenClaim := { program := "ytbodonldkndgjaa", sum := "6b23577caef2398965e324d349bdc1f274b2e68a63f680b9d929d7871a70c1bb", func := "senvy/senvylaw02.StoneProved", spec := "stoneProved", inPlace := ["maps.clone"], unfollowed := true, recurses := true, plainKeys := false, apart := false, narrowed := true }
def StoneProvedUptoSaid : Prop := stoneProvedUptoRow.holds Try.pinned (OpenSpec.upto stoneProvedSpec)

/-- 'senvylaw02.StoneRest', WHERE WHAT IT READS IS OF BULK AT MOST 1048576: true; the input reads as it did. -/
def stoneRestUptoRow : OpenClaim := { program := "ytbodonldkndgjaa", sum := "6b23577caef2398965e324d349bdc1f274b2e68a63f680b9d929d7871a70c1bb", func := "senvy/senvylaw02.StoneRest", spec := "stoneRest", inPlace := ["maps.clone"], unfollowed := true, recurses := true, plainKeys := false, apart := false, narrowed := true }
def StoneRestUptoSaid : Prop := stoneRestUptoRow.holds Try.pinned (OpenSpec.upto stoneRestSpec)

/-- 'senvylaw02.StoneRooms', WHERE WHAT IT READS IS OF BULK AT MOST 1048576: true; the input reads as it did. -/
def stoneRoomsUptoRow : OpenClaim := { program := "ytbodonldkndgjaa", sum := "6b23577caef2398965e324d349bdc1f274b2e68a63f680b9d929d7871a70c1bb", func := "senvy/senvylaw02.StoneRooms", spec := "stoneRooms", inPlace := ["maps.clone"], unfollowed := true, recurses := true, plainKeys := false, apart := false, narrowed := true }
def StoneRoomsUptoSaid : Prop := stoneRoomsUptoRow.holds Try.pinned (OpenSpec.upto stoneRoomsSpec)

/-- 'senvylaw02.StoneLimits', WHERE WHAT IT READS IS OF BULK AT MOST 1048576: true; the input reads as it did. -/
def stoneLimitsUptoRow : OpenClaim := { program := "ytbodonldkndgjaa", sum := "6b23577caef2398965e324d349bdc1f274b2e68a63f680b9d929d7871a70c1bb", func := "senvy/senvylaw02.StoneLimits", spec := "stoneLimits", inPlace := ["maps.clone"], unfollowed := true, recurses := true, plainKeys := false, apart := false, narrowed := true }
def StoneLimitsUptoSaid : Prop := stoneLimitsUptoRow.holds Try.pinned (OpenSpec.upto stoneLimitsSpec)

/-- 'senvylaw02.StoneHours', WHERE WHAT IT READS IS OF BULK AT MOST 1048576: true; the input reads as it did. -/
def stoneHoursUptoRow : OpenClaim := { program := "ytbodonldkndgjaa", sum := "6b23577caef2398965e324d349bdc1f274b2e68a63f680b9d929d7871a70c1bb", func := "senvy/senvylaw02.StoneHours", spec := "stoneHours", inPlace := ["maps.clone"], unfollowed := true, recurses := true, plainKeys := false, apart := false, narrowed := true }
def StoneHoursUptoSaid : Prop := stoneHoursUptoRow.holds Try.pinned (OpenSpec.upto stoneHoursSpec)

/-- 'senvylaw02.StoneMoved', WHERE WHAT IT READS IS OF BULK AT MOST 1048576: true; the input reads as it did. -/
def stoneMovedUptoRow : OpenClaim := { program := "ytbodonldkndgjaa", sum := "6b23577caef2398965e324d349bdc1f274b2e68a63f680b9d929d7871a70c1bb", func := "senvy/senvylaw02.StoneMoved", spec := "stoneMoved", inPlace := ["maps.clone"], unfollowed := true, recurses := true, plainKeys := false, apart := false, narrowed := true }
def StoneMovedUptoSaid : Prop := stoneMovedUptoRow.holds Try.pinned (OpenSpec.upto stoneMovedSpec)

end Rows
end Go.Proofs.Ytbodonldkndgjaa
