/-
  No cell of these rows narrows 'for every input' (looked for: loops, veiled, ifaces, maps, wideKeys, modest, calm, conditions, laid).
  DERIVED. THE GIVEN ROWS OF THIS SEAT. 12 by the template 'for every input the law returns true; each argument reads behind the call as it read before'; 0 by the template 'total and deterministic' (their statements: YtbgpdcbljjdjnaaTotals.lean).
  GIVEN WITH THE SEED: the statements are not yours to turn. If you find one false, say at which input.
  Laid BY PROGRAM, IN A SANDBOX (cutbox-rows.mjs): the forced cells as the released guide's own fill.sh prints them over the translation 21ad91cdf838f383… (all of the seat's roots in one cut). By AI agents, Wed Nov 11 2026. No macro, syntax, notation, axiom, sorry.
-/
import Derived.Test.YtbgpdcbljjdjnaaChecked
import GoSem.Claim
import GoSem.ClaimJoined
import GoSem.ClaimMapViews
import Derived.JoinedTies
import Derived.KernelRfl
namespace Go.Proofs.Ytbgpdcbljjdjnaa
/- THE CELL 'sum', in the pinned program and in every row, IS THE sha256 OF THE DUMP (.gsa) THAT YtbgpdcbljjdjnaaProg.lean LOADS. Nothing in Lean hashes anything: it is a label: what it is worth is what the hold of that sum in a sandbox is worth. -/
noncomputable def Try.pinned : Pinned := { name := "ytbgpdcbljjdjnaa", sum := "21ad91cdf838f38385006106e8415bf14988934b0f33c655909bfd247aa9b748", checked := Try.checked }
namespace Rows
def none {H : Type} : Left H := { results := [], args := [] }

/-- 'senvylaw10.TraceMixes': WHATEVER THE INPUT: true; the input reads as it did. -/
def traceMixesSpec : ChangeSpec := { name := "traceMixes", fn := fun _ => fun
  | [d1, d2] => { results := [.lit (.bool true)], args := [d1, d2] }
  | _ => none }
def traceMixesRow : OpenClaim := { program := "ytbgpdcbljjdjnaa", sum := "21ad91cdf838f38385006106e8415bf14988934b0f33c655909bfd247aa9b748", func := "senvy/senvylaw10.TraceMixes", spec := "traceMixes", unfollowed := true, recurses := true, plainKeys := false, apart := false }
def TraceMixesSaid : Prop := traceMixesRow.holds Try.pinned (OpenSpec.ofChange traceMixesSpec)

/-- ITS FALSE NEIGHBOUR: 'it returns false'. Refute it at one input. -/
def traceMixesWrong : ChangeSpec := { name := "traceMixes", fn := fun _ => fun
  | [d1, d2] => { results := [.lit (.bool false)], args := [d1, d2] }
  | _ => none }
def TraceMixesWrongFalsely : Prop := traceMixesRow.holds Try.pinned (OpenSpec.ofChange traceMixesWrong)

/-- 'senvylaw10.TraceThroughs': WHATEVER THE INPUT: true; the input reads as it did. -/
def traceThroughsSpec : ChangeSpec := { name := "traceThroughs", fn := fun _ => fun
  | [d1, d2, d3] => { results := [.lit (.bool true)], args := [d1, d2, d3] }
  | _ => none }
def traceThroughsRow : OpenClaim := { program := "ytbgpdcbljjdjnaa", sum := "21ad91cdf838f38385006106e8415bf14988934b0f33c655909bfd247aa9b748", func := "senvy/senvylaw10.TraceThroughs", spec := "traceThroughs", unfollowed := true, recurses := true, plainKeys := false, apart := false }
def TraceThroughsSaid : Prop := traceThroughsRow.holds Try.pinned (OpenSpec.ofChange traceThroughsSpec)

/-- ITS FALSE NEIGHBOUR: 'it returns false'. Refute it at one input. -/
def traceThroughsWrong : ChangeSpec := { name := "traceThroughs", fn := fun _ => fun
  | [d1, d2, d3] => { results := [.lit (.bool false)], args := [d1, d2, d3] }
  | _ => none }
def TraceThroughsWrongFalsely : Prop := traceThroughsRow.holds Try.pinned (OpenSpec.ofChange traceThroughsWrong)

/-- 'senvylaw10.TraceCuts': WHATEVER THE INPUT: true; the input reads as it did. -/
def traceCutsSpec : ChangeSpec := { name := "traceCuts", fn := fun _ => fun
  | [d1, d2, d3, d4] => { results := [.lit (.bool true)], args := [d1, d2, d3, d4] }
  | _ => none }
def traceCutsRow : OpenClaim := { program := "ytbgpdcbljjdjnaa", sum := "21ad91cdf838f38385006106e8415bf14988934b0f33c655909bfd247aa9b748", func := "senvy/senvylaw10.TraceCuts", spec := "traceCuts", unfollowed := true, recurses := true, plainKeys := false, apart := false }
def TraceCutsSaid : Prop := traceCutsRow.holds Try.pinned (OpenSpec.ofChange traceCutsSpec)

/-- ITS FALSE NEIGHBOUR: 'it returns false'. Refute it at one input. -/
def traceCutsWrong : ChangeSpec := { name := "traceCuts", fn := fun _ => fun
  | [d1, d2, d3, d4] => { results := [.lit (.bool false)], args := [d1, d2, d3, d4] }
  | _ => none }
def TraceCutsWrongFalsely : Prop := traceCutsRow.holds Try.pinned (OpenSpec.ofChange traceCutsWrong)

/-- 'senvylaw10.TraceWays': WHATEVER THE INPUT: true; the input reads as it did. -/
def traceWaysSpec : ChangeSpec := { name := "traceWays", fn := fun _ => fun
  | [d1, d2, d3, d4] => { results := [.lit (.bool true)], args := [d1, d2, d3, d4] }
  | _ => none }
def traceWaysRow : OpenClaim := { program := "ytbgpdcbljjdjnaa", sum := "21ad91cdf838f38385006106e8415bf14988934b0f33c655909bfd247aa9b748", func := "senvy/senvylaw10.TraceWays", spec := "traceWays", unfollowed := true, recurses := true, plainKeys := false, apart := false }
def TraceWaysSaid : Prop := traceWaysRow.holds Try.pinned (OpenSpec.ofChange traceWaysSpec)

/-- ITS FALSE NEIGHBOUR: 'it returns false'. Refute it at one input. -/
def traceWaysWrong : ChangeSpec := { name := "traceWays", fn := fun _ => fun
  | [d1, d2, d3, d4] => { results := [.lit (.bool false)], args := [d1, d2, d3, d4] }
  | _ => none }
def TraceWaysWrongFalsely : Prop := traceWaysRow.holds Try.pinned (OpenSpec.ofChange traceWaysWrong)

/-- 'senvylaw10.TraceProved': WHATEVER THE INPUT: true; the input reads as it did. -/
def traceProvedSpec : ChangeSpec := { name := "traceProved", fn := fun _ => fun
  | [d1, d2, d3, d4, d5, d6] => { results := [.lit (.bool true)], args := [d1, d2, d3, d4, d5, d6] }
  | _ => none }
def traceProvedRow : OpenClaim := { program := "ytbgpdcbljjdjnaa", sum := "21ad91cdf838f38385006106e8415bf14988934b0f33c655909bfd247aa9b748", func := "senvy/senvylaw10.TraceProved", spec := "traceProved", unfollowed := true, recurses := true, plainKeys := false, apart := false }
def TraceProvedSaid : Prop := traceProvedRow.holds Try.pinned (OpenSpec.ofChange traceProvedSpec)

/-- ITS FALSE NEIGHBOUR: 'it returns false'. Refute it at one input. -/
def traceProvedWrong : ChangeSpec := { name := "traceProved", fn := fun _ => fun
  | [d1, d2, d3, d4, d5, d6] => { results := [.lit (.bool false)], args := [d1, d2, d3, d4, d5, d6] }
  | _ => none }
def TraceProvedWrongFalsely : Prop := traceProvedRow.holds Try.pinned (OpenSpec.ofChange traceProvedWrong)

/-- 'senvylaw10.TraceCounted': WHATEVER THE INPUT: true; the input reads as it did. -/
def traceCountedSpec : ChangeSpec := { name := "traceCounted", fn := fun _ => fun
  | [d1, d2] => { results := [.lit (.bool true)], args := [d1, d2] }
  | _ => none }
def traceCountedRow : OpenClaim := { program := "ytbgpdcbljjdjnaa", sum := "21ad91cdf838f38385006106e8415bf14988934b0f33c655909bfd247aa9b748", func := "senvy/senvylaw10.TraceCounted", spec := "traceCounted", unfollowed := true, recurses := true, plainKeys := false, apart := false }
def TraceCountedSaid : Prop := traceCountedRow.holds Try.pinned (OpenSpec.ofChange traceCountedSpec)

/-- ITS FALSE NEIGHBOUR: 'it returns false'. Refute it at one input. -/
def traceCountedWrong : ChangeSpec := { name := "traceCounted", fn := fun _ => fun
  | [d1, d2] => { results := [.lit (.bool false)], args := [d1, d2] }
  | _ => none }
def TraceCountedWrongFalsely : Prop := traceCountedRow.holds Try.pinned (OpenSpec.ofChange traceCountedWrong)

/-- 'senvylaw10.TraceParts': WHATEVER THE INPUT: true; the input reads as it did. -/
def tracePartsSpec : ChangeSpec := { name := "traceParts", fn := fun _ => fun
  | [d1, d2] => { results := [.lit (.bool true)], args := [d1, d2] }
  | _ => none }
def tracePartsRow : OpenClaim := { program := "ytbgpdcbljjdjnaa", sum := "21ad91cdf838f38385006106e8415bf14988934b0f33c655909bfd247aa9b748", func := "senvy/senvylaw10.TraceParts", spec := "traceParts", unfollowed := true, recurses := true, plainKeys := false, apart := false }
def TracePartsSaid : Prop := tracePartsRow.holds Try.pinned (OpenSpec.ofChange tracePartsSpec)

/-- ITS FALSE NEIGHBOUR: 'it returns false'. Refute it at one input. -/
def tracePartsWrong : ChangeSpec := { name := "traceParts", fn := fun _ => fun
  | [d1, d2] => { results := [.lit (.bool false)], args := [d1, d2] }
  | _ => none }
def TracePartsWrongFalsely : Prop := tracePartsRow.holds Try.pinned (OpenSpec.ofChange tracePartsWrong)

/-- 'senvylaw10.TraceThrough': WHATEVER THE INPUT: true; the input reads as it did. -/
def traceThroughSpec : ChangeSpec := { name := "traceThrough", fn := fun _ => fun
  | [d1, d2, d3, d4] => { results := [.lit (.bool true)], args := [d1, d2, d3, d4] }
  | _ => none }
def traceThroughRow : OpenClaim := { program := "ytbgpdcbljjdjnaa", sum := "21ad91cdf838f38385006106e8415bf14988934b0f33c655909bfd247aa9b748", func := "senvy/senvylaw10.TraceThrough", spec := "traceThrough", unfollowed := true, recurses := true, plainKeys := false, apart := false }
def TraceThroughSaid : Prop := traceThroughRow.holds Try.pinned (OpenSpec.ofChange traceThroughSpec)

/-- ITS FALSE NEIGHBOUR: 'it returns false'. Refute it at one input. -/
def traceThroughWrong : ChangeSpec := { name := "traceThrough", fn := fun _ => fun
  | [d1, d2, d3, d4] => { results := [.lit (.bool false)], args := [d1, d2, d3, d4] }
  | _ => none }
def TraceThroughWrongFalsely : Prop := traceThroughRow.holds Try.pinned (OpenSpec.ofChange traceThroughWrong)

/-- 'senvylaw10.TraceCommon': WHATEVER THE INPUT: true; the input reads as it did. -/
def traceCommonSpec : ChangeSpec := { name := "traceCommon", fn := fun _ => fun
  | [d1, d2, d3] => { results := [.lit (.bool true)], args := [d1, d2, d3] }
  | _ => none }
def traceCommonRow : OpenClaim := { program := "ytbgpdcbljjdjnaa", sum := "21ad91cdf838f38385006106e8415bf14988934b0f33c655909bfd247aa9b748", func := "senvy/senvylaw10.TraceCommon", spec := "traceCommon", unfollowed := true, recurses := true, plainKeys := false, apart := false }
def TraceCommonSaid : Prop := traceCommonRow.holds Try.pinned (OpenSpec.ofChange traceCommonSpec)

/-- ITS FALSE NEIGHBOUR: 'it returns false'. Refute it at one input. -/
def traceCommonWrong : ChangeSpec := { name := "traceCommon", fn := fun _ => fun
  | [d1, d2, d3] => { results := [.lit (.bool false)], args := [d1, d2, d3] }
  | _ => none }
def TraceCommonWrongFalsely : Prop := traceCommonRow.holds Try.pinned (OpenSpec.ofChange traceCommonWrong)

/-- 'senvylaw10.TraceMore': WHATEVER THE INPUT: true; the input reads as it did. -/
def traceMoreSpec : ChangeSpec := { name := "traceMore", fn := fun _ => fun
  | [d1, d2, d3, d4, d5] => { results := [.lit (.bool true)], args := [d1, d2, d3, d4, d5] }
  | _ => none }
def traceMoreRow : OpenClaim := { program := "ytbgpdcbljjdjnaa", sum := "21ad91cdf838f38385006106e8415bf14988934b0f33c655909bfd247aa9b748", func := "senvy/senvylaw10.TraceMore", spec := "traceMore", unfollowed := true, recurses := true, plainKeys := false, apart := false }
def TraceMoreSaid : Prop := traceMoreRow.holds Try.pinned (OpenSpec.ofChange traceMoreSpec)

/-- ITS FALSE NEIGHBOUR: 'it returns false'. Refute it at one input. -/
def traceMoreWrong : ChangeSpec := { name := "traceMore", fn := fun _ => fun
  | [d1, d2, d3, d4, d5] => { results := [.lit (.bool false)], args := [d1, d2, d3, d4, d5] }
  | _ => none }
def TraceMoreWrongFalsely : Prop := traceMoreRow.holds Try.pinned (OpenSpec.ofChange traceMoreWrong)

/-- 'senvylaw10.TraceJoined': WHATEVER THE INPUT: true; the input reads as it did. -/
def traceJoinedSpec : ChangeSpec := { name := "traceJoined", fn := fun _ => fun
  | [d1, d2] => { results := [.lit (.bool true)], args := [d1, d2] }
  | _ => none }
def traceJoinedRow : OpenClaim := { program := "ytbgpdcbljjdjnaa", sum := "21ad91cdf838f38385006106e8415bf14988934b0f33c655909bfd247aa9b748", func := "senvy/senvylaw10.TraceJoined", spec := "traceJoined", unfollowed := true, recurses := true, plainKeys := false, apart := false }
def TraceJoinedSaid : Prop := traceJoinedRow.holds Try.pinned (OpenSpec.ofChange traceJoinedSpec)

/-- ITS FALSE NEIGHBOUR: 'it returns false'. Refute it at one input. -/
def traceJoinedWrong : ChangeSpec := { name := "traceJoined", fn := fun _ => fun
  | [d1, d2] => { results := [.lit (.bool false)], args := [d1, d2] }
  | _ => none }
def TraceJoinedWrongFalsely : Prop := traceJoinedRow.holds Try.pinned (OpenSpec.ofChange traceJoinedWrong)

/-- 'senvylaw10.TraceKnown': WHATEVER THE INPUT: true; the input reads as it did. -/
def traceKnownSpec : ChangeSpec := { name := "traceKnown", fn := fun _ => fun
  | [] => { results := [.lit (.bool true)], args := [] }
  | _ => none }
def traceKnownRow : OpenClaim := { program := "ytbgpdcbljjdjnaa", sum := "21ad91cdf838f38385006106e8415bf14988934b0f33c655909bfd247aa9b748", func := "senvy/senvylaw10.TraceKnown", spec := "traceKnown", unfollowed := true, recurses := true, plainKeys := false, apart := false }
def TraceKnownSaid : Prop := traceKnownRow.holds Try.pinned (OpenSpec.ofChange traceKnownSpec)

/-- ITS FALSE NEIGHBOUR: 'it returns false'. Refute it at one input. -/
def traceKnownWrong : ChangeSpec := { name := "traceKnown", fn := fun _ => fun
  | [] => { results := [.lit (.bool false)], args := [] }
  | _ => none }
def TraceKnownWrongFalsely : Prop := traceKnownRow.holds Try.pinned (OpenSpec.ofChange traceKnownWrong)

/- THE SECOND FORM. 'bulk': how many values and letters a reading holds, each counted each time it is reached (what is shared counts as often as it is met; a slice's spare places count too). A statement '..UptoSaid' is the law's where the arguments, and the package variables that the reading takes, are together of bulk at most 1048576: NARROWER than '..Said'. Prove '..Said' where nothing that the law and all that it calls make is longer than what came in: it says more and counts as full. Else prove '..UptoSaid'. A law counts once. -/
mutual
def uptoBulk {H : Type} : DataW H → Nat
  | .lit (.string bytes) => bytes.length + 1
  | .lit _ => 1
  | .nil => 1
  | .ptr d => uptoBulk d + 1
  | .slice elems spare => uptoBulkAll elems + uptoBulkAll spare + 1
  | .agg parts => uptoBulkAll parts + 1
  | .iface _ d => uptoBulk d + 1
  | .map entries => uptoBulkEntries entries + 1
  | .held _ => 1
def uptoBulkAll {H : Type} : List (DataW H) → Nat
  | [] => 0
  | d :: r => uptoBulk d + uptoBulkAll r
def uptoBulkEntries {H : Type} : List (Lit × DataW H) → Nat
  | [] => 0
  | x :: r => uptoBulkEntry x + uptoBulkEntries r
def uptoBulkEntry {H : Type} : Lit × DataW H → Nat
  | (.string bytes, d) => bytes.length + uptoBulk d + 1
  | (_, d) => uptoBulk d + 1
 end
def uptoSmall : (H : Type) → List (DataW H) → Bool := fun _ ds => decide (uptoBulkAll ds ≤ 1048576)
def OpenSpec.upto (s : _root_.Go.ChangeSpec) : _root_.Go.OpenSpec := { _root_.Go.OpenSpec.ofChange s with cond := some uptoSmall }

/-- 'senvylaw10.TraceMixes', WHERE WHAT IT READS IS OF BULK AT MOST 1048576: true; the input reads as it did. -/
def traceMixesUptoRow : OpenClaim := { program := "ytbgpdcbljjdjnaa", sum := "21ad91cdf838f38385006106e8415bf14988934b0f33c655909bfd247aa9b748", func := "senvy/senvylaw10.TraceMixes", spec := "traceMixes", unfollowed := true, recurses := true, plainKeys := false, apart := false, narrowed := true }
def TraceMixesUptoSaid : Prop := traceMixesUptoRow.holds Try.pinned (OpenSpec.upto traceMixesSpec)

/-- 'senvylaw10.TraceThroughs', WHERE WHAT IT READS IS OF BULK AT MOST 1048576: true; the input reads as it did. -/
def traceThroughsUptoRow : OpenClaim := { program := "ytbgpdcbljjdjnaa", sum := "21ad91cdf838f38385006106e8415bf14988934b0f33c655909bfd247aa9b748", func := "senvy/senvylaw10.TraceThroughs", spec := "traceThroughs", unfollowed := true, recurses := true, plainKeys := false, apart := false, narrowed := true }
def TraceThroughsUptoSaid : Prop := traceThroughsUptoRow.holds Try.pinned (OpenSpec.upto traceThroughsSpec)

/-- 'senvylaw10.TraceCuts', WHERE WHAT IT READS IS OF BULK AT MOST 1048576: true; the input reads as it did. -/
def traceCutsUptoRow : OpenClaim := { program := "ytbgpdcbljjdjnaa", sum := "21ad91cdf838f38385006106e8415bf14988934b0f33c655909bfd247aa9b748", func := "senvy/senvylaw10.TraceCuts", spec := "traceCuts", unfollowed := true, recurses := true, plainKeys := false, apart := false, narrowed := true }
def TraceCutsUptoSaid : Prop := traceCutsUptoRow.holds Try.pinned (OpenSpec.upto traceCutsSpec)

/-- 'senvylaw10.TraceWays', WHERE WHAT IT READS IS OF BULK AT MOST 1048576: true; the input reads as it did. -/
def traceWaysUptoRow : OpenClaim := { program := "ytbgpdcbljjdjnaa", sum := "21ad91cdf838f38385006106e8415bf14988934b0f33c655909bfd247aa9b748", func := "senvy/senvylaw10.TraceWays", spec := "traceWays", unfollowed := true, recurses := true, plainKeys := false, apart := false, narrowed := true }
def TraceWaysUptoSaid : Prop := traceWaysUptoRow.holds Try.pinned (OpenSpec.upto traceWaysSpec)

/-- 'senvylaw10.TraceProved', WHERE WHAT IT READS IS OF BULK AT MOST 1048576: true; the input reads as it did. -/
def traceProvedUptoRow : OpenClaim := { program := "ytbgpdcbljjdjnaa", sum := "21ad91cdf838f38385006106e8415bf14988934b0f33c655909bfd247aa9b748", func := "senvy/senvylaw10.TraceProved", spec := "traceProved", unfollowed := true, recurses := true, plainKeys := false, apart := false, narrowed := true }
def TraceProvedUptoSaid : Prop := traceProvedUptoRow.holds Try.pinned (OpenSpec.upto traceProvedSpec)

/-- 'senvylaw10.TraceCounted', WHERE WHAT IT READS IS OF BULK AT MOST 1048576: true; the input reads as it did. -/
def traceCountedUptoRow : OpenClaim := { program := "ytbgpdcbljjdjnaa", sum := "21ad91cdf838f38385006106e8415bf14988934b0f33c655909bfd247aa9b748", func := "senvy/senvylaw10.TraceCounted", spec := "traceCounted", unfollowed := true, recurses := true, plainKeys := false, apart := false, narrowed := true }
def TraceCountedUptoSaid : Prop := traceCountedUptoRow.holds Try.pinned (OpenSpec.upto traceCountedSpec)

/-- 'senvylaw10.TraceParts', WHERE WHAT IT READS IS OF BULK AT MOST 1048576: true; the input reads as it did. -/
def tracePartsUptoRow : OpenClaim := { program := "ytbgpdcbljjdjnaa", sum := "21ad91cdf838f38385006106e8415bf14988934b0f33c655909bfd247aa9b748", func := "senvy/senvylaw10.TraceParts", spec := "traceParts", unfollowed := true, recurses := true, plainKeys := false, apart := false, narrowed := true }
def TracePartsUptoSaid : Prop := tracePartsUptoRow.holds Try.pinned (OpenSpec.upto tracePartsSpec)

/-- 'senvylaw10.TraceThrough', WHERE WHAT IT READS IS OF BULK AT MOST 1048576: true; the input reads as it did. -/
def traceThroughUptoRow : OpenClaim := { program := "ytbgpdcbljjdjnaa", sum := "21ad91cdf838f38385006106e8415bf14988934b0f33c655909bfd247aa9b748", func := "senvy/senvylaw10.TraceThrough", spec := "traceThrough", unfollowed := true, recurses := true, plainKeys := false, apart := false, narrowed := true }
def TraceThroughUptoSaid : Prop := traceThroughUptoRow.holds Try.pinned (OpenSpec.upto traceThroughSpec)

/-- 'senvylaw10.TraceCommon', WHERE WHAT IT READS IS OF BULK AT MOST 1048576: true; the input reads as it did. -/
def traceCommonUptoRow : OpenClaim := { program := "ytbgpdcbljjdjnaa", sum := "21ad91cdf838f38385006106e8415bf14988934b0f33c655909bfd247aa9b748", func := "senvy/senvylaw10.TraceCommon", spec := "traceCommon", unfollowed := true, recurses := true, plainKeys := false, apart := false, narrowed := true }
def TraceCommonUptoSaid : Prop := traceCommonUptoRow.holds Try.pinned (OpenSpec.upto traceCommonSpec)

/-- 'senvylaw10.TraceMore', WHERE WHAT IT READS IS OF BULK AT MOST 1048576: true; the input reads as it did. -/
def traceMoreUptoRow : OpenClaim := { program := "ytbgpdcbljjdjnaa", sum := "21ad91cdf838f38385006106e8415bf14988934b0f33c655909bfd247aa9b748", func := "senvy/senvylaw10.TraceMore", spec := "traceMore", unfollowed := true, recurses := true, plainKeys := false, apart := false, narrowed := true }
def TraceMoreUptoSaid : Prop := traceMoreUptoRow.holds Try.pinned (OpenSpec.upto traceMoreSpec)

/-- 'senvylaw10.TraceJoined', WHERE WHAT IT READS IS OF BULK AT MOST 1048576: true; the input reads as it did. -/
def traceJoinedUptoRow : OpenClaim := { program := "ytbgpdcbljjdjnaa", sum := "21ad91cdf838f38385006106e8415bf14988934b0f33c655909bfd247aa9b748", func := "senvy/senvylaw10.TraceJoined", spec := "traceJoined", unfollowed := true, recurses := true, plainKeys := false, apart := false, narrowed := true }
def TraceJoinedUptoSaid : Prop := traceJoinedUptoRow.holds Try.pinned (OpenSpec.upto traceJoinedSpec)

/-- 'senvylaw10.TraceKnown', WHERE WHAT IT READS IS OF BULK AT MOST 1048576: true; the input reads as it did. -/
def traceKnownUptoRow : OpenClaim := { program := "ytbgpdcbljjdjnaa", sum := "21ad91cdf838f38385006106e8415bf14988934b0f33c655909bfd247aa9b748", func := "senvy/senvylaw10.TraceKnown", spec := "traceKnown", unfollowed := true, recurses := true, plainKeys := false, apart := false, narrowed := true }
def TraceKnownUptoSaid : Prop := traceKnownUptoRow.holds Try.pinned (OpenSpec.upto traceKnownSpec)

end Rows
end Go.Proofs.Ytbgpdcbljjdjnaa
