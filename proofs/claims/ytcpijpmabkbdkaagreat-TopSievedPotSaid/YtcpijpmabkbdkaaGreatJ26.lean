/- Texts of this proof, joined. No statement of the seat is proved here. -/
import Derived.Test.YtcpijpmabkbdkaaGreatRows
import Derived.JoinedOf
set_option linter.unusedVariables false
set_option linter.unusedSimpArgs false
set_option maxRecDepth 100000
set_option maxHeartbeats 64000000
noncomputable section
namespace Go.Px.Tryz
open Go Go.Proofs Go.Proofs.YtcpijpmabkbdkaaGreat
theorem b6t:Tryz.prog.inPlace 3=["maps.clone"]:=eq_of_beq (by kernel_rfl)
theorem qQ:Tryz.prog.unfollowed 3=true:=by kernel_rfl
theorem c7e:Tryz.prog.varsNamed 3=Rows.topSievedPotRow.named:=eq_of_beq (by kernel_rfl)
theorem b0m:Tryz.prog.recurses 3=true:=by unfold Program.recurses;rw[qQ];rfl
theorem facts:joinedFacts Tryz.prog 3 Tryz.f3 Rows.topSievedPotSpec Rows.topSievedPotRow=true:=by
 unfold joinedFacts
 rw[b6t,qQ,c7e,b0m]
 kernel_rfl
end Go.Px.Tryz
end
