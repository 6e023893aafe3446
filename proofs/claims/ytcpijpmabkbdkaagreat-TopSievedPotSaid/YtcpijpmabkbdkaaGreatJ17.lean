/- Texts of this proof, joined. No statement of the seat is proved here. -/
import Derived.Test.YtcpijpmabkbdkaaGreatJ16
set_option linter.unusedVariables false
set_option linter.unusedSimpArgs false
set_option maxRecDepth 1000000
set_option maxHeartbeats 64000000
noncomputable section
namespace Go.Kx.Tryz
open Go Go.Proofs Go.Kx
def os2:List Oc:=[p1,p3,p4,p6,p8,p9,p11,p12,p13]
theorem os2_ok:∀o,o∈os2->dO Tryz.prog o:=by
 unfold os2
 simp only[e6e]
 exact⟨d3z,d4a,d4b,d4c,d4d,d4e,c9a,c9b,c9c,λ_ h=>nomatch h⟩
theorem w02:c0h Tryz.prog (hs os2) 1000000 100=true:=by kernel_rfl
end Go.Kx.Tryz
end
