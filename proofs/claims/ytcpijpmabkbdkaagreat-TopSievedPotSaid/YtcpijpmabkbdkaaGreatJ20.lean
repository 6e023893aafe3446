/- Texts of this proof, joined. No statement of the seat is proved here. -/
import Derived.Test.YtcpijpmabkbdkaaGreatJ19
set_option linter.unusedVariables false
set_option linter.unusedSimpArgs false
set_option maxRecDepth 1000000
set_option maxHeartbeats 64000000
noncomputable section
namespace Go.Kx.Tryz
open Go Go.Proofs Go.Kx
def os4:List Oc:=[s0,s5,s6,s8,s10,s12,s14,s17,s20,s21]
theorem gR:∀o,o∈os4->dO Tryz.prog o:=by
 unfold os4
 simp only[e6e]
 exact⟨d4q,d4r,d4s,d4t,c9r,c9s,c9t,c9u,c9v,c9w,λ_ h=>nomatch h⟩
end Go.Kx.Tryz
end
