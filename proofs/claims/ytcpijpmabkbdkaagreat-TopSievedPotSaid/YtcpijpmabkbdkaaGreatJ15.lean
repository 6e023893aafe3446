/- Texts of this proof, joined. No statement of the seat is proved here. -/
import Derived.Test.YtcpijpmabkbdkaaGreatJ14
set_option linter.unusedVariables false
set_option linter.unusedSimpArgs false
set_option maxRecDepth 1000000
set_option maxHeartbeats 64000000
noncomputable section
namespace Go.Kx.Tryz
open Go Go.Proofs Go.Kx
def os1:List Oc:=[f0,f1,f2,f3,f4,f5,f6,f7,f8,f9,f10,f11,f12,f13,f14]
theorem os1_ok:∀o,o∈os1->dO Tryz.prog o:=by
 unfold os1
 simp only[e6e]
 exact⟨d2j,d2k,d2l,d2m,d2n,d2o,d2p,d2q,d2r,d2s,c7p,c7q,c7r,c7s,c7t,λ_ h=>nomatch h⟩
theorem w01:c0h Tryz.prog (hs os1) 1000000 99=true:=by kernel_rfl
end Go.Kx.Tryz
end
