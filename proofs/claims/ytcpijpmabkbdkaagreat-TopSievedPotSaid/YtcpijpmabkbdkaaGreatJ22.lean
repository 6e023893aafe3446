/- Texts of this proof, joined. No statement of the seat is proved here. -/
import Derived.Test.YtcpijpmabkbdkaaGreatJ21
set_option linter.unusedVariables false
set_option linter.unusedSimpArgs false
set_option maxRecDepth 1000000
set_option maxHeartbeats 64000000
noncomputable section
namespace Go.Kx.Tryz
open Go Go.Proofs Go.Kx
def os5:List Oc:=[t0,t1,t2,t3,t4,t5,t6,t7,t8,t9,t10,t11,t12]
theorem os5_ok:∀o,o∈os5->dO Tryz.prog o:=by
 unfold os5
 simp only[e6e]
 exact⟨d4w,d4x,d4y,d4z,d5a,d5b,d5c,d5d,d5e,d5f,d0f,d0g,d0h,λ_ h=>nomatch h⟩
theorem w04:c0h Tryz.prog (hs os5) 1000000 54=true:=by kernel_rfl
end Go.Kx.Tryz
end
