/- Texts of this proof, joined. No statement of the seat is proved here. -/
import Derived.Test.YtcpijpmabkbdkaaGreatJ13
set_option linter.unusedVariables false
set_option linter.unusedSimpArgs false
set_option maxRecDepth 1000000
set_option maxHeartbeats 64000000
noncomputable section
namespace Go.Kx.Tryz
open Go Go.Proofs Go.Kx
theorem w05:c0h Tryz.prog (hs []) 1000000 28=true:=by kernel_rfl
end Go.Kx.Tryz
end
