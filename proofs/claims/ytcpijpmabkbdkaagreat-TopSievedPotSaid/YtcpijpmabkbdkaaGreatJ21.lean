/- Texts of this proof, joined. No statement of the seat is proved here. -/
import Derived.Test.YtcpijpmabkbdkaaGreatJ20
import Derived.Test.YtcpijpmabkbdkaaGreatJ12
set_option linter.unusedVariables false
set_option linter.unusedSimpArgs false
set_option maxRecDepth 1000000
set_option maxHeartbeats 64000000
noncomputable section
namespace Go.Kx.Tryz
open Go Go.Proofs Go.Kx
def t0:Oc:=⟨108,[.a [.s (im 4) 0 2 2 0,.s (im 7) 0 2 2 0,.s (im 14) 0 2 2 0]],im 271,im 1588,[(im 4,.c (il [3,4,5,6])),(im 7,.c (il [2,3,5,6])),(im 14,.c [.s (im 10) 0 2 2 0,.s (im 13) 0 2 2 0]),(im 10,.c (il [0,3,1,2])),(im 13,.c (il [0,4,2,5]))],.t [.s (im 1587) 0 2 2 1,ii 0],[(im 1587,.c [.s (im 1302) 0 2 2 1,.s (im 1585) 0 2 2 1]),(im 1302,.c (il [1,2])),(im 1585,.c (il [1,4]))]⟩
theorem d4w:dO Tryz.prog t0:=aI mixed (hs_ok gR) (N:=1000000) (show eP Tryz.prog (hs os4) 1000000 t0=true by kernel_rfl)
def t1:Oc:=⟨108,[.a [.s (im 20) 0 2 2 0,.s (im 23) 0 2 2 0,.s (im 30) 0 2 2 0]],im 1588,im 2027,[(im 20,.c (il [3,4,2,2])),(im 23,.c (il [2,3,5,6])),(im 30,.c [.s (im 26) 0 2 2 0,.s (im 29) 0 2 2 0]),(im 26,.c (il [0,3,1,2])),(im 29,.c (il [0,4,2,5]))],.t [.z (.slice none 0 0),ii 20],[]⟩
theorem d4x:dO Tryz.prog t1:=aI mixed (hs_ok gR) (N:=1000000) (show eP Tryz.prog (hs os4) 1000000 t1=true by kernel_rfl)
def t2:Oc:=⟨110,[.a [.s (im 4) 0 2 2 0,.s (im 7) 0 2 2 0,.s (im 14) 0 2 2 0]],im 2167,im 2788,[(im 4,.c (il [3,4,5,6])),(im 7,.c (il [2,3,5,6])),(im 14,.c [.s (im 10) 0 2 2 0,.s (im 13) 0 2 2 0]),(im 10,.c (il [0,3,1,2])),(im 13,.c (il [0,4,2,5]))],.t [.a [.z (.slice none 0 0),.z (.slice none 0 0),ii 0],ii 5],[]⟩
theorem d4y:dO Tryz.prog t2:=aI mixed (hs_ok gR) (N:=1000000) (show eP Tryz.prog (hs os4) 1000000 t2=true by kernel_rfl)
def t3:Oc:=⟨110,[.a [.s (im 20) 0 2 2 0,.s (im 23) 0 2 2 0,.s (im 30) 0 2 2 0]],im 2789,im 3239,[(im 20,.c (il [3,4,2,2])),(im 23,.c (il [2,3,5,6])),(im 30,.c [.s (im 26) 0 2 2 0,.s (im 29) 0 2 2 0]),(im 26,.c (il [0,3,1,2])),(im 29,.c (il [0,4,2,5]))],.t [.a [.s (im 3234) 0 2 2 1,.s (im 3238) 0 2 2 1,ii 0],ii 0],[(im 3234,.c (il [0,1])),(im 3238,.c (il [0,1]))]⟩
theorem d4z:dO Tryz.prog t3:=aI mixed (hs_ok gR) (N:=1000000) (show eP Tryz.prog (hs os4) 1000000 t3=true by kernel_rfl)
def t4:Oc:=⟨111,[.a [.s (im 4) 0 2 2 0,.s (im 7) 0 2 2 0,.s (im 14) 0 2 2 0],ii 0,ii 0],im 3240,im 4231,[(im 4,.c (il [3,4,5,6])),(im 7,.c (il [2,3,5,6])),(im 14,.c [.s (im 10) 0 2 2 0,.s (im 13) 0 2 2 0]),(im 10,.c (il [0,3,1,2])),(im 13,.c (il [0,4,2,5]))],.t [.a (il [1,3]),ii 0],[]⟩
theorem d5a:dO Tryz.prog t4:=aI mixed (hs_ok gR) (N:=1000000) (show eP Tryz.prog (hs os4) 1000000 t4=true by kernel_rfl)
def t5:Oc:=⟨111,[.a [.s (im 4) 0 2 2 0,.s (im 7) 0 2 2 0,.s (im 14) 0 2 2 0],ii 1,ii 1],im 4232,im 5223,[(im 4,.c (il [3,4,5,6])),(im 7,.c (il [2,3,5,6])),(im 14,.c [.s (im 10) 0 2 2 0,.s (im 13) 0 2 2 0]),(im 10,.c (il [0,3,1,2])),(im 13,.c (il [0,4,2,5]))],.t [.a (il [3,5]),ii 0],[]⟩
theorem d5b:dO Tryz.prog t5:=aI mixed (hs_ok gR) (N:=1000000) (show eP Tryz.prog (hs os4) 1000000 t5=true by kernel_rfl)
def t6:Oc:=⟨111,[.a [.s (im 4) 0 2 2 0,.s (im 7) 0 2 2 0,.s (im 14) 0 2 2 0],ii 0,ii 2],im 5224,im 5271,[(im 4,.c (il [3,4,5,6])),(im 7,.c (il [2,3,5,6])),(im 14,.c [.s (im 10) 0 2 2 0,.s (im 13) 0 2 2 0]),(im 10,.c (il [0,3,1,2])),(im 13,.c (il [0,4,2,5]))],.t [.a (il [0,0]),ii 2],[]⟩
theorem d5c:dO Tryz.prog t6:=aI mixed (hs_ok gR) (N:=1000000) (show eP Tryz.prog (hs os4) 1000000 t6=true by kernel_rfl)
def t7:Oc:=⟨112,[.a [.s (im 4) 0 2 2 0,.s (im 7) 0 2 2 0,.s (im 14) 0 2 2 0],ii 1],im 5272,im 6214,[(im 4,.c (il [3,4,5,6])),(im 7,.c (il [2,3,5,6])),(im 14,.c [.s (im 10) 0 2 2 0,.s (im 13) 0 2 2 0]),(im 10,.c (il [0,3,1,2])),(im 13,.c (il [0,4,2,5]))],.t [.a (il [5,6]),ii 0],[]⟩
theorem d5d:dO Tryz.prog t7:=aI mixed (hs_ok gR) (N:=1000000) (show eP Tryz.prog (hs os4) 1000000 t7=true by kernel_rfl)
def t8:Oc:=⟨113,[.a [.s (im 4) 0 2 2 0,.s (im 7) 0 2 2 0,.s (im 14) 0 2 2 0]],im 6215,im 7115,[(im 4,.c (il [3,4,5,6])),(im 7,.c (il [2,3,5,6])),(im 14,.c [.s (im 10) 0 2 2 0,.s (im 13) 0 2 2 0]),(im 10,.c (il [0,3,1,2])),(im 13,.c (il [0,4,2,5]))],.t [.a (il [8,9]),ii 0],[]⟩
theorem d5e:dO Tryz.prog t8:=aI mixed (hs_ok gR) (N:=1000000) (show eP Tryz.prog (hs os4) 1000000 t8=true by kernel_rfl)
def t9:Oc:=⟨6,[.a [.s (im 4) 0 2 2 0,.s (im 7) 0 2 2 0,.s (im 14) 0 2 2 0],ii 3],im 7116,im 8299,[(im 4,.c (il [3,4,5,6])),(im 7,.c (il [2,3,5,6])),(im 14,.c [.s (im 10) 0 2 2 0,.s (im 13) 0 2 2 0]),(im 10,.c (il [0,3,1,2])),(im 13,.c (il [0,4,2,5]))],.t [.s (im 8298) 0 2 2 1,ii 0],[(im 8298,.c (il [1,2]))]⟩
theorem d5f:dO Tryz.prog t9:=aI mixed (hs_ok gR) (N:=1000000) (show eP Tryz.prog (hs os4) 1000000 t9=true by kernel_rfl)
def t10:Oc:=⟨6,[.a [.s (im 4) 0 2 2 0,.s (im 7) 0 2 2 0,.s (im 14) 0 2 2 0],ii 5],im 8299,im 9482,[(im 4,.c (il [3,4,5,6])),(im 7,.c (il [2,3,5,6])),(im 14,.c [.s (im 10) 0 2 2 0,.s (im 13) 0 2 2 0]),(im 10,.c (il [0,3,1,2])),(im 13,.c (il [0,4,2,5]))],.t [.s (im 9481) 0 2 2 1,ii 0],[(im 9481,.c (il [0,1]))]⟩
theorem d0f:dO Tryz.prog t10:=aI mixed (hs_ok gR) (N:=1000000) (show eP Tryz.prog (hs os4) 1000000 t10=true by kernel_rfl)
def t11:Oc:=⟨6,[.a [.s (im 20) 0 2 2 0,.s (im 23) 0 2 2 0,.s (im 30) 0 2 2 0],ii 3],im 9482,im 9921,[(im 20,.c (il [3,4,2,2])),(im 23,.c (il [2,3,5,6])),(im 30,.c [.s (im 26) 0 2 2 0,.s (im 29) 0 2 2 0]),(im 26,.c (il [0,3,1,2])),(im 29,.c (il [0,4,2,5]))],.t [.z (.slice none 0 0),ii 20],[]⟩
theorem d0g:dO Tryz.prog t11:=aI mixed (hs_ok gR) (N:=1000000) (show eP Tryz.prog (hs os4) 1000000 t11=true by kernel_rfl)
def t12:Oc:=⟨114,[.a [.s (im 4) 0 2 2 0,.s (im 7) 0 2 2 0,.s (im 14) 0 2 2 0]],im 9921,im 12737,[(im 4,.c (il [3,4,5,6])),(im 7,.c (il [2,3,5,6])),(im 14,.c [.s (im 10) 0 2 2 0,.s (im 13) 0 2 2 0]),(im 10,.c (il [0,3,1,2])),(im 13,.c (il [0,4,2,5]))],.t [.a [.s (im 11708) 0 2 2 2,.s (im 12736) 0 2 2 2,.s (im 12352) 0 2 2 1],ii 0],[(im 11708,.c (il [3,4,5,6])),(im 12736,.c (il [2,3,5,6])),(im 12352,.c [.s (im 10824) 0 2 2 0,.s (im 11709) 0 2 2 0]),(im 10824,.c (il [1,3,1,2])),(im 11709,.c (il [0,2,3,5]))]⟩
theorem d0h:dO Tryz.prog t12:=aI mixed (hs_ok gR) (N:=1000000) (show eP Tryz.prog (hs os4) 1000000 t12=true by kernel_rfl)
end Go.Kx.Tryz
end
