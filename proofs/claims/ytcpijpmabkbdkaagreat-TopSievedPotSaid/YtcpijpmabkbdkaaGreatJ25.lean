/- Texts of this proof, joined. No statement of the seat is proved here. -/
import Derived.Test.YtcpijpmabkbdkaaGreatJ4
import Derived.Test.YtcpijpmabkbdkaaGreatJ15
import Derived.Test.YtcpijpmabkbdkaaGreatJ17
import Derived.Test.YtcpijpmabkbdkaaGreatJ18
import Derived.Test.YtcpijpmabkbdkaaGreatJ22
import Derived.Test.YtcpijpmabkbdkaaGreatJ23
import Derived.Test.YtcpijpmabkbdkaaGreatJ24
import Derived.Test.YtcpijpmabkbdkaaGreatJ5
import Derived.Test.YtcpijpmabkbdkaaGreatJ10
set_option linter.unusedVariables false
set_option linter.unusedSimpArgs false
set_option maxRecDepth 100000
set_option maxHeartbeats 64000000
noncomputable section
namespace Go.Px.Tryz
open Go Go.Proofs Go.Px
theorem d9k:Fn Tryz.prog 99 [] (bool true):=Kx.works_fn e7p (e7q Kx.Tryz.os1_ok) Kx.Tryz.w01
theorem d9l:Fn Tryz.prog 100 [] (bool true):=Kx.works_fn e7p (e7q Kx.Tryz.os2_ok) Kx.Tryz.w02
theorem d9m:Fn Tryz.prog 101 [] (bool true):=Kx.works_fn e7p (e7q λ_ h=>absurd h e0m) Kx.Tryz.w03
theorem d9n:Fn Tryz.prog 54 [] (bool true):=Kx.works_fn e7p (e7q Kx.Tryz.os5_ok) Kx.Tryz.w04
theorem d9o:Fn Tryz.prog 28 [] (bool true):=Kx.works_fn e7p (e7q λ_ h=>absurd h e0m) Kx.Tryz.w05
theorem d9p:Fn Tryz.prog 15 [] (bool true):=Kx.works_fn e7p (e7q λ_ h=>absurd h e0m) Kx.Tryz.w06
theorem c5r:Fn Tryz.prog 53 [] (bool true):=by
 have h1:=d9k
 have h2:=d9l
 have h3:=d9m
 refine e1t (cuts:=[]) tys hM Tryz.func53 rfl Tryz.call53 rfl ?_
 show exC Tryz.prog T [] _ false none 0 (entry 8 []) (cH T [ResultVar.tmp 0] _)
 conv=>whnf
 repeat' first|((first|refine go ?_|(apply Cl.go;(conv=>whnf);first|refine e2m (h1) ?_|refine e2m (h2) ?_|refine e2m (h3) ?_));conv=>whnf)|(refine go2 ?_ ?_<;>(try intro hc)<;>conv=>whnf)|fail
 all_goals exact Lf
theorem c5s:Fn Tryz.prog 27 [] (bool true):=by
 have h1:=c5r
 have h2:=d9n
 refine e1t (cuts:=[]) tys hM Tryz.func27 rfl Tryz.call27 rfl ?_
 show exC Tryz.prog T [] _ false none 0 (entry 5 []) (cH T [ResultVar.tmp 0] _)
 conv=>whnf
 repeat' first|((first|refine go ?_|(apply Cl.go;(conv=>whnf);first|refine e2m (h1) ?_|refine e2m (h2) ?_));conv=>whnf)|(refine go2 ?_ ?_<;>(try intro hc)<;>conv=>whnf)|fail
 all_goals exact Lf
theorem c5t:Fn Tryz.prog 14 [] (bool true):=by
 have h1:=c5s
 have h2:=d9o
 refine e1t (cuts:=[]) tys hM Tryz.func14 rfl Tryz.call14 rfl ?_
 show exC Tryz.prog T [] _ false none 0 (entry 5 []) (cH T [ResultVar.tmp 0] _)
 conv=>whnf
 repeat' first|((first|refine go ?_|(apply Cl.go;(conv=>whnf);first|refine e2m (h1) ?_|refine e2m (h2) ?_));conv=>whnf)|(refine go2 ?_ ?_<;>(try intro hc)<;>conv=>whnf)|fail
 all_goals exact Lf
theorem c5u:Fn Tryz.prog 5 [] (bool true):=by
 have h1:=c5t
 have h2:=d9p
 refine e1t (cuts:=[]) tys hM Tryz.func5 rfl Tryz.call5 rfl ?_
 show exC Tryz.prog T [] _ false none 0 (entry 5 []) (cH T [ResultVar.tmp 0] _)
 conv=>whnf
 repeat' first|((first|refine go ?_|(apply Cl.go;(conv=>whnf);first|refine e2m (h1) ?_|refine e2m (h2) ?_));conv=>whnf)|(refine go2 ?_ ?_<;>(try intro hc)<;>conv=>whnf)|fail
 all_goals exact Lf
end Go.Px.Tryz
namespace Go.Px.Tryz.Po
open Go Go.Proofs Go.Px Go.Px.Tryz
theorem law_all (R C:List (Int×Int))(Z:List (List (Int×Int)))(x:Nat)(g:R.length<=9223372036854775807/\C.length<=9223372036854775807/\Z.length<=9223372036854775807/\∀l∈Z,l.length<=9223372036854775807)(hx:x<256):Fn Tryz.prog 3 [jA R C Z,u8 x] (bool true):=by
 have hw:=c5u
 obtain⟨g1,g2,g3,g4⟩:=g
 by_cases hb:R.length<=4/\Z.length<=4
 ·obtain⟨c,hE,hk⟩:=a7f R C Z (by omega) g2 (by omega) g4
  by_cases e:c=0
  ·subst e
   exact b7y R C Z (hk rfl).1 (hk rfl).2 hE hw x hx λl h1 h4=>d8k l h1 h4
  ·refine e1t (cuts:=[]) tys hM Tryz.func3 rfl Tryz.call3 rfl ?_
   show exC Tryz.prog T [] _ false none 0 (entry 176 [jA R C Z,u8 x]) (cH T [ResultVar.tmp 4] _)
   conv=>whnf
   repeat' first|((first|refine go ?_|(apply Cl.go;(conv=>whnf);first|refine e2m (hE) ?_|refine e2m (hw) ?_));conv=>whnf)|(refine go2 ?_ ?_<;>(try intro hc)<;>conv=>whnf)|fail
   all_goals first|exact Lf|(exfalso;omega)
 ·refine e1t (cuts:=[]) tys hM Tryz.func3 rfl Tryz.call3 rfl ?_
  show exC Tryz.prog T [] _ false none 0 (entry 176 [jA R C Z,u8 x]) (cH T [ResultVar.tmp 4] _)
  conv=>whnf
  by_cases ha:R.length<=4
  ·repeat' first|((first|refine go ?_|refine gc (hw) ?_);conv=>whnf)|(refine go2 ?_ ?_<;>(try intro hc)<;>conv=>whnf)|fail
   all_goals first|exact Lf|(exfalso;omega)
  ·repeat' first|((first|refine go ?_|refine gc (hw) ?_);conv=>whnf)|(refine go2 ?_ ?_<;>(try intro hc)<;>conv=>whnf)|fail
   all_goals first|exact Lf|(exfalso;omega)
end Go.Px.Tryz.Po
end
