/- Texts of this proof, joined. No statement of the seat is proved here. -/
import Derived.Test.YtcpijpmabkbdkaaGreatJ3
import Derived.Test.YtcpijpmabkbdkaaGreatJ5
set_option linter.unusedVariables false
set_option linter.unusedSimpArgs false
set_option maxRecDepth 100000
set_option maxHeartbeats 64000000
noncomputable section
namespace Go.Px.Tryz
open Go Go.Proofs Go.Px
theorem own:ownKnob Tryz.prog.godebug=none:=by kernel_rfl
theorem a2o:laidOutB Tryz.prog=true:=by kernel_rfl
def rnE (r:Int×Int):DV:=elD [int r.1,int r.2]
theorem d3y:Opn false Tryz.prog 35 (λr:Int×Int=>[int r.1,int r.2]) (λ_=>True):=
 Opn.map (Opn.struct Tryz.underlying35 (by kernel_rfl) (a7h.cons (Opn.int Tryz.underlying2) (a7h.cons (Opn.int Tryz.underlying2) a7h.nil))) (λp=>⟨p.1,p.2.1⟩) λp h=>⟨rfl,trivial⟩
theorem b3j (q:Bool):Opn q Tryz.prog 22 (λl:List (Int×Int)=>[fQ 2 rnE (0,0) l]) (λl=>(∀h∈l,True)/\l.length<=maxLen):=
 Opn.slice (k:=2) Tryz.underlying22 (by kernel_rfl) (by decide) (λ_=>rfl) (λa x hx=>by simp at hx;rcases hx with rfl|rfl<;>trivial) (0,0) d3y
def d9f (Z:List (List (Int×Int))):Prop:=(∀l∈Z,(∀h∈l,True)/\l.length<=maxLen)/\Z.length<=maxLen
theorem c4k:Opn true Tryz.prog 23 (λt:List (List (Int×Int))=>[fQ 1 (λl=>elD [fQ 2 rnE (0,0) l]) [] t]) d9f:=
 Opn.slice (k:=1) Tryz.underlying23 (by kernel_rfl) (by decide) (λ_=>rfl) (λa x hx=>by simp at hx;rcases hx with rfl;trivial) [] (b3j false)
theorem c5a (r:Int×Int):Imp (rnE r) (rgD r):=Imp.ag rfl λj hj=>by
 match j,hj with
 |0,_=>exact e6y _
 |1,_=>exact e6y _
theorem a3k (l:List (Int×Int)):Imp (fQ 2 rnE (0,0) l) (rgs l):=Imp.sl id rfl λj _=>c5a _
theorem c5n (R C:List (Int×Int))(Z:List (List (Int×Int))):Imp (st ([fQ 2 rnE (0,0) R]++([fQ 2 rnE (0,0) C]++([fQ 1 (λl=>elD [fQ 2 rnE (0,0) l]) [] Z]++[])))) (jA R C Z):=Imp.ag rfl λj hj=>by
 match j,hj with
 |0,_=>exact a3k R
 |1,_=>exact a3k C
 |2,_=>exact Imp.sl id rfl λj _=>a3k _
theorem tab_arg {H:Type}{enc:TypeId×Value->H}{w:World}{base:Nat}{v:Value}{d:DataW H}{ps:List MemPlace}(ht:DataW.Trod enc Tryz.prog w 0 (λ_=>true) true 25 v d ps)(hv:Value.okWide Tryz.prog w .any base 25 v):
  ∃p:List (Int×Int)×List (Int×Int)×List (List (Int×Int)),(p.1.length<=9223372036854775807/\p.2.1.length<=9223372036854775807/\p.2.2.length<=9223372036854775807/\∀l∈p.2.2,l.length<=9223372036854775807)/\Rep (All w) w (jA p.1 p.2.1 p.2.2) v:=by
 simp only[Value.okWide,Tryz.underlying25]at hv
 obtain⟨cs,rfl,_,hrow⟩:=hv
 obtain⟨⟨R,C,Z,u⟩,hg,hc⟩:=Opn.arg (Opn.struct Tryz.underlying25 (by kernel_rfl) (a7h.cons (b3j true) (a7h.cons (b3j true) (a7h.cons c4k a7h.nil)))) ht λ_=>b3o hrow
 obtain⟨g1,g2,g3,_⟩:=hg
 have h1:=g1.2
 have h2:=g2.2
 have h3:=g3.2
 unfold maxLen at h1 h2 h3
 refine⟨(R,C,Z),⟨by simp only at h1⊢;omega,by simp only at h2⊢;omega,by simp only at h3⊢;omega,λl hl=>?_⟩,(c5n R C Z (All w) w).1 _ (lX.st hc)⟩
 have h4:=(g3.1 l hl).2
 unfold maxLen at h4;omega
open Po (u8)
theorem u8_arg {H:Type}{enc:TypeId×Value->H}{w:World}{base:Nat}{v:Value}{d:DataW H}{ps:List MemPlace}(ht:DataW.Trod enc Tryz.prog w 0 (λ_=>true) true 5 v d ps)(hv:Value.okWide Tryz.prog w .any base 5 v):
  ∃n:Nat,n<256/\Rep (All w) w (u8 n) v:=by
 obtain⟨n,hg,hc⟩:=Opn.arg (Opn.int (q:=false) Tryz.underlying5) ht λh=>by cases h
 obtain⟨k,rfl⟩:=Go.WideShapes.okWide_int Tryz.underlying5 hv
 have hr:=hc.one rfl
 simp only[Lit.wf,IntKind.min,IntKind.max,e0d,e4h]at hg
 have hn:n=(n.toNat:Int):=by have:=hg.1;simp[IntKind.signed]at this;omega
 refine⟨n.toNat,by have:=hg.2;simp[IntKind.signed,IntKind.bits]at this;omega,?_⟩
 rw[hn]at hr;exact hr
end Go.Px.Tryz
end
