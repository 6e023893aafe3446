/- Texts of this proof, joined. No statement of the seat is proved here. -/
import Derived.Test.YtcpijpmabkbdkaaGreatJ4
import Derived.Test.YtcpijpmabkbdkaaGreatJ8
import Derived.Test.YtcpijpmabkbdkaaGreatJ9
set_option linter.unusedVariables false
set_option linter.unusedSimpArgs false
set_option maxRecDepth 100000
set_option maxHeartbeats 64000000
noncomputable section
namespace Go.Px.Tryz.Po
open Go Go.Proofs Go.Px Go.Px.Tryz
def c1g (bs:List Bool):Row:=⟨3*bs.length,(List.range bs.length).map λ(i:Nat)=>⟨3*(i:Int),3*(i:Int)+2⟩,(lsB 0 bs).map λ(i:Nat)=>(3*i:Int)⟩
def clB (bs:List Bool):Bool:=
  yY (c1g bs)==((lsB 0 bs).map λ(i:Nat)=>(i:Int),0)&&rL (c1g bs)==(3*((lsB 0 bs).length:Int),0)&&qN (c1g bs)==(bs.map λb=>if b then 2 else 0,0)&&xS (c1g bs)==((c1g bs).weak,0)
def b6f:Nat->List (List Bool)
  |0=>[[]]
  |n+1=>(b6f n).flatMap λl=>[false::l,true::l]
theorem zC:∀l:List Bool,l∈b6f l.length
 |[]=>e1k.2 rfl
 |b::l=>by
  show b::l∈(b6f l.length).flatMap _
  rw[e1a]
  exact⟨l,zC l,by cases b<;>simp⟩
theorem c7i:([1,2,3,4].all λn=>(b6f n).all clB)=true:=by decide+kernel
theorem d2f (l:List Bool)(h1:1<=l.length)(h2:l.length<=4):clB l=true:=by
 have h:=e1d.1 c7i l.length (by simp;omega)
 exact e1d.1 h l (zC l)
theorem d8k (l:List Int)(h1:1<=l.length)(h4:l.length<=4):let r:Row:=⟨3*l.length,oB l.length,(sB l l.length).map (3* ·)⟩
  Fn Tryz.prog 7 [gV r] (tpl [ints (sB l l.length),int 0])/\Fn Tryz.prog 8 [gV r] (tpl [int (3*((sB l l.length).length:Int)),int 0])/\Fn Tryz.prog 9 [gV r] (tpl [ints (blB l),int 0])/\Fn Tryz.prog 10 [gV r] (tpl [ints r.weak,int 0]):=by
 intro r
 have hb:=d2f (mkB l) (by unfold mkB;rw[e0z];exact h1) (by unfold mkB;rw[e0z];exact h4)
 have er:c1g (mkB l)=r:=by
  show c1g (mkB l)=(⟨_,_,_⟩:Row)
  unfold c1g oB sB
  rw[e5q,e7l,show(mkB l).length=l.length by unfold mkB;rw[e0z]]
  rfl
 have e1:sB l l.length=(lsB 0 (mkB l)).map λ(i:Nat)=>(i:Int):=by unfold sB;rw[e5q]
 have e2:(sB l l.length).length=(lsB 0 (mkB l)).length:=by rw[e1,e0z]
 have e3:blB l=(mkB l).map λb=>if b then 2 else 0:=by
  unfold blB mkB
  rw[e7l]
  refine e2s λx _=>?_
  by_cases h:x=2<;>simp[h]
 have hl:r.lots.length<1000000:=by show(oB l.length).length<_;rw[c1a];omega
 have hw:r.weak.length<1000000:=by show((sB l l.length).map (3* ·)).length<_;rw[e0z];have:=c1i l l.length (e0g _);omega
 unfold clB at hb
 rw[er]at hb
 simp only[e0d,beq_iff_eq]at hb
 obtain⟨⟨⟨b1,b2⟩,b3⟩,b4⟩:=hb
 have c1:=a7g r hl hw
 have c2:=a1i r hl hw
 have c3:=a1e r hl hw
 have c4:=a1d r hl hw
 rw[b1]at c1
 rw[b2]at c2
 rw[b3]at c3
 rw[b4]at c4
 rw[e2,e1,e3]
 exact⟨c1,c2,c3,c4⟩
end Go.Px.Tryz.Po
end
