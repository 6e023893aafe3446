/- Texts of this proof, joined. No statement of the seat is proved here. -/
import Derived.Test.YtcpijpmabkbdkaaGreatJ4
set_option linter.unusedVariables false
set_option linter.unusedSimpArgs false
set_option maxRecDepth 100000
set_option maxHeartbeats 64000000
noncomputable section
namespace Go.Px.Tryz.Po
open Go Go.Proofs Go.Px Go.Px.Tryz
def wkF (s:List Int):Nat->DV:=bG int 0 (s.map (3* ·))
theorem b9y {s:List Int}{x:Int}{n m:Nat}{g:Nat->DV}(hn:n=s.length)(hm:m=(s++[x]).length)(h:dI (g 0) (int (3*x))):∀j,j<m->dI (apd n (wkF s) g j) (wkF (s++[x]) j):=by
 subst hn;subst hm
 intro j hj
 have e:(s++[x]).map (3* ·)=s.map (3* ·)++[3*x]:=e1z ..
 have:=aA (enc:=int) (d:=0) (l:=s.map (3* ·)) h j (by simpa using hj)
 rw[e0z]at this
 unfold wkF
 rw[e]
 exact this
theorem a0x {x:Int}{f g:Nat->DV}(h:dI (g 0) (int (3*x))):∀j,j<[x].length->dI (apd 0 f g j) (wkF [x] j):=gW h
def d8i (i:Int)(id id2:Nat)(p:Int)(nx:Nat):List Lot->List Int->List (Nat×AV)×List (Nat×Res)
  |[],s=>([(9,.d (int i)),(8,.ms id2 1 0 s.length)],[(id,.cs true 3 (uO [.d (int p),.d (.v (.slice none 0 0)),.d (.v (.slice none 0 0))])),(id2,.row true 3 1 s.length (bG int 0 s))])
  |y::o,[]=>([(9,.d (int i)),(8,.ms id2 1 0 0)],[(id,.cs true 3 (uO [.d (int p),.ms nx 2 0 (y::o).length,.d (.v (.slice none 0 0))])),(id2,.row true 3 1 0 (bG int 0 [])),(nx,.row true 35 2 (y::o).length (bG a8k default (y::o)))])
  |y::o,v::w=>([(9,.d (int i)),(8,.ms id2 1 0 (v::w).length)],[(id,.cs true 3 (uO [.d (int p),.ms nx 2 0 (y::o).length,.ms (nx+1) 1 0 (v::w).length])),(id2,.row true 3 1 (v::w).length (bG int 0 (v::w))),(nx,.row true 35 2 (y::o).length (bG a8k default (y::o))),(nx+1,.row true 3 1 (v::w).length (wkF (v::w)))])
def u8 (n:Nat):DV:= .v (.int .u8 n)
theorem b7y (R C:List (Int×Int))(Z:List (List (Int×Int)))(h:TabOk R C Z)(hs:iA R C Z)(hE:Fn Tryz.prog 4 [jA R C Z] (int 0))(hw:Fn Tryz.prog 5 [] (bool true))(x:Nat)(hx:x<256)
  (hF:∀l:List Int,1<=l.length->l.length<=4->Fn Tryz.prog 7 [gV ⟨3*l.length,oB l.length,(sB l l.length).map (3* ·)⟩] (tpl [ints (sB l l.length),int 0])/\Fn Tryz.prog 8 [gV ⟨3*l.length,oB l.length,(sB l l.length).map (3* ·)⟩] (tpl [int (3*((sB l l.length).length:Int)),int 0])/\Fn Tryz.prog 9 [gV ⟨3*l.length,oB l.length,(sB l l.length).map (3* ·)⟩] (tpl [ints (blB l),int 0])/\Fn Tryz.prog 10 [gV ⟨3*l.length,oB l.length,(sB l l.length).map (3* ·)⟩] (tpl [ints ((sB l l.length).map (3* ·)),int 0])):Fn Tryz.prog 3 [jA R C Z,u8 x] (bool true):=by
 have hr0:=h.r0
 have hr1:=h.r1
 have hz0:=h.z0
 have hMo:=a9o R C Z h hs ((x:Int)%30) (by omega)
 refine e1t (cuts:=[]) tys hM Tryz.func3 rfl Tryz.call3 rfl ?_
 show exC Tryz.prog T [] _ false none 0 (entry 176 [jA R C Z,u8 x]) (cH T [ResultVar.tmp 4] _)
 conv=>whnf
 repeat' first|((first|refine go ?_|refine gc (hE) ?_);conv=>whnf)|(refine go2 ?_ ?_<;>(try intro hc)<;>conv=>whnf)|fail
 all_goals try(exfalso;omega)
 refine e8d (hMo) ?_
 (conv=>whnf)
 refine Ob.lsX (hMo) ?_ ?_
 focus (exact Lf)
 rintro⟨l,hl,ho⟩
 (conv=>whnf)
 repeat' first|(refine go ?_;conv=>whnf)|(refine go2 ?_ ?_<;>(try intro hc)<;>conv=>whnf)|fail
 all_goals try(exfalso;exact hc (e2r Nat.cast hl))
 refine e2x [0,1,4,5,7,10,11,12,13,14,15,16,17,18,90,91,92,93,94,95,96,97,98,99,100,101,102,103,104,105,106,107,108,109,110,111,112,113,114,115,116,117,118,119,120,121,122,123,124,125,126,127,128,129,130,131,132,133,134,135,136,137,138,139,140,141,142,143,144,145,146,147,148,149,151,152,153,155,156,157,158,159,160,161,162,163,164,165,166,167,168,169,170,171,172,173,175] 150 ?_
 (conv=>whnf)
 refine e3v 176 ({p:Int×List Lot×List Int//(0<=p.1/\p.1<=l.length)/\p.2.1=oB p.1.toNat/\p.2.2=sB l p.1.toNat}) 2 (λ⟨(i,o,s),_⟩ nx=>d8i i 41 43 (3*l.length) nx o s) (λp=>(l.length-p.1.1).toNat) (⟨(0,[],[]),⟨by simp,by simp only;omega⟩,rfl,rfl⟩) ?_ ?_ (hl:=by rintro⟨⟨i,o,s⟩,_⟩;cases o<;>cases s<;>rfl)
 ·rintro⟨⟨i,o,s⟩,⟨i0,i1⟩,ho,hs⟩
  simp only at i0 i1 ho hs
  have hol:o.length=i.toNat:=by rw[ho,c1a]
  have hsl:=c1i l i.toNat (by omega)
  rw[<-hs]at hsl
  by_cases hi:i<l.length
  ·have hoo:oB (i+1).toNat=o++[⟨3*i,3*i+2⟩]:=by
    rw[show(i+1).toNat=i.toNat+1 by omega,c4g,<-ho,e3b i0]
   have hy:l.getD (0+i.toNat) 0=2->sB l (i+1).toNat=s++[i]:=λe=>by
    rw[show(i+1).toNat=i.toNat+1 by omega,c9x (by omega) (by rwa[e0f]at e),<-hs,e3b i0]
   have hn:¬l.getD (0+i.toNat) 0=2->sB l (i+1).toNat=s:=λe=>by
    rw[show(i+1).toNat=i.toNat+1 by omega,d4u (by omega) (by rwa[e0f]at e),<-hs]
   cases o with
   |nil=>
    obtain rfl:s=[]:=List.eq_nil_of_length_eq_zero (by simp at hol;omega)
    conv=>whnf
    repeat' first|(refine go ?_;conv=>whnf)|(refine go2 ?_ ?_<;>(try intro hc)<;>conv=>whnf)|fail
    ·refine⟨rfl,⟨(i+1,[⟨3*i,3*i+2⟩],[i]),⟨by simp only;omega,by simp only;omega⟩,hoo.symm,(hy hc).symm⟩,?_,by simp only;omega⟩
     repeat' first|(refine e2d ?_)|((conv=>whnf);first|exact True.intro|(refine And.intro ?_ ?_)|exact rfl|exact e1h (e0f _)|exact e0h _|((conv=>arg 1;whnf);first|exact e0h _|(refine e1q ?_)|(refine e1i ?_)|(refine e2k ?_)|(refine e2e ?_ ?_)|(refine e1v ?_)|(refine e2f rfl ?_))|(refine aA ?_)|(apply bA)|exact aB|exact aC|exact e0m|exact bS.refl _)|exact rfl|(refine And.intro ?_ ?_)|exact e0h _
     all_goals first|omega|(simp;done)|refine gW ?_|refine a0x ?_
     repeat' first|(refine e2d ?_)|((conv=>whnf);first|exact True.intro|(refine And.intro ?_ ?_)|exact rfl|exact e1h (e0f _)|exact e0h _|((conv=>arg 1;whnf);first|exact e0h _|(refine e1q ?_)|(refine e1i ?_)|(refine e2k ?_)|(refine e2e ?_ ?_)|(refine e1v ?_)|(refine e2f rfl ?_))|(refine aA ?_)|(apply bA)|exact aB|exact aC|exact e0m|exact bS.refl _)|exact rfl|(refine And.intro ?_ ?_)|exact e0h _
    ·refine⟨rfl,⟨(i+1,[⟨3*i,3*i+2⟩],[]),⟨by simp only;omega,by simp only;omega⟩,hoo.symm,(hn hc).symm⟩,?_,by simp only;omega⟩
     repeat' first|(refine e2d ?_)|((conv=>whnf);first|exact True.intro|(refine And.intro ?_ ?_)|exact rfl|exact e1h (e0f _)|exact e0h _|((conv=>arg 1;whnf);first|exact e0h _|(refine e1q ?_)|(refine e1i ?_)|(refine e2k ?_)|(refine e2e ?_ ?_)|(refine e1v ?_)|(refine e2f rfl ?_))|(refine aA ?_)|(apply bA)|exact aB|exact aC|exact e0m|exact bS.refl _)|exact rfl|(refine And.intro ?_ ?_)|exact e0h _
     all_goals first|omega|(simp;done)|refine gW ?_
     repeat' first|(refine e2d ?_)|((conv=>whnf);first|exact True.intro|(refine And.intro ?_ ?_)|exact rfl|exact e1h (e0f _)|exact e0h _|((conv=>arg 1;whnf);first|exact e0h _|(refine e1q ?_)|(refine e1i ?_)|(refine e2k ?_)|(refine e2e ?_ ?_)|(refine e1v ?_)|(refine e2f rfl ?_))|(refine aA ?_)|(apply bA)|exact aB|exact aC|exact e0m|exact bS.refl _)|exact rfl|(refine And.intro ?_ ?_)|exact e0h _
   |cons y o=>
    cases s with
    |nil=>
     conv=>whnf
     repeat' first|(refine go ?_;conv=>whnf)|(refine go2 ?_ ?_<;>(try intro hc)<;>conv=>whnf)|fail
     ·refine⟨rfl,⟨(i+1,y::o++[⟨3*i,3*i+2⟩],[i]),⟨by simp only;omega,by simp only;omega⟩,hoo.symm,(hy hc).symm⟩,?_,by simp only;omega⟩
      repeat' first|(refine e2d ?_)|((conv=>whnf);first|exact True.intro|(refine And.intro ?_ ?_)|exact rfl|exact e1h (e0f _)|exact e0h _|((conv=>arg 1;whnf);first|exact e0h _|(refine e1q ?_)|(refine e1i ?_)|(refine e2k ?_)|(refine e2e ?_ ?_)|(refine e1v ?_)|(refine e2f rfl ?_))|(refine aA ?_)|exact eF.refl _|exact aB|exact aC|exact e0m|exact bS.refl _)|exact rfl|(refine And.intro ?_ ?_)|exact e0h _
      all_goals first|omega|(simp;done)|refine aA (l:=y::o) ?_|refine gW ?_|refine a0x ?_
      repeat' first|(refine e2d ?_)|((conv=>whnf);first|exact True.intro|(refine And.intro ?_ ?_)|exact rfl|exact e1h (e0f _)|exact e0h _|((conv=>arg 1;whnf);first|exact e0h _|(refine e1q ?_)|(refine e1i ?_)|(refine e2k ?_)|(refine e2e ?_ ?_)|(refine e1v ?_)|(refine e2f rfl ?_))|(refine aA ?_)|(apply bA)|exact aB|exact aC|exact e0m|exact bS.refl _)|exact rfl|(refine And.intro ?_ ?_)|exact e0h _
     ·refine⟨rfl,⟨(i+1,y::o++[⟨3*i,3*i+2⟩],[]),⟨by simp only;omega,by simp only;omega⟩,hoo.symm,(hn hc).symm⟩,?_,by simp only;omega⟩
      repeat' first|(refine e2d ?_)|((conv=>whnf);first|exact True.intro|(refine And.intro ?_ ?_)|exact rfl|exact e1h (e0f _)|exact e0h _|((conv=>arg 1;whnf);first|exact e0h _|(refine e1q ?_)|(refine e1i ?_)|(refine e2k ?_)|(refine e2e ?_ ?_)|(refine e1v ?_)|(refine e2f rfl ?_))|(refine aA ?_)|exact eF.refl _|exact aB|exact aC|exact e0m|exact bS.refl _)|exact rfl|(refine And.intro ?_ ?_)|exact e0h _
      all_goals first|omega|(simp;done)|refine aA (l:=y::o) ?_|refine gW ?_
      repeat' first|(refine e2d ?_)|((conv=>whnf);first|exact True.intro|(refine And.intro ?_ ?_)|exact rfl|exact e1h (e0f _)|exact e0h _|((conv=>arg 1;whnf);first|exact e0h _|(refine e1q ?_)|(refine e1i ?_)|(refine e2k ?_)|(refine e2e ?_ ?_)|(refine e1v ?_)|(refine e2f rfl ?_))|(refine aA ?_)|(apply bA)|exact aB|exact aC|exact e0m|exact bS.refl _)|exact rfl|(refine And.intro ?_ ?_)|exact e0h _
    |cons v w=>
     conv=>whnf
     repeat' first|(refine go ?_;conv=>whnf)|(refine go2 ?_ ?_<;>(try intro hc)<;>conv=>whnf)|fail
     ·refine⟨rfl,⟨(i+1,y::o++[⟨3*i,3*i+2⟩],v::w++[i]),⟨by simp only;omega,by simp only;omega⟩,hoo.symm,(hy hc).symm⟩,?_,by simp only;omega⟩
      repeat' first|(refine e2d ?_)|((conv=>whnf);first|exact True.intro|(refine And.intro ?_ ?_)|exact rfl|exact e1h (e0f _)|exact e0h _|((conv=>arg 1;whnf);first|exact e0h _|(refine e1q ?_)|(refine e1i ?_)|(refine e2k ?_)|(refine e2e ?_ ?_)|(refine e1v ?_)|(refine e2f rfl ?_))|(refine aA ?_)|exact eF.refl _|exact aB|exact aC|exact e0m|exact bS.refl _)|exact rfl|(refine And.intro ?_ ?_)|exact e0h _
      all_goals first|omega|(simp;done)|refine b9y (s:=v::w) rfl rfl ?_|refine aA (l:=v::w) ?_|refine aA (l:=y::o) ?_
      repeat' first|(refine e2d ?_)|((conv=>whnf);first|exact True.intro|(refine And.intro ?_ ?_)|exact rfl|exact e1h (e0f _)|exact e0h _|((conv=>arg 1;whnf);first|exact e0h _|(refine e1q ?_)|(refine e1i ?_)|(refine e2k ?_)|(refine e2e ?_ ?_)|(refine e1v ?_)|(refine e2f rfl ?_))|(refine aA ?_)|(apply bA)|exact aB|exact aC|exact e0m|exact bS.refl _)|exact rfl|(refine And.intro ?_ ?_)|exact e0h _
     ·refine⟨rfl,⟨(i+1,y::o++[⟨3*i,3*i+2⟩],v::w),⟨by simp only;omega,by simp only;omega⟩,hoo.symm,(hn hc).symm⟩,?_,by simp only;omega⟩
      repeat' first|(refine e2d ?_)|((conv=>whnf);first|exact True.intro|(refine And.intro ?_ ?_)|exact rfl|exact e1h (e0f _)|exact e0h _|((conv=>arg 1;whnf);first|exact e0h _|(refine e1q ?_)|(refine e1i ?_)|(refine e2k ?_)|(refine e2e ?_ ?_)|(refine e1v ?_)|(refine e2f rfl ?_))|(refine aA ?_)|exact eF.refl _|exact aB|exact aC|exact e0m|exact bS.refl _)|exact rfl|(refine And.intro ?_ ?_)|exact e0h _
      all_goals first|omega|(simp;done)|refine aA (l:=y::o) ?_
      repeat' first|(refine e2d ?_)|((conv=>whnf);first|exact True.intro|(refine And.intro ?_ ?_)|exact rfl|exact e1h (e0f _)|exact e0h _|((conv=>arg 1;whnf);first|exact e0h _|(refine e1q ?_)|(refine e1i ?_)|(refine e2k ?_)|(refine e2e ?_ ?_)|(refine e1v ?_)|(refine e2f rfl ?_))|(refine aA ?_)|(apply bA)|exact aB|exact aC|exact e0m|exact bS.refl _)|exact rfl|(refine And.intro ?_ ?_)|exact e0h _
  ·have e:i.toNat=l.length:=by omega
   rw[e]at ho hs
   obtain⟨c1,c2,c3,c4⟩:=hF l (by omega) (by omega)
   rw[<-ho,<-hs]at c1 c2 c3 c4
   have i1:=xR s s (by omega)
   have i2:=xR (s.map (3* ·)) (s.map (3* ·)) (by rw[e0z];omega)
   rw[e1r rfl]at i1 i2
   have hbl:(blB l).length=l.length:=by unfold blB;rw[e0z]
   have hb:=λ(k:Int) (k0:0<=k) (k1:k<l.length)=>c2f l k.toNat (by omega)
   generalize blB l=B at*
   cases o with
   |nil=>exfalso;simp at hol;omega
   |cons y o=>
    cases s with
    |nil=>
     conv=>whnf
     repeat' first|((first|refine go ?_|(apply Cl.go;(conv=>whnf);first|refine e2m (c1) ?_|refine e2m (c2) ?_|refine e2m (c3) ?_|refine e2m (c4) ?_|refine e2m (i1) ?_|refine e2m (i2) ?_));conv=>whnf)|(refine go2 ?_ ?_<;>(try intro hc)<;>conv=>whnf)|fail
     refine e2x [0,1,5,14,175] 150 ?_
     (conv=>whnf)
     refine e3v 176 ({k:Int//0<=k/\k<=l.length}) 0 (λ⟨k,_⟩ nx=>([(18,.d (int k))],[])) (λp=>(l.length-p.1).toNat) (⟨0,by omega,by omega⟩) ?_ ?_
     ·rintro⟨k,k0,k1⟩
      by_cases hk:k<l.length
      ·have hbk:=hb k k0 hk
       have hbq:decide (B.getD k.toNat 0=2)=decide (l.getD (0+k.toNat) 0=2):=by
        rw[hbk,e0f]
        by_cases h:l.getD k.toNat 0=2<;>simp
       conv=>whnf
       repeat' first|(refine go ?_;conv=>whnf)|(refine go2 ?_ ?_<;>(try intro hc)<;>conv=>whnf)|fail
       exact⟨rfl,⟨k+1,by omega,by omega⟩,Lf,by simp only;omega⟩
      ·conv=>whnf
       repeat' first|((first|refine go ?_|refine gc (hw) ?_);conv=>whnf)|(refine go2 ?_ ?_<;>(try intro hc)<;>conv=>whnf)|fail
       all_goals exact Lf
     ·exact Lf
    |cons v w=>
     conv=>whnf
     repeat' first|((first|refine go ?_|(apply Cl.go;(conv=>whnf);first|refine e2m (c1) ?_|refine e2m (c2) ?_|refine e2m (c3) ?_|refine e2m (c4) ?_|refine e2m (i1) ?_|refine e2m (i2) ?_));conv=>whnf)|(refine go2 ?_ ?_<;>(try intro hc)<;>conv=>whnf)|fail
     refine e2x [0,1,5,14,175] 150 ?_
     (conv=>whnf)
     refine e3v 176 ({k:Int//0<=k/\k<=l.length}) 0 (λ⟨k,_⟩ nx=>([(18,.d (int k))],[])) (λp=>(l.length-p.1).toNat) (⟨0,by omega,by omega⟩) ?_ ?_
     ·rintro⟨k,k0,k1⟩
      by_cases hk:k<l.length
      ·have hbk:=hb k k0 hk
       have hbq:decide (B.getD k.toNat 0=2)=decide (l.getD (0+k.toNat) 0=2):=by
        rw[hbk,e0f]
        by_cases h:l.getD k.toNat 0=2<;>simp
       conv=>whnf
       repeat' first|(refine go ?_;conv=>whnf)|(refine go2 ?_ ?_<;>(try intro hc)<;>conv=>whnf)|fail
       exact⟨rfl,⟨k+1,by omega,by omega⟩,Lf,by simp only;omega⟩
      ·conv=>whnf
       repeat' first|((first|refine go ?_|refine gc (hw) ?_);conv=>whnf)|(refine go2 ?_ ?_<;>(try intro hc)<;>conv=>whnf)|fail
       all_goals exact Lf
     ·exact Lf
 ·exact Lf
end Go.Px.Tryz.Po
end
