/- Texts of this proof, joined. No statement of the seat is proved here. -/
import Derived.Test.YtcpijpmabkbdkaaGreatJ4
set_option linter.unusedVariables false
set_option linter.unusedSimpArgs false
set_option maxRecDepth 100000
set_option maxHeartbeats 64000000
noncomputable section
namespace Go.Px.Tryz.Po
open Go Go.Proofs Go.Px Go.Px.Tryz
def mk (B:Nat->Bool)(j:Nat):Int:=if B j=true then 1 else 0
def mK (B:Nat->Bool):DV:= .ag 10 λj=>int (mk B j)
def c9z (r:Row):DV:= .fn 48 1 0 (λ_=>dG r) (λ_=> .top)
def b3n (l:List Int):DV:= .ag 13 λj=>int (l.getD j 0)
def upD (o:Option (List Int)):DV:=match o with
  |some l=>tpl [b3n l,bool true]
  |none=>tpl [b3n [],bool false]
def b9v (r:Row)(W:List Int)(B:Nat->Bool)(k:Nat):Option (List Int):=upL r.lots.length (loN r) (hiN r) (zOf r) (λj=>W.getD j 0) (λi=> !B i) k
def oP (r:Row)(p:Int):List Nat:=(List.range r.lots.length).filter (xM r p)
theorem a2t (r:Row)(p:Int):lL r p=(oP r p).map λi:Nat=>(i:Int):=rfl
theorem b5i (r:Row)(W:List Int)(B:Nat->Bool){k:Nat}{l:List Int}(h:b9v r W B k=some l):b9v r W B (k+1)=match(oP r (W.getD k 0)).foldl (fX r W B l k) none with
  |none=>none
  |some v=>some (l++[v]):=by
 have e:(oP r (W.getD k 0)).foldl (fX r W B l k) none=_:=oY r W B l k r.lots.length
 rw[e]
 show upL _ _ _ _ _ _ (k+1)=_
 have h':upL r.lots.length (loN r) (hiN r) (zOf r) (λj=>W.getD j 0) (λi=> !B i) k=some l:=h
 rw[upL,h']
 try rfl
theorem a0t (r:Row)(W:List Int)(B:Nat->Bool){k:Nat}(h:b9v r W B k=none):∀d,b9v r W B (k+d)=none
 |0=>h
 |d+1=>by
  have ih:upL r.lots.length (loN r) (hiN r) (zOf r) (λj=>W.getD j 0) (λi=> !B i) (k+d)=none:=a0t r W B h d
  show upL _ _ _ _ _ _ (k+d+1)=none
  rw[upL,ih]
theorem a3g {f:Nat->DV}:∀j,j<13->dI (mid 0 13 (λ_=>DV.v (Value.int IntKind.i64 0)) f j) (bG int 0 [0] j):=by
 intro j hj
 repeat (rcases j with _|j; · exact⟨rfl,rfl⟩)
 omega
theorem z00:∀j:Nat,0<=[(0:Int)].getD j 0/\[(0:Int)].getD j 0<=40*0:=λj=>by
 rcases j with _|j<;>simp
def lV (l:List Int)(acc:Option Int):List Int:=match acc with
  |none=>l
  |some v=>l++[v]
theorem uR {l:List Int}{acc:Option Int}{k:Nat}{v:Int}{w:DV}(hw:w=int v)(hl:l.length=k):∀j,j<13->dI (upE k w (bG int 0 (lV l acc)) j) (bG int 0 (l++[v]) j):=by
 subst hw
 intro j _
 unfold upE bG
 by_cases e:j=k
 ·rw[e0c e,e,<-hl,d9r,e1m (e0g _)]
  simp
  exact⟨rfl,rfl⟩
 ·rw[d9z e]
  have h1:(lV l acc).getD j 0=(l++[v]).getD j 0:=by
   by_cases h:j<l.length
   ·rw[d9r,d9r,e1u h]
    cases acc with
    |none=>rfl
    |some b=>simp only[lV];rw[e1u h]
   ·have e2:(l++[v])[j]?=none:=e1w (by simp;omega)
    have e3:(lV l acc)[j]?=none:=by
     cases acc with
     |none=>exact e1w (by simp only[lV];omega)
     |some b=>exact e1w (by simp[lV];omega)
    rw[d9r,d9r,e2,e3]
  rw[h1]
  exact⟨rfl,rfl⟩
theorem b5m (r:Row)(hr:RowOk r)(W:List Int)(hW:W.length<=12)(B:Nat->Bool):Fn Tryz.prog 50 [dG r,ints W,mK B,c9z r] (upD (b9v r W B W.length)):=by
 have hl10:=hr.l10
 generalize hfin:b9v r W B W.length=fin
 refine e1t (cuts:=[]) tys hM Tryz.func50 rfl Tryz.call50 rfl ?_
 show exC Tryz.prog T [] _ false none 0 (entry 74 [dG r,ints W,mK B,c9z r]) (cH T [ResultVar.cell 8 59,ResultVar.tmp 9] _)
 conv=>whnf
 repeat' first|(refine go ?_;conv=>whnf)|(refine go2 ?_ ?_<;>(try intro hc)<;>conv=>whnf)|fail
 refine e2x [0,1,2,3,4,5,6,7,8,10,18,19,28,73] 40 ?_
 (conv=>whnf)
 refine e3v 74 ({q:Int×List Int//(0<=q.1/\q.1<=W.length)/\b9v r W B q.1.toNat=some q.2/\(q.2.length=q.1+1)/\∀j,0<=q.2.getD j 0/\q.2.getD j 0<=40*q.1}) 0 (λ⟨(i,l),_⟩ nx=>([(20,.d (int i))],[(6,.row true 59 1 13 (bG int 0 l)),(2,.row true 53 1 10 (λj=>int (mk B j)))])) (λp=>(W.length-p.1.1).toNat) (⟨(0,[0]),⟨by simp,by simp⟩,rfl,by simp,z00⟩) ?_ ?_
 ·rintro⟨⟨i,l⟩,⟨i0,i1⟩,hup,hlen,hb⟩
  simp only at i0 i1 hup hlen hb
  have hh:=rH r (W.getD i.toNat 0)
  have hsu:=b5i r W B hup
  have hLc:=a2t r (W.getD i.toNat 0)
  have hLmem:∀j,j<(oP r (W.getD i.toNat 0)).length->(oP r (W.getD i.toNat 0)).getD j 0<r.lots.length/\Has (eU r ((oP r (W.getD i.toNat 0)).getD j 0)) (W.getD i.toNat 0):=λj hj=>by
   have:=aE hj 0
   unfold oP at this⊢
   rw[e6v]at this
   exact⟨e1e.1 this.1,e2u this.2⟩
  have hsq:=oL r (W.getD i.toNat 0) (by omega) _ hLc.symm
  generalize oP r (W.getD i.toNat 0)=L at*
  clear hLc
  rw[e0z]at hsq
  have hget:∀j,(L.map λi:Nat=>(i:Int)).getD j 0=((L.getD j 0:Nat):Int):=λj=>by
   rw[d9r,e0j,d9r]
   cases L[j]?<;>rfl
  simp only[hget]at hsq
  conv=>whnf
  repeat' first|((first|refine go ?_|refine gc (hh) ?_);conv=>whnf)|(refine go2 ?_ ?_<;>(try intro hc)<;>conv=>whnf)|fail
  ·refine Rg.snap [0,1,2,3,4,5,6,7,8,9,10,11,12,13,14,15,16,18,19,20,22,23,24,25,26,28,29,30,31,33,34,35,36,37,38,39,40,41,42,43,44,46,47,48,49,50,51,52,53,54,55,56,57,58,59,60,61,62,63,65,66,67,68,69,71,72,73] 40 ?_
   (conv=>whnf)
   refine RgB.go 74 ({q:Nat×Option Int//q.1<=L.length/\q.2=(L.take q.1).foldl (fX r W B l i.toNat) none/\∀v,q.2=some v->0<=v/\v<=40*(i+1)}) 0 (λ⟨(k,acc),_⟩ nx=>[(6,.row true 59 1 13 (bG int 0 (lV l acc))),(14,.cs true 1 (λ_=> .d (bool acc.isSome)))]) (λp=>p.1.1) (⟨(0,none),by omega,rfl,λv hv=>by cases hv⟩) hsq ?_ ?_ ?_
   ·rintro⟨⟨k,acc⟩,hk,hacc,hab⟩ j hj0 hj
    simp only at hj0 hk hacc hab
    subst hj0
    obtain⟨hLk,hLh⟩:=hLmem k hj
    have hstep:(L.take (k+1)).foldl (fX r W B l i.toNat) none=fX r W B l i.toNat acc (L.getD k 0):=by
     rw[bP L k 0 hj,e4v,<-hacc];rfl
    generalize L.getD k 0=x at*
    cases hB:B x with
    |true=>
     have e:acc=(L.take (k+1)).foldl (fX r W B l i.toNat) none:=by rw[hstep];unfold fX;rw[e0c hB]
     have hm:mk B (0+((x:Nat):Int).toNat)=1:=by rw[e0f,e1b];exact e0c hB
     conv=>whnf
     repeat' first|(refine go ?_;conv=>whnf)|(refine go2 ?_ ?_<;>(try intro hc)<;>conv=>whnf)|fail
     exact⟨rfl,⟨(k+1,acc),by simp only;omega,e,hab⟩,rfl,Lf⟩
    |false=>
     have hm:mk B (0+((x:Nat):Int).toNat)=0:=by rw[e0f,e1b];exact d9z (by rw[hB];simp)
     have hz1:=oC hr x
     have hz2:=a7c hr x
     have hS:=a0e r x hr ⟨by omega,by omega⟩
     rw[e1b]at hS
     have hH:=λf:Nat=>pZ r x (W.getD f 0) ⟨by omega,by omega⟩
     conv=>whnf
     repeat' first|(refine go ?_;conv=>whnf)|(refine go2 ?_ ?_<;>(try intro hc)<;>conv=>whnf)|fail
     refine e2x [0,1,2,3,4,5,6,7,8,9,10,11,12,13,14,16,18,19,20,22,23,24,25,26,28,29,30,31,33,48,49,50,51,52,53,54,55,56,57,58,59,60,61,62,63,65,66,67,68,69,71,72,73] 40 ?_
     (conv=>whnf)
     refine e3v 74 ({f:Nat//f<=i.toNat/\fst (loN r) (hiN r) (λj=>W.getD j 0) x f=fst (loN r) (hiN r) (λj=>W.getD j 0) x i.toNat}) 0 (λ⟨f,_⟩ nx=>([(15,.d (int f))],[])) (λp=>p.1) (⟨i.toNat,e0g _,rfl⟩) ?_ ?_
     ·rintro⟨f,hf,hff⟩
      by_cases hgo:∃g,f=g+1/\Has (eU r x) (W.getD g 0)
      ·obtain⟨g,rfl,hg⟩:=hgo
       have hH:=hH g
       rw[e1b,e1r hg]at hH
       have hn:fst (loN r) (hiN r) (λj=>W.getD j 0) x g=fst (loN r) (hiN r) (λj=>W.getD j 0) x i.toNat:=by
        rw[<-hff,fst,e0c (show cov (loN r) (hiN r) x (W.getD g 0)from hg)]
       have hi1:(((g+1:Nat):Int)-1).toNat=g:=by omega
       rw[<-hi1]at hH
       conv=>whnf
       repeat' first|((first|refine go ?_|refine gc (hH) ?_);conv=>whnf)|(refine go2 ?_ ?_<;>(try intro hc)<;>conv=>whnf)|fail
       exact⟨rfl,⟨g,by omega,hn⟩,Lf,by simp only;omega⟩
      ·have hfe:fst (loN r) (hiN r) (λj=>W.getD j 0) x i.toNat=f:=by
        rw[<-hff]
        cases f with
        |zero=>rfl
        |succ g=>rw[fst,d9z (show¬cov (loN r) (hiN r) x (W.getD g 0)fromλh=>hgo ⟨g,rfl,h⟩)]
       have hlf:f<l.length:=by omega
       have hof:(lV l acc).getD (0+f) 0=l.getD f 0:=by
        rw[e0f]
        cases acc with
        |none=>rfl
        |some b=>simp only[lV];exact vT hlf
       have hbf:=hb f
       have hus:fX r W B l i.toNat acc x=a5v (l.getD f 0+zOf r x) acc:=by
        unfold fX
        rw[d9z (by rw[hB];simp),hfe]
       rw[hus]at hstep
       have hof2:(lV l acc).getD (0+((f:Nat):Int).toNat) 0=l.getD f 0:=by rw[e1b];exact hof
       have hfin1:∀v,some (l.getD f 0+zOf r x)=some v->0<=v/\v<=40*(i+1):=λv hv=>by cases hv;omega
       have hHf:f=0\/∃g,f=g+1/\Fn Tryz.prog 49 [dG r,int x,int (W.getD ((f:Int)-1).toNat 0)] (bool false):=by
        cases f with
        |zero=>exact .inl rfl
        |succ g=>
         refine .inr ⟨g,rfl,?_⟩
         have hng:¬Has (eU r x) (W.getD g 0):=λh=>hgo ⟨g,rfl,h⟩
         have hi1:(((g+1:Nat):Int)-1).toNat=g:=by omega
         have hH:=hH g
         rw[e1b,e1o hng,<-hi1]at hH
         exact hH
       clear hgo hfe hH hof
       have hHf':0<(f:Int)->Fn Tryz.prog 49 [dG r,int x,int (W.getD ((f:Int)-1).toNat 0)] (bool false):=λh=>by
        rcases hHf with h'|⟨g,_,h'⟩
        ·omega
        ·exact h'
       clear hHf
       cases acc with
       |none=>
        have hpl:∀w,w=int (l.getD f 0+zOf r x)->∀j,j<13->dI (upE (0+(i+1).toNat) w (bG int 0 (lV l none)) j) (bG int 0 (l++[l.getD f 0+zOf r x]) j):=λw hw=>uR hw (by omega)
        conv=>whnf
        repeat' first|((first|refine go ?_|(apply Cl.go;(conv=>whnf);first|refine e2m (hHf' (by omega)) ?_|refine e2m (hS) ?_));conv=>whnf)|(refine go2 ?_ ?_<;>(try intro hc)<;>conv=>whnf)|fail
        all_goals refine⟨rfl,⟨(k+1,some (l.getD f 0+zOf r x)),by simp only;omega,hstep.symm,hfin1⟩,rfl,?_⟩
        all_goals(repeat' first|(refine e2d ?_)|((conv=>whnf);first|exact True.intro|(refine And.intro ?_ ?_)|exact rfl|exact e1h (e0f _)|exact e0h _|((conv=>arg 1;whnf);first|exact e0h _|(refine e1q ?_)|(refine e1i ?_)|(refine e2k ?_)|(refine e2e ?_ ?_)|(refine e1v ?_)|(refine e2f rfl ?_))|(refine aA ?_)|exact eF.refl _|exact aB|exact aC|exact e0m|exact bS.refl _)|exact rfl|(refine And.intro ?_ ?_)|exact e0h _)
        all_goals first|exact hpl _ (by rw[<-hof2];rfl)|omega
       |some b=>
        have hpl:∀w,w=int (l.getD f 0+zOf r x)->∀j,j<13->dI (upE (0+(i+1).toNat) w (bG int 0 (lV l (some b))) j) (bG int 0 (l++[l.getD f 0+zOf r x]) j):=λw hw=>uR hw (by omega)
        have hob:(lV l (some b)).getD (0+(i+1).toNat) 0=b:=by
         rw[show 0+(i+1).toNat=l.length by omega];exact vU
        have hbb:=hab b rfl
        by_cases hlt:l.getD f 0+zOf r x<b
        ·have hst:(L.take (k+1)).foldl (fX r W B l i.toNat) none=some (l.getD f 0+zOf r x):=by rw[hstep,a5v,e0c hlt]
         conv=>whnf
         repeat' first|((first|refine go ?_|(apply Cl.go;(conv=>whnf);first|refine e2m (hHf' (by omega)) ?_|refine e2m (hS) ?_));conv=>whnf)|(refine go2 ?_ ?_<;>(try intro hc)<;>conv=>whnf)|fail
         all_goals refine⟨rfl,⟨(k+1,some (l.getD f 0+zOf r x)),by simp only;omega,hst.symm,hfin1⟩,rfl,?_⟩
         all_goals(repeat' first|(refine e2d ?_)|((conv=>whnf);first|exact True.intro|(refine And.intro ?_ ?_)|exact rfl|exact e1h (e0f _)|exact e0h _|((conv=>arg 1;whnf);first|exact e0h _|(refine e1q ?_)|(refine e1i ?_)|(refine e2k ?_)|(refine e2e ?_ ?_)|(refine e1v ?_)|(refine e2f rfl ?_))|(refine aA ?_)|exact eF.refl _|exact aB|exact aC|exact e0m|exact bS.refl _)|exact rfl|(refine And.intro ?_ ?_)|exact e0h _)
         all_goals first|exact hpl _ (by rw[<-hof2];rfl)|omega
        ·have hst:(L.take (k+1)).foldl (fX r W B l i.toNat) none=some b:=by rw[hstep,a5v,d9z hlt]
         conv=>whnf
         repeat' first|((first|refine go ?_|(apply Cl.go;(conv=>whnf);first|refine e2m (hHf' (by omega)) ?_|refine e2m (hS) ?_));conv=>whnf)|(refine go2 ?_ ?_<;>(try intro hc)<;>conv=>whnf)|fail
         all_goals exact⟨rfl,⟨(k+1,some b),by simp only;omega,hst.symm,hab⟩,rfl,Lf⟩
     ·exact Lf
   ·rintro⟨⟨k,acc⟩,hk,hacc,hab⟩ hk'
    simp only at hk' hk hacc hab
    rw[hk',e5q]at hacc
    rw[<-hacc]at hsu
    cases acc with
    |none=>
     have e:fin=none:=by
      rw[<-hfin]
      have:=a0t r W B hsu (W.length-(i.toNat+1))
      rwa[show i.toNat+1+(W.length-(i.toNat+1))=W.length by omega]at this
     subst e
     conv=>whnf
     repeat' first|(refine go ?_;conv=>whnf)|(refine go2 ?_ ?_<;>(try intro hc)<;>conv=>whnf)|fail
     exact Lf
    |some v=>
     have hv:=hab v rfl
     have hup2:b9v r W B (i+1).toNat=some (l++[v]):=by rw[show(i+1).toNat=i.toNat+1 by omega];exact hsu
     have hb2:∀j,0<=(l++[v]).getD j 0/\(l++[v]).getD j 0<=40*(i+1):=λj=>by
      have:=hb j
      by_cases h1:j<l.length
      ·rw[vT h1];omega
      ·by_cases h2:j=l.length
       ·rw[h2,vU];omega
       ·rw[d9r,e1w (by simp;omega)];simp;omega
     conv=>whnf
     repeat' first|(refine go ?_;conv=>whnf)|(refine go2 ?_ ?_<;>(try intro hc)<;>conv=>whnf)|fail
     have ew:∀j:Nat,j<13->(lV l (some v)).getD j 0=(l++[v]).getD j 0:=λ_ _=>rfl
     exact⟨rfl,⟨(i+1,l++[v]),⟨by simp only;omega,by simp only;omega⟩,hup2,by simp;omega,hb2⟩,Lf,by simp only;omega⟩
   ·have ew:∀j:Nat,j<13->l.getD j 0=(lV l none).getD j 0:=λ_ _=>rfl
    exact Lf
  ·have e:fin=some l:=by rw[<-hfin,<-hup];congr 1;omega
   subst e
   exact Lf
 ·conv=>whnf
  repeat' first|(refine e2d ?_)|((conv=>whnf);first|exact True.intro|(refine And.intro ?_ ?_)|exact rfl|exact e1h (e0f _)|exact e0h _|((conv=>arg 1;whnf);first|exact e0h _|(refine e1q ?_)|(refine e1i ?_)|(refine e2k ?_)|(refine e2e ?_ ?_)|(refine e1v ?_)|(refine e2f rfl ?_))|(refine aA ?_)|exact eF.refl _|exact aB|exact aC|exact e0m|exact bS.refl _)|exact rfl|(refine And.intro ?_ ?_)|exact e0h _
  exact a3g
end Go.Px.Tryz.Po
end
