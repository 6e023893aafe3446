/- Texts of this proof, joined. No statement of the seat is proved here. -/
import Derived.Test.YtcpijpmabkbdkaaGreatJ7
set_option linter.unusedVariables false
set_option linter.unusedSimpArgs false
set_option maxRecDepth 100000
set_option maxHeartbeats 64000000
noncomputable section
namespace Go.Px.Tryz.Po
open Go Go.Proofs Go.Px Go.Px.Tryz
def jD (l:List Nat):List Int:=l.map λi:Nat=>(i:Int)
theorem tR (l:List Nat)(j:Nat):(jD l).getD j 0=((l.getD j 0:Nat):Int):=by
 unfold jD
 rw[d9r,e0j,d9r]
 cases l[j]?<;>rfl
theorem xX (l:List Nat):(jD l).length=l.length:=by simp[jD]
theorem a0l (z:Nat->Int):∀(l:List Nat) (j:Nat),j<l.length->uW z (l.take (j+1))=uW z (l.take j)+z (l.getD j 0)
 |[],j,h=>by simp at h
 |x::l,0,_=>by simp[uW]
 |x::l,j+1,h=>by
  have ih:=a0l z l j (by simpa using h)
  rw[List.take_succ_cons,List.take_succ_cons,uW,uW,ih,e7e]
  omega
theorem a6o {r:Row}(h:RowOk r):∀l:List Nat,0<=uW (zOf r) l/\uW (zOf r) l<=40*l.length
 |[]=>by simp[uW]
 |x::l=>by
  have:=a6o h l
  have:=oC h x
  have:=a7c h x
  rw[uW,e0r];omega
theorem b5l {r:Row}(h:RowOk r){W:List Int}(hW:W.Pairwise (· < ·)){B:Nat->Bool}{l:List Int}(hl:a0v r W B=some l)(j:Nat):0<=l.getD j 0/\l.getD j 0<=400:=by
 have hu:=a6w h hW B
 rw[hl]at hu
 simp only at hu
 have h10:=h.l10
 by_cases hj:j<=W.length
 ·obtain⟨S,_,_,s3⟩:=hu.att j hj
  have:=a0p (z:=zOf r) (S:=S) (b:=40) (by omega) r.lots.length λi _=>⟨by have:=oC h i;omega,a7c h i⟩
  omega
 ·rw[d9r,e1w (by have:=hu.len;omega)]
  simp
theorem jG (r:Row)(hr:RowOk r)(wi:List Nat)(hw:∀i∈wi,i<r.lots.length)(hwl:wi.length<=20)(B:Nat->Bool):Fn Tryz.prog 20 [dG r,ints (jD wi),mK B] (tpl [int (cV r wi B).1,bool (cV r wi B).2]):=by
 have hl10:=hr.l10
 have hl12:=hr.w12
 have hWlen:(gU r wi).length<=12:=e2h (List.length_filter_le _ _) hl12
 have hU:=b5m r hr (gU r wi) hWlen B
 have hcp:cV r wi B=match a0v r (gU r wi) B with
  |some l=>(uW (zOf r) wi+l.getD (gU r wi).length 0,true)
  |none=>(uW (zOf r) wi,false):=rfl
 have hur:∀l,a0v r (gU r wi) B=some l->0<=l.getD (gU r wi).length 0/\l.getD (gU r wi).length 0<=400:=λl h=>b5l hr (zY hr wi) h _
 have hue:b9v r (gU r wi) B (gU r wi).length=a0v r (gU r wi) B:=rfl
 rw[hue]at hU
 generalize a0v r (gU r wi) B=u at*
 have hsr:=a6o hr wi
 have hcl:=xX wi
 refine e1t (cuts:=[]) tys hM Tryz.func20 rfl Tryz.call20 rfl ?_
 show exC Tryz.prog T [] _ false none 0 (entry 74 [dG r,ints (jD wi),mK B]) (cH T [ResultVar.tmp 6,ResultVar.tmp 7] _)
 conv=>whnf
 repeat' first|(refine go ?_;conv=>whnf)|(refine go2 ?_ ?_<;>(try intro hc)<;>conv=>whnf)|fail
 refine e2x [0,1,2,5,6,7,9,12,14,16,17,18,21,22,33,34,35,36,37,38,39,41,42,43,44,45,47,48,49,50,51,53,54,55,56,57,58,59,60,61,62,63,64,65,66,67,68,69,70,71,72,73] 40 ?_
 (conv=>whnf)
 refine e3v 74 ({q:Int×Int//(0<=q.1/\q.1<=wi.length)/\q.2=uW (zOf r) (wi.take q.1.toNat)/\0<=q.2/\q.2<=40*q.1}) 0 (λ⟨(i,n),_⟩ nx=>([(23,.d (int i)),(8,.d (int n)),(9,.fn 48 1 0 (λ_=> .d (dG r)) (λ_=> .d .top))],[(0,.row true 53 1 10 (λj=>int (mk B j)))])) (λp=>(wi.length-p.1.1).toNat) (⟨(0,0),⟨by simp,by simp⟩,rfl,by simp,by simp⟩) ?_ ?_
 ·rintro⟨⟨i,n⟩,⟨i0,i1⟩,hn,n0,n1⟩
  simp only at i0 i1 hn n0 n1
  by_cases hil:i<wi.length
  ·have hg:=tR wi i.toNat
   have hx:=hw _ (aE (i:=i.toNat) (by omega) 0)
   have hS:=a0e r ((jD wi).getD i.toNat 0) hr ⟨by omega,by omega⟩
   have hs:=a0l (zOf r) wi i.toNat (by omega)
   rw[hg,e1b]at hS
   rw[<-hg]at hS
   have hz1:=oC hr (wi.getD i.toNat 0)
   have hz2:=a7c hr (wi.getD i.toNat 0)
   have e:n+zOf r (wi.getD i.toNat 0)=uW (zOf r) (wi.take (i+1).toNat):=by rw[show(i+1).toNat=i.toNat+1 by omega,hs,hn]
   generalize zOf r (wi.getD i.toNat 0)=z at*
   conv=>whnf
   repeat' first|((first|refine go ?_|refine gc (hS) ?_);conv=>whnf)|(refine go2 ?_ ?_<;>(try intro hc)<;>conv=>whnf)|fail
   exact⟨rfl,⟨(i+1,n+z),⟨by simp only;omega,by simp only;omega⟩,e,by simp only;omega,by simp only;omega⟩,Lf,by simp only;omega⟩
  ·have hnf:n=uW (zOf r) wi:=by rw[hn,e4a (by omega)]
   conv=>whnf
   repeat' first|(refine go ?_;conv=>whnf)|(refine go2 ?_ ?_<;>(try intro hc)<;>conv=>whnf)|fail
   refine e2x [0,1,2,5,6,7,8,9,17,18,37,38,59,60,61,62,63,64,65,66,67,68,69,70,71,72,73] 40 ?_
   (conv=>whnf)
   refine e3v 74 ({q:Int×List Int//(0<=q.1/\q.1<=r.weak.length)/\q.2=(r.weak.take q.1.toNat).filter λp=> !(wi.any λi=>decide (Has (eU r i) p))}) 0 (λ⟨(i,o),_⟩ nx=>([(39,.d (int i)),(12,.ms 2 1 0 o.length)],[(2,.row true 3 1 o.length (bG int 0 o))])) (λp=>(r.weak.length-p.1.1).toNat) (⟨(0,[]),⟨by simp,by simp⟩,rfl⟩) ?_ ?_
   ·rintro⟨⟨i,o⟩,⟨i0,i1⟩,ho⟩
    simp only at i0 i1 ho
    by_cases hil2:i<r.weak.length
    ·have hol:o.length<=i.toNat:=by
      rw[ho];refine e2h (List.length_filter_le _ _) ?_;rw[e4l];omega
     have hs:(r.weak.take (i+1).toNat).filter (λp=> !(wi.any λi=>decide (Has (eU r i) p)))=o++if(wi.any λk=>decide (Has (eU r k) (r.weak.getD i.toNat 0)))=false then [r.weak.getD i.toNat 0]else []:=by
      rw[show(i+1).toNat=i.toNat+1 by omega,bP _ _ 0 (by omega),e4j,ho]
      congr 1
      rw[e5u,List.filter_nil]
      cases e:wi.any λk=>decide (Has (eU r k) (r.weak.getD i.toNat 0))<;>rfl
     conv=>whnf
     repeat' first|(refine go ?_;conv=>whnf)|(refine go2 ?_ ?_<;>(try intro hc)<;>conv=>whnf)|fail
     refine e2x [0,1,2,5,6,7,8,9,12,14,17,18,37,38,39,41,42,43,44,54,55,56,57,58,59,60,61,62,63,64,65,66,67,68,69,70,71,72,73] 40 ?_
     (conv=>whnf)
     refine e3v 74 ({j:Int//(0<=j/\j<=wi.length)/\∀k,k<j.toNat->¬Has (eU r (wi.getD k 0)) (r.weak.getD i.toNat 0)}) 0 (λ⟨j,_⟩ nx=>([(45,.d (int j))],[])) (λp=>(wi.length-p.1).toNat) (⟨0,⟨by simp,by simp⟩,λk hk=>by simp at hk⟩) ?_ ?_
     ·rintro⟨j,⟨j0,j1⟩,hj⟩
      by_cases hjl:j<wi.length
      ·have hg:=tR wi j.toNat
       have hx:=hw _ (aE (i:=j.toNat) (by omega) 0)
       have hH:=pZ r ((jD wi).getD j.toNat 0) (r.weak.getD i.toNat 0) ⟨by omega,by omega⟩
       rw[hg,e1b]at hH
       rw[<-hg]at hH
       by_cases hh:Has (eU r (wi.getD j.toNat 0)) (r.weak.getD i.toNat 0)
       ·rw[e1r hh]at hH
        have hany:(wi.any λk=>decide (Has (eU r k) (r.weak.getD i.toNat 0)))=true:=e5d.2 ⟨_,aE (i:=j.toNat) (by omega) 0,e1r hh⟩
        rw[d9z (by rw[hany];simp),e7o]at hs
        conv=>whnf
        repeat' first|((first|refine go ?_|refine gc (hH) ?_);conv=>whnf)|(refine go2 ?_ ?_<;>(try intro hc)<;>conv=>whnf)|fail
        exact⟨rfl,⟨(i+1,o),⟨by simp only;omega,by simp only;omega⟩,hs.symm⟩,Lf,by simp only;omega⟩
       ·rw[e1o hh]at hH
        have e:∀k,k<(j+1).toNat->¬Has (eU r (wi.getD k 0)) (r.weak.getD i.toNat 0):=λk hk=>by
         by_cases e:k<j.toNat
         ·exact hj k e
         ·obtain rfl:k=j.toNat:=by omega
          exact hh
        conv=>whnf
        repeat' first|((first|refine go ?_|refine gc (hH) ?_);conv=>whnf)|(refine go2 ?_ ?_<;>(try intro hc)<;>conv=>whnf)|fail
        exact⟨rfl,⟨j+1,⟨by omega,by omega⟩,e⟩,Lf,by simp only;omega⟩
      ·have hany:(wi.any λk=>decide (Has (eU r k) (r.weak.getD i.toNat 0)))=false:=List.any_eq_false.2 λx hx=>by
        obtain⟨k,hk,rfl⟩:=e3w hx
        have:=hj k (by omega)
        rw[d9r,e0e hk]at this
        simpa using this
       rw[e0c hany]at hs
       conv=>whnf
       repeat' first|(refine go ?_;conv=>whnf)|(refine go2 ?_ ?_<;>(try intro hc)<;>conv=>whnf)|fail
       exact⟨rfl,⟨(i+1,o++[r.weak.getD i.toNat 0]),⟨by simp only;omega,by simp only;omega⟩,hs.symm⟩,Lf,by simp only;omega⟩
     ·exact Lf
    ·have hof:o=gU r wi:=by rw[ho,e4a (by omega)];rfl
     rw[<-hof]at hU hcp hur hWlen
     cases u with
     |none=>
      have hz:([]:List Int).getD (0+((o.length:Nat):Int).toNat) 0=0:=by simp
      have e1:n+([]:List Int).getD (0+((o.length:Nat):Int).toNat) 0=(cV r wi B).1:=by rw[hcp,hz,hnf];simp
      have e2:false=(cV r wi B).2:=by rw[hcp]
      clear hcp
      generalize cV r wi B=cp at*
      conv=>whnf
      repeat' first|((first|refine go ?_|refine gc (hU) ?_);conv=>whnf)|(refine go2 ?_ ?_<;>(try intro hc)<;>conv=>whnf)|fail
      exact Lf
     |some l=>
      have hz:l.getD (0+((o.length:Nat):Int).toNat) 0=l.getD o.length 0:=by simp
      have hrl:=hur l rfl
      have e1:n+l.getD (0+((o.length:Nat):Int).toNat) 0=(cV r wi B).1:=by rw[hcp,hz,hnf]
      have e2:true=(cV r wi B).2:=by rw[hcp]
      clear hcp
      generalize cV r wi B=cp at*
      conv=>whnf
      repeat' first|((first|refine go ?_|refine gc (hU) ?_);conv=>whnf)|(refine go2 ?_ ?_<;>(try intro hc)<;>conv=>whnf)|fail
      exact Lf
   ·exact Lf
 ·exact Lf
theorem jH (r:Row)(h1:r.lots.length<1000000)(h2:r.weak.length<1000000)(he:aY r=0):Fn Tryz.prog 19 [gV r] (tpl [dG r,int (bX r).1,int 0]):=by
 obtain⟨hr,hS⟩:=iT.1 he
 have ho:=a3c r h1 h2 (fD.2 hr)
 have hc:=jG r hr [] (λi hi=>by cases hi) (by simp) noB
 have hl:=(yR hr).1.2 hS
 unfold bX at hl⊢
 rw[hl]at hc
 generalize(cV r [] noB).1=n at*
 refine e1t (cuts:=[]) tys hM Tryz.func19 rfl Tryz.call19 rfl ?_
 show exC Tryz.prog T [] _ false none 0 (entry 27 [gV r]) (cH T [ResultVar.tmp 2,ResultVar.tmp 3,ResultVar.tmp 4] _)
 conv=>whnf
 repeat' first|((first|refine go ?_|(apply Cl.go;(conv=>whnf);first|refine e2m (ho) ?_|refine e2m (hc) ?_));conv=>whnf)|(refine go2 ?_ ?_<;>(try intro hc)<;>conv=>whnf)|fail
 all_goals exact Lf
theorem iF (r:Row)(h1:r.lots.length<1000000)(h2:r.weak.length<1000000)(he:aY r≠0):Fn Tryz.prog 19 [gV r] (tpl [d7d,int 0,int (aY r)]):=by
 by_cases hr:bE r=0
 case neg=>
  have ho:=a5t r h1 h2 hr
  have e:aY r=bE r:=e0c hr
  rw[e]
  generalize bE r=c at*
  refine e1t (cuts:=[]) tys hM Tryz.func19 rfl Tryz.call19 rfl ?_
  show exC Tryz.prog T [] _ false none 0 (entry 27 [gV r]) (cH T [ResultVar.tmp 2,ResultVar.tmp 3,ResultVar.tmp 4] _)
  conv=>whnf
  repeat' first|((first|refine go ?_|refine gc (ho) ?_);conv=>whnf)|(refine go2 ?_ ?_<;>(try intro hc)<;>conv=>whnf)|fail
  all_goals exact Lf
 have hok:=fD.1 hr
 have ho:=a3c r h1 h2 hr
 have hc:=jG r hok [] (λi hi=>by cases hi) (by simp) noB
 have hl:(cV r [] noB).2=false:=by
  cases e:(cV r [] noB).2 with
  |false=>rfl
  |true=>exact absurd (iT.2 ⟨hok,(yR hok).1.1 e⟩) he
 have e:aY r=22:=by
  unfold aY at he⊢
  rw[d9z (e4o hr)]at he⊢
  split
  ·rename_i h;rw[e0c h]at he;exact absurd rfl he
  ·rfl
 rw[e]
 rw[hl]at hc
 generalize(cV r [] noB).1=n at*
 refine e1t (cuts:=[]) tys hM Tryz.func19 rfl Tryz.call19 rfl ?_
 show exC Tryz.prog T [] _ false none 0 (entry 27 [gV r]) (cH T [ResultVar.tmp 2,ResultVar.tmp 3,ResultVar.tmp 4] _)
 conv=>whnf
 repeat' first|((first|refine go ?_|(apply Cl.go;(conv=>whnf);first|refine e2m (ho) ?_|refine e2m (hc) ?_));conv=>whnf)|(refine go2 ?_ ?_<;>(try intro hc)<;>conv=>whnf)|fail
 all_goals exact Lf
def rL (r:Row):Int×Int:=if aY r≠0 then(0,aY r)else((bX r).1,0)
theorem a1i (r:Row)(h1:r.lots.length<1000000)(h2:r.weak.length<1000000):Fn Tryz.prog 8 [gV r] (tpl [int (rL r).1,int (rL r).2]):=by
 by_cases he:aY r=0
 ·have hx:=jH r h1 h2 he
  have e:rL r=((bX r).1,0):=d9z (e4o he)
  rw[e]
  generalize(bX r).1=n at*
  refine e1t (cuts:=[]) tys hM Tryz.func8 rfl Tryz.call8 rfl ?_
  show exC Tryz.prog T [] _ false none 0 (entry 15 [gV r]) (cH T [ResultVar.tmp 2,ResultVar.tmp 3] _)
  conv=>whnf
  repeat' first|((first|refine go ?_|refine gc (hx) ?_);conv=>whnf)|(refine go2 ?_ ?_<;>(try intro hc)<;>conv=>whnf)|fail
  all_goals exact Lf
 ·have hx:=iF r h1 h2 he
  have e:rL r=(0,aY r):=e0c he
  rw[e]
  generalize aY r=n at*
  refine e1t (cuts:=[]) tys hM Tryz.func8 rfl Tryz.call8 rfl ?_
  show exC Tryz.prog T [] _ false none 0 (entry 15 [gV r]) (cH T [ResultVar.tmp 2,ResultVar.tmp 3] _)
  conv=>whnf
  repeat' first|((first|refine go ?_|refine gc (hx) ?_);conv=>whnf)|(refine go2 ?_ ?_<;>(try intro hc)<;>conv=>whnf)|fail
  all_goals exact Lf
theorem b2t {B:Nat->Bool}{i:Nat}{w:DV}(hw:w=int 1):∀j,j<10->dI (upE i w (λj=>int (mk B j)) j) (int (mk (adj B i) j)):=by
 subst hw
 intro j _
 unfold upE mk adj
 by_cases e:j=i
 ·rw[e0c e,e0c e,e0c rfl];exact⟨rfl,rfl⟩
 ·rw[d9z e,d9z e];exact⟨rfl,rfl⟩
theorem a3x {i:Nat}{out:List Nat}:∀j,woB (i+1) (out++[i]) j=woB i out j:=λj=>by
 unfold woB
 by_cases e:j=i
 ·subst e;simp
 ·have:(out++[i]).contains j=out.contains j:=by
   cases h:out.contains j with
   |true=>exact e5x.2 (e0p _ (e5x.1 h))
   |false=>
    cases h2:(out++[i]).contains j with
    |false=>rfl
    |true=>
     rcases e0x.1 (e5x.1 h2)with h3|h3
     ·rw[e5x.2 h3]at h;cases h
     ·exact absurd (e1k.1 h3) e
  rw[this]
  congr 1
  exact e5t.2 (by omega)
theorem a0y {i:Nat}{out:List Nat}(h:∀x∈out,x<i):∀j,woB (i+1) out j=adj (woB i out) i j:=λj=>by
 unfold woB adj
 by_cases e:j=i
 ·subst e
  rw[e0c rfl]
  have:out.contains j=false:=by
   cases h2:out.contains j with
   |false=>rfl
   |true=>have:=h j (e5x.1 h2);omega
  rw[this];simp
 ·rw[d9z e]
  congr 1
  exact e5t.2 (by omega)
theorem yX (r:Row)(opt:Int):∀i,(∀x∈dA r opt i,x<i)/\(dA r opt i).length<=i
 |0=>⟨λx hx=>(by cases hx),e0g _⟩
 |i+1=>by
  obtain⟨h1,h2⟩:=yX r opt i
  rw[dA]
  split
  ·refine⟨λx hx=>?_,by simp;exact h2⟩
   rcases e0x.1 hx with hx|hx
   ·have:=h1 x hx;omega
   ·have:=e1k.1 hx;omega
  ·exact⟨λx hx=>by have:=h1 x hx;omega,by omega⟩
theorem tS (l:List Nat)(i:Nat):jD (l++[i])=jD l++[(i:Int)]:=by simp[jD]
theorem a5o {B B':Nat->Bool}(h:∀j,B j=B' j):B=B':=funext h
theorem ImpS.appd2 {α:Type}{t:Bool}{k n o:Nat}{enc:α->DV}{d:α}{L:List α}{x:α}{g:Nat->DV}(hn:n=L.length+1)(ho:o=L.length)(hg:g 0=enc x):ImpS (.sl t k n λi=>apd o (λj=>bG enc d L (0+j)) g (0+i)) (fQ k enc d (L++[x])):=by
 subst ho;subst hn
 refine⟨Imp.sl (λe=>by cases e) (by simp) λj hj=>e7u ?_⟩
 rw[e0f]
 unfold apd
 by_cases h:j<L.length
 ·rw[e0c h]
  show enc (L.getD (0+j) d)=_
  rw[e0f,d9r,d9r,e1u h]
 ·have:j=L.length:=by omega
  subst this
  rw[d9z h,e7w,hg,d9r,e1m (e0g _)]
  simp
def yY (r:Row):List Int×Int:=if aY r≠0 then([],aY r)else(jD (dA r (bX r).1 r.lots.length),0)
theorem a7g (r:Row)(h1:r.lots.length<1000000)(h2:r.weak.length<1000000):Fn Tryz.prog 7 [gV r] (tpl [ints (yY r).1,int (yY r).2]):=by
 by_cases he:aY r=0
 case neg=>
  have hx:=iF r h1 h2 he
  have e:yY r=([],aY r):=e0c he
  rw[e]
  generalize aY r=n at*
  refine e1t (cuts:=[]) tys hM Tryz.func7 rfl Tryz.call7 rfl ?_
  show exC Tryz.prog T [] _ false none 0 (entry 55 [gV r]) (cH T [ResultVar.tmp 2,ResultVar.tmp 3] _)
  conv=>whnf
  repeat' first|((first|refine go ?_|refine gc (hx) ?_);conv=>whnf)|(refine go2 ?_ ?_<;>(try intro hc)<;>conv=>whnf)|fail
  all_goals exact Lf
 have hx:=jH r h1 h2 he
 have hr:=(iT.1 he).1
 have h10:=hr.l10
 have e:yY r=(jD (dA r (bX r).1 r.lots.length),0):=d9z (e4o he)
 rw[e]
 have hlt:=λi=>yX r (bX r).1 i
 have hst:∀i,dA r (bX r).1 (i+1)=if(cV r (dA r (bX r).1 i++[i]) (woB i (dA r (bX r).1 i))).2=true/\(cV r (dA r (bX r).1 i++[i]) (woB i (dA r (bX r).1 i))).1=(bX r).1 then dA r (bX r).1 i++[i]else dA r (bX r).1 i:=λi=>rfl
 have h0:dA r (bX r).1 0=[]:=rfl
 generalize(bX r).1=n at*
 generalize dA r n=G at*
 generalize hfin:jD (G r.lots.length)=fin
 refine e1t (cuts:=[]) tys hM Tryz.func7 rfl Tryz.call7 rfl ?_
 show exC Tryz.prog T [] _ false none 0 (entry 55 [gV r]) (cH T [ResultVar.tmp 2,ResultVar.tmp 3] _)
 conv=>whnf
 repeat' first|((first|refine go ?_|refine gc (hx) ?_);conv=>whnf)|(refine go2 ?_ ?_<;>(try intro hc)<;>conv=>whnf)|fail
 refine e2x [0,2,3,4,5,8,24,54] 40 ?_
 (conv=>whnf)
 refine e3v 55 ({q:Nat×List Int×(Nat->Bool)×Bool//q.1<=r.lots.length/\q.2.1=jD (G q.1)/\q.2.2.1=woB q.1 (G q.1)}) 0 (λ⟨(i,o,B,b),_⟩ nx=>([(25,.d (int i)),(7,.ms 14 1 0 o.length)],[(14,.row b 3 1 o.length (bG int 0 o)),(15,.row true 53 1 10 (λj=>int (mk B j)))])) (λp=>r.lots.length-p.1.1) (⟨(0,[],woB 0 (G 0),true),e4t _,by rw[h0];rfl,rfl⟩) ?_ ?_
 ·rintro⟨⟨i,o,B,b⟩,hi,ho,hB⟩
  simp only at hi ho hB
  obtain⟨hlt1,hlt2⟩:=hlt i
  have hol:o.length<=i:=by rw[ho,xX];exact hlt2
  by_cases hil:i<r.lots.length
  ·have hc:=jG r hr (G i++[i]) (λx hx=>by
    rcases e0x.1 hx with hx|hx
    ·have:=hlt1 x hx;omega
    ·have:=e1k.1 hx;omega) (by simp;omega) B
   rw[tS,<-ho]at hc
   have hst:=hst i
   rw[<-hB]at hst
   generalize cV r (G i++[i]) B=cp at*
   obtain⟨c1,c2⟩:=cp
   simp only at hst hc
   have hyes:c2=true->c1=n->o++[(i:Int)]=jD (G (i+1))/\B=woB (i+1) (G (i+1)):=λa b=>by
    rw[e0c ⟨a,b⟩]at hst
    rw[hst,tS,<-ho]
    exact⟨rfl,by rw[hB];exact a5o λj=>(a3x j).symm⟩
   have hno:¬(c2=true/\c1=n)->o=jD (G (i+1))/\adj B i=woB (i+1) (G (i+1)):=λa=>by
    rw[d9z a]at hst
    rw[hst]
    exact⟨ho,by rw[hB];exact a5o λj=>(a0y hlt1 j).symm⟩
   have hmp:∀w,w=int 1->∀j,j<10->dI (upE (0+((i:Nat):Int).toNat) w (λj=>int (mk B j)) j) (int (mk (adj B i) j)):=λw hw=>by rw[e0f,e1b];exact b2t hw
   cases b
   ·by_cases hc2:c2=true/\c1=n
    ·obtain⟨rfl,rfl⟩:=hc2
     obtain⟨e1,e2⟩:=hyes rfl rfl
     clear hyes hno hst
     conv=>whnf
     repeat' first|(refine go ?_;conv=>whnf)|(refine go2 ?_ ?_<;>(try intro hc)<;>conv=>whnf)|fail
     apply Cl.go
     (conv=>whnf)
     refine Ob.fn ?_ ?_ ?_ (hc)
     rotate_left
     all_goals try(repeat' first|(refine e2d ?_)|((conv=>whnf);first|exact True.intro|(refine And.intro ?_ ?_)|exact rfl|exact e1h (e0f _)|exact e0h _|((conv=>arg 1;whnf);first|exact e0h _|(refine e1q ?_)|(refine e1i ?_)|(refine e2k ?_)|(refine e2e ?_ ?_)|(refine e1v ?_)|(refine e2f rfl ?_))|(refine aA ?_)|(apply bA)|exact aB|exact aC|exact e0m|exact bS.refl _)|exact rfl|(refine And.intro ?_ ?_)|exact e0h _)
     all_goals try first|assumption|omega
     ·conv=>whnf
      conv=>arg 1;whnf
      exact ImpS.appd2 (by omega) (by omega) rfl
     conv=>whnf
     repeat' first|(refine go ?_;conv=>whnf)|(refine go2 ?_ ?_<;>(try intro hc)<;>conv=>whnf)|fail
     exact⟨rfl,⟨(i+1,o++[(i:Int)],B,true),hil,e1,e2⟩,Lf,by simp only;omega⟩
    ·obtain⟨e1,e2⟩:=hno hc2
     clear hyes hno hst
     cases c2
     ·conv=>whnf
      repeat' first|(refine go ?_;conv=>whnf)|(refine go2 ?_ ?_<;>(try intro hc)<;>conv=>whnf)|fail
      apply Cl.go
      (conv=>whnf)
      refine Ob.fn ?_ ?_ ?_ (hc)
      rotate_left
      all_goals try(repeat' first|(refine e2d ?_)|((conv=>whnf);first|exact True.intro|(refine And.intro ?_ ?_)|exact rfl|exact e1h (e0f _)|exact e0h _|((conv=>arg 1;whnf);first|exact e0h _|(refine e1q ?_)|(refine e1i ?_)|(refine e2k ?_)|(refine e2e ?_ ?_)|(refine e1v ?_)|(refine e2f rfl ?_))|(refine aA ?_)|(apply bA)|exact aB|exact aC|exact e0m|exact bS.refl _)|exact rfl|(refine And.intro ?_ ?_)|exact e0h _)
      all_goals try first|assumption|omega
      ·conv=>whnf
       conv=>arg 1;whnf
       exact ImpS.appd2 (by omega) (by omega) rfl
      conv=>whnf
      repeat' first|(refine go ?_;conv=>whnf)|(refine go2 ?_ ?_<;>(try intro hc)<;>conv=>whnf)|fail
      refine⟨rfl,⟨(i+1,o,adj B i,false),hil,e1,e2⟩,?_,by simp only;omega⟩
      repeat' first|(refine e2d ?_)|((conv=>whnf);first|exact True.intro|(refine And.intro ?_ ?_)|exact rfl|exact e1h (e0f _)|exact e0h _|((conv=>arg 1;whnf);first|exact e0h _|(refine e1q ?_)|(refine e1i ?_)|(refine e2k ?_)|(refine e2e ?_ ?_)|(refine e1v ?_)|(refine e2f rfl ?_))|(refine aA ?_)|exact eF.refl _|exact aB|exact aC|exact e0m|exact bS.refl _)|exact rfl|(refine And.intro ?_ ?_)|exact e0h _
      all_goals first|omega|exact hmp _ rfl
     ·have hc3:¬c1=n:=λh=>hc2 ⟨rfl,h⟩
      conv=>whnf
      repeat' first|(refine go ?_;conv=>whnf)|(refine go2 ?_ ?_<;>(try intro hc)<;>conv=>whnf)|fail
      apply Cl.go
      (conv=>whnf)
      refine Ob.fn ?_ ?_ ?_ (hc)
      rotate_left
      all_goals try(repeat' first|(refine e2d ?_)|((conv=>whnf);first|exact True.intro|(refine And.intro ?_ ?_)|exact rfl|exact e1h (e0f _)|exact e0h _|((conv=>arg 1;whnf);first|exact e0h _|(refine e1q ?_)|(refine e1i ?_)|(refine e2k ?_)|(refine e2e ?_ ?_)|(refine e1v ?_)|(refine e2f rfl ?_))|(refine aA ?_)|(apply bA)|exact aB|exact aC|exact e0m|exact bS.refl _)|exact rfl|(refine And.intro ?_ ?_)|exact e0h _)
      all_goals try first|assumption|omega
      ·conv=>whnf
       conv=>arg 1;whnf
       exact ImpS.appd2 (by omega) (by omega) rfl
      conv=>whnf
      repeat' first|(refine go ?_;conv=>whnf)|(refine go2 ?_ ?_<;>(try intro hc)<;>conv=>whnf)|fail
      refine⟨rfl,⟨(i+1,o,adj B i,false),hil,e1,e2⟩,?_,by simp only;omega⟩
      repeat' first|(refine e2d ?_)|((conv=>whnf);first|exact True.intro|(refine And.intro ?_ ?_)|exact rfl|exact e1h (e0f _)|exact e0h _|((conv=>arg 1;whnf);first|exact e0h _|(refine e1q ?_)|(refine e1i ?_)|(refine e2k ?_)|(refine e2e ?_ ?_)|(refine e1v ?_)|(refine e2f rfl ?_))|(refine aA ?_)|exact eF.refl _|exact aB|exact aC|exact e0m|exact bS.refl _)|exact rfl|(refine And.intro ?_ ?_)|exact e0h _
      all_goals first|omega|exact hmp _ rfl
   ·by_cases hc2:c2=true/\c1=n
    ·obtain⟨rfl,rfl⟩:=hc2
     obtain⟨e1,e2⟩:=hyes rfl rfl
     clear hyes hno hst
     conv=>whnf
     repeat' first|(refine go ?_;conv=>whnf)|(refine go2 ?_ ?_<;>(try intro hc)<;>conv=>whnf)|fail
     apply Cl.go
     (conv=>whnf)
     refine Ob.fn ?_ ?_ ?_ (hc)
     rotate_left
     all_goals try(repeat' first|(refine e2d ?_)|((conv=>whnf);first|exact True.intro|(refine And.intro ?_ ?_)|exact rfl|exact e1h (e0f _)|exact e0h _|((conv=>arg 1;whnf);first|exact e0h _|(refine e1q ?_)|(refine e1i ?_)|(refine e2k ?_)|(refine e2e ?_ ?_)|(refine e1v ?_)|(refine e2f rfl ?_))|(refine aA ?_)|(apply bA)|exact aB|exact aC|exact e0m|exact bS.refl _)|exact rfl|(refine And.intro ?_ ?_)|exact e0h _)
     all_goals try first|assumption|omega
     ·conv=>whnf
      conv=>arg 1;whnf
      exact ImpS.appd2 (by omega) (by omega) rfl
     conv=>whnf
     repeat' first|(refine go ?_;conv=>whnf)|(refine go2 ?_ ?_<;>(try intro hc)<;>conv=>whnf)|fail
     exact⟨rfl,⟨(i+1,o++[(i:Int)],B,true),hil,e1,e2⟩,Lf,by simp only;omega⟩
    ·obtain⟨e1,e2⟩:=hno hc2
     clear hyes hno hst
     cases c2
     ·conv=>whnf
      repeat' first|(refine go ?_;conv=>whnf)|(refine go2 ?_ ?_<;>(try intro hc)<;>conv=>whnf)|fail
      apply Cl.go
      (conv=>whnf)
      refine Ob.fn ?_ ?_ ?_ (hc)
      rotate_left
      all_goals try(repeat' first|(refine e2d ?_)|((conv=>whnf);first|exact True.intro|(refine And.intro ?_ ?_)|exact rfl|exact e1h (e0f _)|exact e0h _|((conv=>arg 1;whnf);first|exact e0h _|(refine e1q ?_)|(refine e1i ?_)|(refine e2k ?_)|(refine e2e ?_ ?_)|(refine e1v ?_)|(refine e2f rfl ?_))|(refine aA ?_)|(apply bA)|exact aB|exact aC|exact e0m|exact bS.refl _)|exact rfl|(refine And.intro ?_ ?_)|exact e0h _)
      all_goals try first|assumption|omega
      ·conv=>whnf
       conv=>arg 1;whnf
       exact ImpS.appd2 (by omega) (by omega) rfl
      conv=>whnf
      repeat' first|(refine go ?_;conv=>whnf)|(refine go2 ?_ ?_<;>(try intro hc)<;>conv=>whnf)|fail
      refine⟨rfl,⟨(i+1,o,adj B i,false),hil,e1,e2⟩,?_,by simp only;omega⟩
      repeat' first|(refine e2d ?_)|((conv=>whnf);first|exact True.intro|(refine And.intro ?_ ?_)|exact rfl|exact e1h (e0f _)|exact e0h _|((conv=>arg 1;whnf);first|exact e0h _|(refine e1q ?_)|(refine e1i ?_)|(refine e2k ?_)|(refine e2e ?_ ?_)|(refine e1v ?_)|(refine e2f rfl ?_))|(refine aA ?_)|exact eF.refl _|exact aB|exact aC|exact e0m|exact bS.refl _)|exact rfl|(refine And.intro ?_ ?_)|exact e0h _
      all_goals first|omega|exact hmp _ rfl
     ·have hc3:¬c1=n:=λh=>hc2 ⟨rfl,h⟩
      conv=>whnf
      repeat' first|(refine go ?_;conv=>whnf)|(refine go2 ?_ ?_<;>(try intro hc)<;>conv=>whnf)|fail
      apply Cl.go
      (conv=>whnf)
      refine Ob.fn ?_ ?_ ?_ (hc)
      rotate_left
      all_goals try(repeat' first|(refine e2d ?_)|((conv=>whnf);first|exact True.intro|(refine And.intro ?_ ?_)|exact rfl|exact e1h (e0f _)|exact e0h _|((conv=>arg 1;whnf);first|exact e0h _|(refine e1q ?_)|(refine e1i ?_)|(refine e2k ?_)|(refine e2e ?_ ?_)|(refine e1v ?_)|(refine e2f rfl ?_))|(refine aA ?_)|(apply bA)|exact aB|exact aC|exact e0m|exact bS.refl _)|exact rfl|(refine And.intro ?_ ?_)|exact e0h _)
      all_goals try first|assumption|omega
      ·conv=>whnf
       conv=>arg 1;whnf
       exact ImpS.appd2 (by omega) (by omega) rfl
      conv=>whnf
      repeat' first|(refine go ?_;conv=>whnf)|(refine go2 ?_ ?_<;>(try intro hc)<;>conv=>whnf)|fail
      refine⟨rfl,⟨(i+1,o,adj B i,false),hil,e1,e2⟩,?_,by simp only;omega⟩
      repeat' first|(refine e2d ?_)|((conv=>whnf);first|exact True.intro|(refine And.intro ?_ ?_)|exact rfl|exact e1h (e0f _)|exact e0h _|((conv=>arg 1;whnf);first|exact e0h _|(refine e1q ?_)|(refine e1i ?_)|(refine e2k ?_)|(refine e2e ?_ ?_)|(refine e1v ?_)|(refine e2f rfl ?_))|(refine aA ?_)|exact eF.refl _|exact aB|exact aC|exact e0m|exact bS.refl _)|exact rfl|(refine And.intro ?_ ?_)|exact e0h _
      all_goals first|omega|exact hmp _ rfl
  ·have e:o=fin:=by rw[ho,<-hfin,show i=r.lots.length by omega]
   cases b
   ·conv=>whnf
    repeat' first|(refine go ?_;conv=>whnf)|(refine go2 ?_ ?_<;>(try intro hc)<;>conv=>whnf)|fail
    exact Lf
   ·conv=>whnf
    repeat' first|(refine go ?_;conv=>whnf)|(refine go2 ?_ ?_<;>(try intro hc)<;>conv=>whnf)|fail
    exact Lf
 ·have ew:∀j:Nat,j<10->0=mk (woB 0 (G 0)) j:=λj _=>by simp[mk,woB]
  exact Lf
def qN (r:Row):List Int×Int:=if aY r≠0 then([],aY r)else((List.range r.lots.length).map λi=>a4o r (bX r).1 i,0)
theorem a8n {i a:Nat}(ha:a=i)(j:Nat):bS (sX (upE a (int 1) (λ_=>int 0) j) 0) (int (mk (wQ i) j)):=by
 subst ha
 unfold upE mk wQ
 by_cases e:j=a
 ·rw[e0c e,e0c (e1r e)];exact bS.refl _
 ·rw[d9z e,d9z (λh=>e (e2u h))];exact bS.refl _
theorem a1e (r:Row)(h1:r.lots.length<1000000)(h2:r.weak.length<1000000):Fn Tryz.prog 9 [gV r] (tpl [ints (qN r).1,int (qN r).2]):=by
 by_cases he:aY r=0
 case neg=>
  have hx:=iF r h1 h2 he
  have e:qN r=([],aY r):=e0c he
  rw[e]
  generalize aY r=n at*
  refine e1t (cuts:=[]) tys hM Tryz.func9 rfl Tryz.call9 rfl ?_
  show exC Tryz.prog T [] _ false none 0 (entry 72 [gV r]) (cH T [ResultVar.tmp 2,ResultVar.tmp 3] _)
  conv=>whnf
  repeat' first|((first|refine go ?_|refine gc (hx) ?_);conv=>whnf)|(refine go2 ?_ ?_<;>(try intro hc)<;>conv=>whnf)|fail
  all_goals exact Lf
 have hx:=jH r h1 h2 he
 have hr:=(iT.1 he).1
 have h10:=hr.l10
 have e:qN r=((List.range r.lots.length).map λi=>a4o r (bX r).1 i,0):=d9z (e4o he)
 rw[e]
 have hcA:=λi=>jG r hr [] (λi hi=>by cases hi) (by simp) (wQ i)
 have hcB:=λi (hi:i<r.lots.length)=>jG r hr [i] (λx hx=>by have:=e1k.1 hx;omega) (by simp) noB
 have hbl:∀i,a4o r (bX r).1 i=if(cV r [] (wQ i)).2=false\/(bX r).1<(cV r [] (wQ i)).1 then 2 else if(cV r [i] noB).2=false\/(bX r).1<(cV r [i] noB).1 then 0 else 1:=λi=>rfl
 generalize(bX r).1=n at*
 generalize a4o r n=bl at*
 generalize hfin:(List.range r.lots.length).map (λi=>bl i)=fin
 refine e1t (cuts:=[]) tys hM Tryz.func9 rfl Tryz.call9 rfl ?_
 show exC Tryz.prog T [] _ false none 0 (entry 72 [gV r]) (cH T [ResultVar.tmp 2,ResultVar.tmp 3] _)
 conv=>whnf
 repeat' first|((first|refine go ?_|refine gc (hx) ?_);conv=>whnf)|(refine go2 ?_ ?_<;>(try intro hc)<;>conv=>whnf)|fail
 refine e2x [0,2,3,4,5,25,71] 40 ?_
 (conv=>whnf)
 refine e3v 72 ({q:Nat×List Int//q.1<=r.lots.length/\q.2=(List.range q.1).map λi=>bl i}) 0 (λ⟨(i,o),_⟩ nx=>([(26,.d (int i)),(7,.ms 14 1 0 o.length)],[(14,.row true 3 1 o.length (bG int 0 o))])) (λp=>r.lots.length-p.1.1) (⟨(0,[]),e4t _,rfl⟩) ?_ ?_
 ·rintro⟨⟨i,o⟩,hi,ho⟩
  simp only at hi ho
  have hol:o.length=i:=by rw[ho];simp
  have hsn:(List.range (i+1)).map (λi=>bl i)=o++[bl i]:=by rw[e4d,e1z,ho];rfl
  by_cases hil:i<r.lots.length
  ·have hcA:=hcA i
   have hcB:=hcB i hil
   have hbl:=hbl i
   generalize cV r [] (wQ i)=ca at*
   generalize cV r [i] noB=cb at*
   obtain⟨a1,a2⟩:=ca
   obtain⟨b1,b2⟩:=cb
   simp only at hbl hcA hcB
   have ham:∀j,bS (sX (upE (0+((i:Nat):Int).toNat) (int 1) (λ_=>int 0) j) 0) (int (mk (wQ i) j)):=λj=>a8n (by omega) j
   cases a2
   ·have hv:bl i=2:=by rw[hbl];simp
    cases b2
    all_goals
     conv=>whnf
     repeat' first|(refine go ?_;conv=>whnf)|(refine go2 ?_ ?_<;>(try intro hc)<;>conv=>whnf)|fail
     apply Cl.go
     (conv=>whnf)
     refine Ob.fn ?_ ?_ ?_ (hcA)
     rotate_left
     all_goals try(repeat' first|(refine e2d ?_)|((conv=>whnf);first|exact True.intro|(refine And.intro ?_ ?_)|exact rfl|exact e1h (e0f _)|exact e0h _|((conv=>arg 1;whnf);first|exact e0h _|(refine e1q ?_)|(refine e1i ?_)|(refine e2k ?_)|(refine e2e ?_ ?_)|(refine e1v ?_)|(refine e2f rfl ?_))|(refine aA ?_)|(apply bA)|exact aB|exact aC|exact e0m|exact bS.refl _)|exact rfl|(refine And.intro ?_ ?_)|exact e0h _)
     all_goals try first|assumption|omega
     all_goals first|exact ham _|skip
     conv=>whnf
     repeat' first|((first|refine go ?_|refine gc (hcB) ?_);conv=>whnf)|(refine go2 ?_ ?_<;>(try intro hc)<;>conv=>whnf)|fail
     all_goals exact⟨rfl,⟨(i+1,o++[2]),hil,by simp only;rw[hsn,hv]⟩,Lf,by simp only;omega⟩
   by_cases hao:n<a1
   ·have hv:bl i=2:=by rw[hbl];simp[hao]
    cases b2
    all_goals
     conv=>whnf
     repeat' first|(refine go ?_;conv=>whnf)|(refine go2 ?_ ?_<;>(try intro hc)<;>conv=>whnf)|fail
     apply Cl.go
     (conv=>whnf)
     refine Ob.fn ?_ ?_ ?_ (hcA)
     rotate_left
     all_goals try(repeat' first|(refine e2d ?_)|((conv=>whnf);first|exact True.intro|(refine And.intro ?_ ?_)|exact rfl|exact e1h (e0f _)|exact e0h _|((conv=>arg 1;whnf);first|exact e0h _|(refine e1q ?_)|(refine e1i ?_)|(refine e2k ?_)|(refine e2e ?_ ?_)|(refine e1v ?_)|(refine e2f rfl ?_))|(refine aA ?_)|(apply bA)|exact aB|exact aC|exact e0m|exact bS.refl _)|exact rfl|(refine And.intro ?_ ?_)|exact e0h _)
     all_goals try first|assumption|omega
     all_goals first|exact ham _|skip
     conv=>whnf
     repeat' first|((first|refine go ?_|refine gc (hcB) ?_);conv=>whnf)|(refine go2 ?_ ?_<;>(try intro hc)<;>conv=>whnf)|fail
     all_goals exact⟨rfl,⟨(i+1,o++[2]),hil,by simp only;rw[hsn,hv]⟩,Lf,by simp only;omega⟩
   cases b2
   ·have hv:bl i=0:=by rw[hbl];simp[hao]
    conv=>whnf
    repeat' first|(refine go ?_;conv=>whnf)|(refine go2 ?_ ?_<;>(try intro hc)<;>conv=>whnf)|fail
    apply Cl.go
    (conv=>whnf)
    refine Ob.fn ?_ ?_ ?_ (hcA)
    rotate_left
    all_goals try(repeat' first|(refine e2d ?_)|((conv=>whnf);first|exact True.intro|(refine And.intro ?_ ?_)|exact rfl|exact e1h (e0f _)|exact e0h _|((conv=>arg 1;whnf);first|exact e0h _|(refine e1q ?_)|(refine e1i ?_)|(refine e2k ?_)|(refine e2e ?_ ?_)|(refine e1v ?_)|(refine e2f rfl ?_))|(refine aA ?_)|(apply bA)|exact aB|exact aC|exact e0m|exact bS.refl _)|exact rfl|(refine And.intro ?_ ?_)|exact e0h _)
    all_goals try first|assumption|omega
    all_goals first|exact ham _|skip
    conv=>whnf
    repeat' first|((first|refine go ?_|refine gc (hcB) ?_);conv=>whnf)|(refine go2 ?_ ?_<;>(try intro hc)<;>conv=>whnf)|fail
    all_goals exact⟨rfl,⟨(i+1,o++[0]),hil,by simp only;rw[hsn,hv]⟩,Lf,by simp only;omega⟩
   by_cases hbo:n<b1
   ·have hv:bl i=0:=by rw[hbl];simp[hao,hbo]
    conv=>whnf
    repeat' first|(refine go ?_;conv=>whnf)|(refine go2 ?_ ?_<;>(try intro hc)<;>conv=>whnf)|fail
    apply Cl.go
    (conv=>whnf)
    refine Ob.fn ?_ ?_ ?_ (hcA)
    rotate_left
    all_goals try(repeat' first|(refine e2d ?_)|((conv=>whnf);first|exact True.intro|(refine And.intro ?_ ?_)|exact rfl|exact e1h (e0f _)|exact e0h _|((conv=>arg 1;whnf);first|exact e0h _|(refine e1q ?_)|(refine e1i ?_)|(refine e2k ?_)|(refine e2e ?_ ?_)|(refine e1v ?_)|(refine e2f rfl ?_))|(refine aA ?_)|(apply bA)|exact aB|exact aC|exact e0m|exact bS.refl _)|exact rfl|(refine And.intro ?_ ?_)|exact e0h _)
    all_goals try first|assumption|omega
    all_goals first|exact ham _|skip
    conv=>whnf
    repeat' first|((first|refine go ?_|refine gc (hcB) ?_);conv=>whnf)|(refine go2 ?_ ?_<;>(try intro hc)<;>conv=>whnf)|fail
    all_goals exact⟨rfl,⟨(i+1,o++[0]),hil,by simp only;rw[hsn,hv]⟩,Lf,by simp only;omega⟩
   ·have hv:bl i=1:=by rw[hbl];simp[hao,hbo]
    conv=>whnf
    repeat' first|(refine go ?_;conv=>whnf)|(refine go2 ?_ ?_<;>(try intro hc)<;>conv=>whnf)|fail
    apply Cl.go
    (conv=>whnf)
    refine Ob.fn ?_ ?_ ?_ (hcA)
    rotate_left
    all_goals try(repeat' first|(refine e2d ?_)|((conv=>whnf);first|exact True.intro|(refine And.intro ?_ ?_)|exact rfl|exact e1h (e0f _)|exact e0h _|((conv=>arg 1;whnf);first|exact e0h _|(refine e1q ?_)|(refine e1i ?_)|(refine e2k ?_)|(refine e2e ?_ ?_)|(refine e1v ?_)|(refine e2f rfl ?_))|(refine aA ?_)|(apply bA)|exact aB|exact aC|exact e0m|exact bS.refl _)|exact rfl|(refine And.intro ?_ ?_)|exact e0h _)
    all_goals try first|assumption|omega
    all_goals first|exact ham _|skip
    conv=>whnf
    repeat' first|((first|refine go ?_|refine gc (hcB) ?_);conv=>whnf)|(refine go2 ?_ ?_<;>(try intro hc)<;>conv=>whnf)|fail
    all_goals exact⟨rfl,⟨(i+1,o++[1]),hil,by simp only;rw[hsn,hv]⟩,Lf,by simp only;omega⟩
  ·have e:o=fin:=by rw[ho,<-hfin,show i=r.lots.length by omega]
   conv=>whnf
   repeat' first|(refine go ?_;conv=>whnf)|(refine go2 ?_ ?_<;>(try intro hc)<;>conv=>whnf)|fail
   exact Lf
 ·exact Lf
end Go.Px.Tryz.Po
end
