/- Texts of this proof, joined. No statement of the seat is proved here. -/
import Derived.Test.YtcpijpmabkbdkaaGreatJ4
set_option linter.unusedVariables false
set_option linter.unusedSimpArgs false
set_option maxRecDepth 100000
set_option maxHeartbeats 64000000
noncomputable section
namespace Go.Px.Tryz.Po
open Go Go.Proofs Go.Px Go.Px.Tryz
def okL (r:Row):Option Int->Int->Bool
  |none,_=>true
  |some y,x=> !xF r y x
def apF (r:Row):Option Int->List Int->List Int
  |_,[]=>[]
  |last,x::L=>if okL r last x=true then(if(x::apF r (some x) L).length<(apF r last L).length then apF r last L else x::apF r (some x) L)else apF r last L
def dY (r:Row)(last:Option Int)(L:List Int):Nat:=(apF r last L).length
theorem gM (r:Row)(last:Option Int)(x:Int)(L:List Int):dY r last (x::L)=if okL r last x=true then max (1+dY r (some x) L) (dY r last L)else dY r last L:=by
 unfold dY
 rw[apF]
 split
 ·split
  ·rename_i h;rw[e0r]at h;omega
  ·rename_i h;rw[e0r]at h;rw[e0r];omega
 ·rfl
theorem b5f {r:Row}{a b c:Int}(h1:a<=b)(h2:b<=c)(h:xF r a c=true):xF r b c=true/\xF r a b=true:=by
 unfold xF at h⊢
 rw[e5d]at h
 obtain⟨l,hl,hh⟩:=h
 simp only[e0d,e4h]at hh
 obtain⟨⟨a1,a2⟩,⟨c1,c2⟩⟩:=hh
 constructor
 ·exact e5d.2 ⟨l,hl,by simp only[e0d,e4h];exact⟨⟨by omega,by omega⟩,⟨by omega,by omega⟩⟩⟩
 ·exact e5d.2 ⟨l,hl,by simp only[e0d,e4h];exact⟨⟨by omega,by omega⟩,⟨by omega,by omega⟩⟩⟩
structure ApartOk (r:Row)(l:List Int):Prop where
  ris:jP l r.pots
  weak:∀p∈l,p∈r.weak
  apart:l.Pairwise (λa b=>xF r a b=false)
theorem sY {r:Row}(hr:RowOk r){l:List Int}:lI r l=0↔ApartOk r l:=by
 have h0:=fD.2 hr
 unfold lI
 rw[d9z (e4o h0)]
 constructor
 ·intro h
  split at h
  ·cases h
  split at h
  ·cases h
  split at h
  ·rename_i a b c;exact⟨e5z a,e5z b,c⟩
  ·cases h
 ·rintro⟨a,b,c⟩
  rw[d9z (e4o a),d9z (e4o b),e0c c]
theorem tK {r:Row}{l:List Int}{x:Int}(h:ApartOk r l)(hx:x∈r.weak)(hr:RowOk r)(hlt:∀y∈l,y<x):ApartOk r (l++[x])↔okL r l.getLast? x=true:=by
 constructor
 ·rintro⟨_,_,h3⟩
  cases hl:l.getLast? with
  |none=>rfl
  |some y=>
   have hy:y∈l:=List.mem_of_getLast? hl
   rw[e3s]at h3
   have:=h3.2.2 y hy x (by simp)
   simp[okL,this]
 ·intro ho
  refine⟨⟨λy hy=>?_,?_⟩,λy hy=>?_,?_⟩
  ·rcases e0x.1 hy with hy|hy
   ·exact h.ris.1 y hy
   ·rw[e1k.1 hy];exact hr.rng x hx
  ·rw[e3s]
   exact⟨h.ris.2,by simp,λa ha b hb=>by rw[e1k.1 hb];exact hlt a ha⟩
  ·rcases e0x.1 hy with hy|hy
   ·exact h.weak y hy
   ·rw[e1k.1 hy];exact hx
  ·rw[e3s]
   refine⟨h.apart,by simp,λa ha b hb=>?_⟩
   rw[e1k.1 hb]
   cases e:xF r a x with
   |false=>rfl
   |true=>
    cases hl:l.getLast? with
    |none=>rw[List.getLast?_eq_none_iff]at hl;rw[hl]at ha;cases ha
    |some y=>
     have hy:y∈l:=List.mem_of_getLast? hl
     have hay:a<=y:=by
      obtain⟨l',rfl⟩:=List.getLast?_eq_some_iff.1 hl
      rcases e0x.1 ha with ha|ha
      ·have:=(e3s.1 h.ris.2).2.2 a ha y (by simp);omega
      ·rw[e1k.1 ha];exact e4u _
     have:=(b5f hay (Int.le_of_lt (hlt y hy)) e).1
     rw[hl]at ho
     simp[okL,this]at ho
theorem jI {r:Row}(hr:RowOk r):∀(m:Nat) (begun best:List Int),m<=r.weak.length->ApartOk r begun->(∀y∈begun,∀x∈r.weak.drop (r.weak.length-m),y<x)->begun.length<=best.length->
  tF r m begun best=if best.length<begun.length+dY r begun.getLast? (r.weak.drop (r.weak.length-m))then begun++apF r begun.getLast? (r.weak.drop (r.weak.length-m))else best
 |0,begun,best,_,_,_,hb=>by
  rw[e7k,List.drop_length,tF,d9z]
  simp[dY,apF];exact hb
 |m+1,begun,best,hm,hA,hlt,hb=>by
  have hi:r.weak.length-(m+1)<r.weak.length:=by omega
  have hd:=eB 0 hi
  rw[show r.weak.length-(m+1)+1=r.weak.length-m by omega]at hd
  have hxw:r.weak.getD (r.weak.length-(m+1)) 0∈r.weak:=aE hi 0
  have hinc:=b9x hr
  rw[tF]
  generalize hx:r.weak.getD (r.weak.length-(m+1)) 0=x at*
  have hltx:∀y∈begun,y<x:=λy hy=>hlt y hy x (by rw[hd];simp)
  have hlt':∀y∈begun,∀z∈r.weak.drop (r.weak.length-m),y<z:=λy hy z hz=>hlt y hy z (by rw[hd];exact d9v _ hz)
  have hxz:∀z∈r.weak.drop (r.weak.length-m),x<z:=λz hz=>by
   obtain⟨j,hj,rfl⟩:=e3w hz
   rw[e2p]at hj
   rw[List.getElem_drop,<-hx]
   have:=hinc (r.weak.length-(m+1)) (r.weak.length-m+j) (by omega) (by omega)
   rw[d9r (i:=r.weak.length-m+j),e0e (by omega)]at this
   exact this
  rw[hd,gM,apF]
  have hc:=tK hA hxw hr hltx
  rw[<-sY hr]at hc
  by_cases ho:okL r begun.getLast? x=true
  ·rw[e0c (hc.2 ho),e0c ho,e0c ho]
   have hA2:=(tK hA hxw hr hltx).2 ho
   have hl2:(begun++[x]).getLast?=some x:=by simp
   have i1:=jI hr m (begun++[x]) (begun++[x]) (by omega) hA2 (λy hy z hz=>by
    rcases e0x.1 hy with hy|hy
    ·exact hlt' y hy z hz
    ·rw[e1k.1 hy];exact hxz z hz) (e0g _)
   rw[hl2]at i1
   have ei:tF r m (begun++[x]) (begun++[x])=begun++(x::apF r (some x) (r.weak.drop (r.weak.length-m))):=by
    rw[i1]
    split
    ·rw[e6g];rfl
    ·rename_i h
     have h0:dY r (some x) (r.weak.drop (r.weak.length-m))=0:=by omega
     rw[e3e.1 h0]
   rw[ei]
   generalize hg:apF r (some x) (r.weak.drop (r.weak.length-m))=a
   have hlen:dY r (some x) (r.weak.drop (r.weak.length-m))=a.length:=by unfold dY;rw[hg]
   rw[hlen]
   have hla:(begun++(x::a)).length=begun.length+(1+a.length):=by simp;omega
   rw[hla,e0r]
   by_cases h1:best.length<begun.length+(1+a.length)
   ·rw[e0c h1]
    have i2:=jI hr m begun (begun++(x::a)) (by omega) hA hlt' (by rw[hla];omega)
    rw[i2,hla]
    unfold dY
    generalize apF r begun.getLast? (r.weak.drop (r.weak.length-m))=b
    by_cases h2:a.length+1<b.length
    ·rw[e0c (by omega),e0c h2,e0c (by omega)]
    ·rw[d9z (by omega),d9z h2,e0c (by omega)]
   ·rw[d9z h1]
    have i2:=jI hr m begun best (by omega) hA hlt' hb
    rw[i2]
    unfold dY
    generalize apF r begun.getLast? (r.weak.drop (r.weak.length-m))=b
    by_cases h2:a.length+1<b.length
    ·rw[e0c h2]
     by_cases h3:best.length<begun.length+b.length
     ·rw[e0c h3,e0c (by omega)]
     ·rw[d9z h3,d9z (by omega)]
    ·rw[d9z h2,d9z (by omega),d9z (by omega)]
  ·rw[d9z λh=>ho (hc.1 h),d9z ho,d9z ho]
   exact jI hr m begun best (by omega) hA hlt' hb
theorem b6l {r:Row}(hr:RowOk r):tF r r.weak.length [] []=apF r none r.weak:=by
 rw[jI hr r.weak.length [] [] (e0g _) ⟨⟨λx hx=>(by cases hx),List.Pairwise.nil⟩,λx hx=>(by cases hx),List.Pairwise.nil⟩ (λy hy=>(by cases hy)) (e0g _)]
 rw[e7w,List.drop_zero]
 show(if 0<0+dY r none r.weak then []++apF r none r.weak else [])=_
 split
 ·rfl
 ·rename_i h
  have h0:dY r none r.weak=0:=by omega
  rw[e3e.1 h0]
def mxL (l:List Int):Int:=l.foldl max (l.getD 0 0)
theorem a5p (l:List Int){j:Nat}(h:j<l.length):(l.take (j+1)).foldl max (l.getD 0 0)=max ((l.take j).foldl max (l.getD 0 0)) (l.getD j 0):=by
 rw[bP l j 0 h,e4v];rfl
theorem b6c (l:List Int)(h0:0<l.length)(h1:l.length<1000000):Fn Tryz.prog 23 [ints l] (int (mxL l)):=by
 generalize hfin:mxL l=fin
 refine e1t (cuts:=[]) tys hM Tryz.func23 rfl Tryz.call23 rfl ?_
 show exC Tryz.prog T [] _ false none 0 (entry 25 [ints l]) (cH T [ResultVar.tmp 2] _)
 conv=>whnf
 repeat' first|(refine go ?_;conv=>whnf)|(refine go2 ?_ ?_<;>(try intro hc)<;>conv=>whnf)|fail
 refine e2x [0,2,24] 40 ?_
 (conv=>whnf)
 refine e3v 25 ({q:Int×Int//(1<=q.1/\q.1<=l.length)/\q.2=(l.take q.1.toNat).foldl max (l.getD 0 0)}) 0 (λ⟨(i,m),_⟩ nx=>([(4,.d (int i)),(3,.d (int m))],[])) (λp=>(l.length-p.1.1).toNat) (⟨(1,l.getD 0 0),⟨by simp,by simp only;omega⟩,by rw[show((1:Int),l.getD 0 0).1.toNat=0+1 from rfl,a5p l h0];simp⟩) ?_ ?_
 ·rintro⟨⟨i,m⟩,⟨i0,i1⟩,hm⟩
  simp only at i0 i1 hm
  by_cases hil:i<l.length
  ·have hs:=a5p l (j:=i.toNat) (by omega)
   rw[<-hm,show i.toNat+1=(i+1).toNat by omega]at hs
   conv=>whnf
   repeat' first|(refine go ?_;conv=>whnf)|(refine go2 ?_ ?_<;>(try intro hc)<;>conv=>whnf)|fail
   exact⟨rfl,⟨(i+1,max m (l.getD i.toNat 0)),⟨by simp only;omega,by simp only;omega⟩,hs.symm⟩,Lf,by simp only;omega⟩
  ·have e:m=fin:=by rw[hm,<-hfin,e4a (by omega)];rfl
   conv=>whnf
   repeat' first|(refine go ?_;conv=>whnf)|(refine go2 ?_ ?_<;>(try intro hc)<;>conv=>whnf)|fail
   exact Lf
 ·exact Lf
theorem rM (r:Row):∀(L:List Int) (last:Option Int),dY r last L<=L.length
 |[],_=>e0g _
 |x::L,last=>by
  have h1:=rM r L (some x)
  have h2:=rM r L last
  rw[gM,e0r]
  split<;>omega
def mA (r:Row)(k:Nat):Int:=1+dY r (some (r.weak.getD k 0)) (r.weak.drop (k+1))
def mT (r:Row)(k j:Nat):Int:=if k<=j/\j<r.weak.length then mA r j else 0
theorem uH (r:Row){k:Nat}(h:k<r.weak.length):1<=mA r k/\mA r k<=r.weak.length:=by
 have:=rM r (r.weak.drop (k+1)) (some (r.weak.getD k 0))
 rw[e2p]at this
 unfold mA;omega
theorem b2m (r:Row)(y:Int){j:Nat}(h:j<r.weak.length):(dY r (some y) (r.weak.drop j):Int)=if xF r y (r.weak.getD j 0)=false then max (mA r j) (dY r (some y) (r.weak.drop (j+1)))else dY r (some y) (r.weak.drop (j+1)):=by
 rw[eB 0 h,gM]
 show(((if(!xF r y (r.weak.getD j 0))=true then _ else _:Nat):Int))=_
 cases xF r y (r.weak.getD j 0)with
 |true=>simp
 |false=>simp[mA];omega
theorem b2n (r:Row){j:Nat}(h:j<r.weak.length):(dY r none (r.weak.drop j):Int)=max (mA r j) (dY r none (r.weak.drop (j+1))):=by
 rw[eB 0 h,gM]
 show(((if true=true then _ else _:Nat):Int))=_
 simp[mA];omega
def fH (o:List Int):Option Int:=if o.length=0 then none else some (o.getD (o.length-1) 0)
theorem a8f (o:List Int)(x:Int):fH (o++[x])=some x:=by
 unfold fH
 rw[d9z (by simp),d9r,e1m (by simp)]
 simp
theorem b6h (r:Row)(o:List Int){k:Nat}(h:k<r.weak.length)(hok:okL r (fH o) (r.weak.getD k 0)=true)(he:mA r k=dY r (fH o) (r.weak.drop k)):
  o++apF r (fH o) (r.weak.drop k)=(o++[r.weak.getD k 0])++apF r (fH (o++[r.weak.getD k 0])) (r.weak.drop (k+1))/\mA r k-1=dY r (fH (o++[r.weak.getD k 0])) (r.weak.drop (k+1)):=by
 rw[a8f]
 refine⟨?_,by unfold mA;omega⟩
 rw[eB 0 h,gM,e0c hok]at he
 rw[eB 0 h,apF,e0c hok,d9z,e6g]
 ·rfl
 ·unfold mA dY at he
  rw[e0r];omega
theorem b6g (r:Row)(o:List Int){k:Nat}(h:k<r.weak.length)(hn:¬(mA r k=dY r (fH o) (r.weak.drop k)/\okL r (fH o) (r.weak.getD k 0)=true)):
  apF r (fH o) (r.weak.drop k)=apF r (fH o) (r.weak.drop (k+1)):=by
 rw[eB 0 h,apF]
 by_cases hok:okL r (fH o) (r.weak.getD k 0)=true
 ·rw[e0c hok,e0c]
  rw[eB 0 h,gM,e0c hok]at hn
  have hn:¬mA r k=_:=λe=>hn ⟨e,hok⟩
  unfold mA dY at hn
  rw[e0r];omega
 ·rw[d9z hok]
theorem oK:∀(l:List Int) (a:Int),0<=a->0<=l.foldl max a
 |[],_,h=>h
 |x::l,a,h=>oK l (max a x) (by omega)
theorem c0w (r:Row)(hr:RowOk r):∀d k,k+d=r.weak.length->((List.range 13).map λj=>mT r k j).foldl max 0=dY r none (r.weak.drop k)
 |0,k,h=>by
  have e:∀j∈List.range 13,mT r k j=0:=λj _=>d9z (by omega)
  rw[e2s e,e3r (by omega)]
  show List.foldl max 0 (List.map (λ_=>0) (List.range 13))=(0:Int)
  decide
 |d+1,k,h=>by
  have ih:=c0w r hr d (k+1) (by omega)
  have h12:=hr.w12
  rw[b2n r (by omega),<-ih]
  have hk:k<13:=by omega
  have hm:=(uH r (k:=k) (by omega)).1
  have key:∀(n:Nat),((List.range n).map λj=>mT r k j).foldl max 0=if k<n then max (mA r k) (((List.range n).map λj=>mT r (k+1) j).foldl max 0)else((List.range n).map λj=>mT r (k+1) j).foldl max 0:=by
   intro n
   induction n with
   |zero=>simp
   |succ n ih=>
    rw[e4d,e1z,e1z,e4v,e4v,ih]
    simp only[e0o,e3c,e5j,e7t]
    by_cases e:n=k
    ·subst e
     have e1:mT r n n=mA r n:=e0c ⟨e0g _,by omega⟩
     have e2:mT r (n+1) n=0:=d9z (by omega)
     have e3:0<=((List.range n).map λj=>mT r (n+1) j).foldl max 0:=oK _ _ (e4u _)
     rw[d9z (by omega),e0c (by omega),e1,e2]
     omega
    ·have e1:mT r k n=mT r (k+1) n:=by
      unfold mT
      by_cases h1:k<=n/\n<r.weak.length
      ·rw[e0c h1,e0c (by omega)]
      ·rw[d9z h1,d9z (by omega)]
     rw[e1]
     by_cases h1:k<n
     ·rw[e0c h1,e0c (by omega)];omega
     ·rw[d9z h1,d9z (by omega)]
  rw[key 13,e0c hk]
theorem b8n {l:List Int}(h0:0<l.length)(h:∀x∈l,0<=x):mxL l=l.foldl max 0:=by
 cases l with
 |nil=>simp at h0
 |cons x l=>
  have:=h x (by simp)
  unfold mxL
  simp only[e7f,e5j]
  congr 1
  omega
theorem e2k {t:Bool}{n:Nat}{f:Nat->DV}{L:List Int}(hn:n=L.length)(hf:∀j,j<n->f j=int (L.getD j 0)):ImpS (.sl t 1 n f) (ints L):=by
 subst hn
 exact⟨Imp.sl (λe=>by cases e) (by simp) λj hj=>e7u (hf j hj)⟩
def b6a (g:Nat->Int)(k:Nat)(v:Int):Nat->Int:=λq=>if q=k then v else g q
theorem b5h {g:Nat->Int}{a k:Nat}{v:Int}{w:DV}(ha:a=k)(hw:w=int v)(q:Nat):dI (upE a w (λj=>int (g j)) q) (int (b6a g k v q)):=by
 subst ha;subst hw
 unfold upE b6a
 by_cases e:q=a
 ·rw[e0c e,e0c e];exact⟨rfl,rfl⟩
 ·rw[d9z e,d9z e];exact⟨rfl,rfl⟩
theorem c8h (r:Row)(k j:Nat):0<=mT r k j/\mT r k j<=r.weak.length:=by
 unfold mT
 split
 ·rename_i h
  have:=uH r h.2
  omega
 ·omega
theorem c3s (r:Row){k:Nat}(hk:k<r.weak.length)(j:Nat):mT r k j=if j=k then mA r k else mT r (k+1) j:=by
 unfold mT
 by_cases e:j=k
 ·subst e;rw[e0c ⟨e0g _,hk⟩,e0c rfl]
 ·rw[d9z e]
  by_cases h:k<=j/\j<r.weak.length
  ·rw[e0c h,e0c (by omega)]
  ·rw[d9z h,d9z (by omega)]
theorem a1d (r:Row)(h1:r.lots.length<1000000)(h2:r.weak.length<1000000):Fn Tryz.prog 10 [gV r] (tpl [ints (xS r).1,int (xS r).2]):=by
 by_cases hr:bE r=0
 case neg=>
  have hc:=a5t r h1 h2 hr
  have e:xS r=([],bE r):=e0c hr
  rw[e]
  generalize bE r=c at*
  refine e1t (cuts:=[]) tys hM Tryz.func10 rfl Tryz.call10 rfl ?_
  show exC Tryz.prog T [] _ false none 0 (entry 106 [gV r]) (cH T [ResultVar.tmp 2,ResultVar.tmp 3] _)
  conv=>whnf
  repeat' first|((first|refine go ?_|refine gc (hc) ?_);conv=>whnf)|(refine go2 ?_ ?_<;>(try intro hc)<;>conv=>whnf)|fail
  all_goals exact Lf
 have hc:=a3c r h1 h2 hr
 have hok:=fD.1 hr
 have h12:=hok.w12
 have e:xS r=(apF r none r.weak,0):=by rw[<-b6l hok];exact d9z (e4o hr)
 rw[e]
 have hT:=λa b=>xG r a b h1
 generalize hfin:apF r none r.weak=fin
 refine e1t (cuts:=[]) tys hM Tryz.func10 rfl Tryz.call10 rfl ?_
 show exC Tryz.prog T [] _ false none 0 (entry 106 [gV r]) (cH T [ResultVar.tmp 2,ResultVar.tmp 3] _)
 conv=>whnf
 repeat' first|((first|refine go ?_|refine gc (hc) ?_);conv=>whnf)|(refine go2 ?_ ?_<;>(try intro hc)<;>conv=>whnf)|fail
 refine e2x [0,1,2,3,4,6,9,10,11,12,63,64,66,67,68,69,70,71,73,74,75,76,77,78,79,80,81,82,83,84,85,86,87,88,89,90,91,92,93,94,95,96,98,99,100,101,102,103,104,105] 40 ?_
 (conv=>whnf)
 refine e3v 106 ({q:Int×(Nat->Int)//(-1<=q.1/\q.1<r.weak.length)/\∀j,q.2 j=mT r (q.1+1).toNat j}) 0 (λ⟨(k,g),_⟩ nx=>([(7,.d (int k))],[(12,.row true 59 1 13 (λj=>int (g j)))])) (λp=>(p.1.1+1).toNat) (⟨(r.weak.length-1,mT r r.weak.length),⟨by simp only;omega,by simp only;omega⟩,λj=>by rw[show(((r.weak.length:Int)-1,mT r r.weak.length).1+1).toNat=r.weak.length by simp only;omega]⟩) ?_ ?_
 ·rintro⟨⟨k,g⟩,⟨k0,k1⟩,hg⟩
  simp only at k0 k1 hg
  have hgr:∀j,0<=g j/\g j<=12:=λj=>by rw[hg];have:=c8h r (k+1).toNat j;omega
  by_cases hk:0<=k
  ·have hmk:=uH r (k:=k.toNat) (by omega)
   have hmd:mA r k.toNat=1+dY r (some (r.weak.getD k.toNat 0)) (r.weak.drop (k.toNat+1)):=rfl
   have hst:=λj (hj:j<r.weak.length)=>b2m r (r.weak.getD k.toNat 0) hj
   have hll:(dY r (some (r.weak.getD k.toNat 0)) (r.weak.drop r.weak.length):Int)=0:=by rw[e3r (e0g _)];rfl
   have hnx:∀g':Nat->Int,(∀j,j≠k.toNat->g' j=g j)->g' k.toNat=mA r k.toNat->∀j,g' j=mT r (k-1+1).toNat j:=λg' h1 h2 j=>by
    rw[show(k-1+1).toNat=k.toNat by omega,c3s r (by omega)]
    by_cases e:j=k.toNat
    ·rw[e0c e,e,h2]
    ·rw[d9z e,h1 j e,hg,show(k+1).toNat=k.toNat+1 by omega]
   have hgm:∀j,k.toNat<j->j<r.weak.length->g j=mA r j:=λj h1 h2=>by rw[hg];exact e0c ⟨by omega,h2⟩
   have hT:=λb=>hT (r.weak.getD k.toNat 0) b
   conv=>whnf
   repeat' first|(refine go ?_;conv=>whnf)|(refine go2 ?_ ?_<;>(try intro hc)<;>conv=>whnf)|fail
   refine e2x [0,1,2,3,4,6,7,9,10,11,12,25,27,28,29,30,31,32,63,64,66,67,68,69,70,71,73,74,75,76,77,78,79,80,81,82,83,84,85,86,87,88,89,90,91,92,93,94,95,96,98,99,100,101,102,103,104,105] 40 ?_
   (conv=>whnf)
   refine e3v 106 ({q:Int×(Nat->Int)//(k+1<=q.1/\q.1<=r.weak.length)/\(∀j,j≠k.toNat->q.2 j=g j)/\(1<=q.2 k.toNat/\q.2 k.toNat<=20)/\max (q.2 k.toNat) (1+dY r (some (r.weak.getD k.toNat 0)) (r.weak.drop q.1.toNat))=mA r k.toNat}) 0 (λ⟨(j,g'),_⟩ nx=>([(8,.d (int j))],[(12,.row true 59 1 13 (λj=>int (g' j)))])) (λp=>(r.weak.length-p.1.1).toNat) (⟨(k+1,b6a g k.toNat 1),⟨by simp only;omega,by simp only;omega⟩,λj hj=>by simp only[b6a];rw[d9z hj],by simp[b6a],by simp only[b6a,e4b];rw[show(k+1).toNat=k.toNat+1 by omega];omega⟩) ?_ ?_
   ·rintro⟨⟨j,g'⟩,⟨j0,j1⟩,hg',⟨ga,gb⟩,hgx⟩
    simp only at j0 j1 hg' ga gb hgx
    by_cases hjl:j<r.weak.length
    ·have hst:=hst j.toNat (by omega)
     have hT:=hT (r.weak.getD j.toNat 0)
     have hgj:g' j.toNat=mA r j.toNat:=by rw[hg' _ (by omega),hgm _ (by omega) (by omega)]
     have hmj:=uH r (k:=j.toNat) (by omega)
     cases ht:xF r (r.weak.getD k.toNat 0) (r.weak.getD j.toNat 0)with
     |true=>
      rw[ht]at hT hst
      rw[d9z (by simp)]at hst
      have e:max (g' k.toNat) (1+dY r (some (r.weak.getD k.toNat 0)) (r.weak.drop (j+1).toNat))=mA r k.toNat:=by
       rw[show(j+1).toNat=j.toNat+1 by omega,<-hst];exact hgx
      conv=>whnf
      repeat' first|((first|refine go ?_|refine gc (hT) ?_);conv=>whnf)|(refine go2 ?_ ?_<;>(try intro hc)<;>conv=>whnf)|fail
      exact⟨rfl,⟨(j+1,g'),⟨by simp only;omega,by simp only;omega⟩,hg',⟨ga,gb⟩,e⟩,Lf,by simp only;omega⟩
     |false=>
      rw[ht]at hT hst
      rw[e0c rfl]at hst
      have e:max (max (g' k.toNat) (1+g' j.toNat)) (1+dY r (some (r.weak.getD k.toNat 0)) (r.weak.drop (j+1).toNat))=mA r k.toNat:=by
       rw[show(j+1).toNat=j.toNat+1 by omega,hgj];omega
      have ha1:g' (0+k.toNat)=g' k.toNat:=by rw[e0f]
      have ha2:g' (0+j.toNat)=g' j.toNat:=by rw[e0f]
      conv=>whnf
      repeat' first|((first|refine go ?_|refine gc (hT) ?_);conv=>whnf)|(refine go2 ?_ ?_<;>(try intro hc)<;>conv=>whnf)|fail
      refine⟨rfl,⟨(j+1,b6a g' k.toNat (max (g' k.toNat) (1+g' j.toNat))),⟨by simp only;omega,by simp only;omega⟩,λq hq=>by simp only[b6a];rw[d9z hq];exact hg' q hq,by simp only[b6a,e4b];omega,by simp only[b6a,e4b];exact e⟩,?_,by simp only;omega⟩
      repeat' first|(refine e2d ?_)|((conv=>whnf);first|exact True.intro|(refine And.intro ?_ ?_)|exact rfl|exact e1h (e0f _)|exact e0h _|((conv=>arg 1;whnf);first|exact e0h _|(refine e1q ?_)|(refine e1i ?_)|(refine e2k ?_)|(refine e2e ?_ ?_)|(refine e1v ?_)|(refine e2f rfl ?_))|(refine aA ?_)|exact eF.refl _|exact aB|exact aC|exact e0m|exact bS.refl _)|exact rfl|(refine And.intro ?_ ?_)|exact e0h _
      exactλq _=>b5h (by omega) (by rw[<-ha1,<-ha2];rfl) q
    ·have e:=hnx g' hg' (by rw[show j.toNat=r.weak.length by omega,hll]at hgx;omega)
     conv=>whnf
     repeat' first|(refine go ?_;conv=>whnf)|(refine go2 ?_ ?_<;>(try intro hc)<;>conv=>whnf)|fail
     exact⟨rfl,⟨(k-1,g'),⟨by simp only;omega,by simp only;omega⟩,e⟩,Lf,by simp only;omega⟩
   ·conv=>whnf
    repeat' first|(refine e2d ?_)|((conv=>whnf);first|exact True.intro|(refine And.intro ?_ ?_)|exact rfl|exact e1h (e0f _)|exact e0h _|((conv=>arg 1;whnf);first|exact e0h _|(refine e1q ?_)|(refine e1i ?_)|(refine e2k ?_)|(refine e2e ?_ ?_)|(refine e1v ?_)|(refine e2f rfl ?_))|(refine aA ?_)|exact eF.refl _|exact aB|exact aC|exact e0m|exact bS.refl _)|exact rfl|(refine And.intro ?_ ?_)|exact e0h _
    exactλq _=>b5h (by omega) rfl q
  ·have hge:g=λj=>((List.range 13).map (mT r 0)).getD j 0:=funext λj=>by
    rw[hg,show(k+1).toNat=0 by omega,d9r,e0j]
    by_cases hj:j<13
    ·rw[e3p hj];rfl
    ·rw[e1w (by simp;omega)]
     exact d9z (by omega)
   have hGW:∀j,j<r.weak.length->((List.range 13).map (mT r 0)).getD j 0=mA r j:=λj hj=>by
    rw[d9r,e0j,e3p (by omega)]
    exact e0c ⟨by omega,hj⟩
   have hGb:∀j,0<=((List.range 13).map (mT r 0)).getD j 0/\((List.range 13).map (mT r 0)).getD j 0<=12:=λj=>by
    have:=hgr j;rwa[hge]at this
   have hGl:((List.range 13).map (mT r 0)).length=13:=by simp
   have hGm:mxL ((List.range 13).map (mT r 0))=dY r none r.weak:=by
    rw[b8n (by simp) λx hx=>by
     obtain⟨j,_,rfl⟩:=e0l.1 hx
     exact(c8h r 0 j).1]
    have:=c0w r hok r.weak.length 0 (by omega)
    rwa[List.drop_zero]at this
   subst hge
   generalize(List.range 13).map (mT r 0)=G at*
   have hM:=b6c G (by omega) (by omega)
   rw[hGm]at hM
   have hlb:=rM r r.weak none
   by_cases hW:r.weak.length=0
   ·have hz:∀j,j<13->G.getD j 0=0:=λj hj=>(hg j).trans (d9z (by omega))
    have e:fin=[]:=by rw[<-hfin,e3e.1 hW];rfl
    conv=>whnf
    repeat' first|(refine go ?_;conv=>whnf)|(refine go2 ?_ ?_<;>(try intro hc)<;>conv=>whnf)|fail
    ·exact Lf
    ·exact absurd (λj hj=>hz j hj) hc
   conv=>whnf
   repeat' first|(refine go ?_;conv=>whnf)|(refine go2 ?_ ?_<;>(try intro hc)<;>conv=>whnf)|fail
   ·exfalso
    have h0:G.getD 0 0=0:=hc 0 (by decide)
    rw[hGW 0 (by omega)]at h0
    have:=uH r (k:=0) (by omega)
    omega
   apply Cl.go
   (conv=>whnf)
   refine Ob.fn ?_ ?_ ?_ (hM)
   rotate_left
   all_goals try(repeat' first|(refine e2d ?_)|((conv=>whnf);first|exact True.intro|(refine And.intro ?_ ?_)|exact rfl|exact e1h (e0f _)|exact e0h _|((conv=>arg 1;whnf);first|exact e0h _|(refine e1q ?_)|(refine e1i ?_)|(refine e2k ?_)|(refine e2e ?_ ?_)|(refine e1v ?_)|(refine e2f rfl ?_))|(refine aA ?_)|(apply bA)|exact aB|exact aC|exact e0m|exact bS.refl _)|exact rfl|(refine And.intro ?_ ?_)|exact e0h _)
   all_goals try first|assumption|omega
   ·conv=>whnf
    conv=>arg 1;whnf
    exact e2k hGl.symm λj _=>by rw[e0f]
   conv=>whnf
   repeat' first|(refine go ?_;conv=>whnf)|(refine go2 ?_ ?_<;>(try intro hc)<;>conv=>whnf)|fail
   refine e2x [0,2,3,4,6,69,70,105] 40 ?_
   (conv=>whnf)
   refine e3v 106 ({q:Int×List Int×Int//(0<=q.1/\q.1<=r.weak.length)/\fin=q.2.1++apF r (fH q.2.1) (r.weak.drop q.1.toNat)/\q.2.2=dY r (fH q.2.1) (r.weak.drop q.1.toNat)/\q.2.1.length<=q.1}) 0 (λ⟨(i,o,m),_⟩ nx=>([(71,.d (int i)),(9,.ms 18 1 0 o.length),(10,.d (int m))],[(18,.row true 3 1 o.length (bG int 0 o)),(12,.row true 59 1 13 (bG int 0 G))])) (λp=>(r.weak.length-p.1.1).toNat) (⟨(0,[],dY r none r.weak),⟨by simp,by simp⟩,by rw[<-hfin];rfl,rfl,by simp⟩) ?_ ?_
   ·rintro⟨⟨i,o,m⟩,⟨i0,i1⟩,hfo,hm,hol⟩
    simp only at i0 i1 hfo hm hol
    by_cases hil:i<r.weak.length
    ·have hT:=hT (o.getD (o.length-1) 0) (r.weak.getD i.toNat 0)
     have hGi:=hGW i.toNat (by omega)
     have hmi:=uH r (k:=i.toNat) (by omega)
     have hmb:=rM r (r.weak.drop i.toNat) (fH o)
     rw[e2p]at hmb
     have htk:=b6h r o (k:=i.toNat) (by omega)
     have hsk:=b6g r o (k:=i.toNat) (by omega)
     rw[<-hm]at htk hsk
     rw[<-hGi]at htk hsk
     have hskn:¬(G.getD i.toNat 0=m/\okL r (fH o) (r.weak.getD i.toNat 0)=true)->fin=o++apF r (fH o) (r.weak.drop (i+1).toNat)/\m=dY r (fH o) (r.weak.drop (i+1).toNat):=λh=>by
      have:=hsk h
      rw[show(i+1).toNat=i.toNat+1 by omega,<-this]
      refine⟨hfo,?_⟩
      rw[hm];unfold dY;rw[<-this]
     have htkn:G.getD i.toNat 0=m->okL r (fH o) (r.weak.getD i.toNat 0)=true->fin=(o++[r.weak.getD i.toNat 0])++apF r (fH (o++[r.weak.getD i.toNat 0])) (r.weak.drop (i+1).toNat)/\m-1=dY r (fH (o++[r.weak.getD i.toNat 0])) (r.weak.drop (i+1).toNat):=λh h'=>by
      have:=htk h' h
      rw[show(i+1).toNat=i.toNat+1 by omega,hfo]
      rw[h]at this
      exact this
     clear hsk htk
     have hg1:G.getD i.toNat 0=G.getD (0+i.toNat) 0:=by rw[e0f]
     rw[hg1]at htkn hskn hGi
     by_cases he:G.getD (0+i.toNat) 0=m
     ·by_cases hoz:o.length=0
      ·have hlo:fH o=none:=e0c hoz
       obtain⟨e1,e2⟩:=htkn he (by rw[hlo];rfl)
       conv=>whnf
       repeat' first|((first|refine go ?_|refine gc (hT) ?_);conv=>whnf)|(refine go2 ?_ ?_<;>(try intro hc)<;>conv=>whnf)|fail
       all_goals exact⟨rfl,⟨(i+1,o++[r.weak.getD i.toNat 0],m-1),⟨by simp only;omega,by simp only;omega⟩,e1,e2,by simp;omega⟩,Lf,by simp only;omega⟩
      ·have hlo:fH o=some (o.getD (o.length-1) 0):=d9z hoz
       rw[hlo]at htkn hskn
       cases ht:xF r (o.getD (o.length-1) 0) (r.weak.getD i.toNat 0)with
       |true=>
        obtain⟨e1,e2⟩:=hskn λh=>by
         have:=h.2
         rw[show okL r (some (o.getD (o.length-1) 0)) (r.weak.getD i.toNat 0)= !xF r (o.getD (o.length-1) 0) (r.weak.getD i.toNat 0)from rfl,ht]at this
         cases this
        rw[<-hlo]at e1 e2
        rw[ht]at hT
        conv=>whnf
        repeat' first|((first|refine go ?_|refine gc (hT) ?_);conv=>whnf)|(refine go2 ?_ ?_<;>(try intro hc)<;>conv=>whnf)|fail
        all_goals exact⟨rfl,⟨(i+1,o,m),⟨by simp only;omega,by simp only;omega⟩,e1,e2,by simp only;omega⟩,Lf,by simp only;omega⟩
       |false=>
        obtain⟨e1,e2⟩:=htkn he (by
         rw[show okL r (some (o.getD (o.length-1) 0)) (r.weak.getD i.toNat 0)= !xF r (o.getD (o.length-1) 0) (r.weak.getD i.toNat 0)from rfl,ht]
         rfl)
        rw[ht]at hT
        conv=>whnf
        repeat' first|((first|refine go ?_|refine gc (hT) ?_);conv=>whnf)|(refine go2 ?_ ?_<;>(try intro hc)<;>conv=>whnf)|fail
        all_goals exact⟨rfl,⟨(i+1,o++[r.weak.getD i.toNat 0],m-1),⟨by simp only;omega,by simp only;omega⟩,e1,e2,by simp;omega⟩,Lf,by simp only;omega⟩
     ·obtain⟨e1,e2⟩:=hskn λh=>he h.1
      conv=>whnf
      repeat' first|((first|refine go ?_|refine gc (hT) ?_);conv=>whnf)|(refine go2 ?_ ?_<;>(try intro hc)<;>conv=>whnf)|fail
      all_goals exact⟨rfl,⟨(i+1,o,m),⟨by simp only;omega,by simp only;omega⟩,e1,e2,by simp only;omega⟩,Lf,by simp only;omega⟩
    ·have e:o=fin:=by rw[hfo,e3r (by omega)];simp[apF]
     conv=>whnf
     repeat' first|(refine go ?_;conv=>whnf)|(refine go2 ?_ ?_<;>(try intro hc)<;>conv=>whnf)|fail
     exact Lf
   ·exact Lf
 ·conv=>whnf
  repeat' first|(refine e2d ?_)|((conv=>whnf);first|exact True.intro|(refine And.intro ?_ ?_)|exact rfl|exact e1h (e0f _)|exact e0h _|((conv=>arg 1;whnf);first|exact e0h _|(refine e1q ?_)|(refine e1i ?_)|(refine e2k ?_)|(refine e2e ?_ ?_)|(refine e1v ?_)|(refine e2f rfl ?_))|(refine aA ?_)|exact eF.refl _|exact aB|exact aC|exact e0m|exact bS.refl _)|exact rfl|(refine And.intro ?_ ?_)|exact e0h _
  intro j _
  have:mT r r.weak.length j=0:=d9z (by omega)
  show dI _ (int (mT r r.weak.length j))
  rw[this]
  exact⟨rfl,rfl⟩
end Go.Px.Tryz.Po
end
