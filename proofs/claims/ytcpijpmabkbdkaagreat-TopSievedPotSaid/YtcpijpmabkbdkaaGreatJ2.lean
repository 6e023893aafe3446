/- Texts of this proof, joined. No statement of the seat is proved here. -/
import Derived.Test.YtcpijpmabkbdkaaGreatJ1
import Derived.RangeFuncRecord
set_option linter.unusedVariables false
set_option linter.unusedSimpArgs false
set_option maxRecDepth 100000
set_option maxHeartbeats 64000000
noncomputable section
namespace Go.Px
open Go Go.RowKit
def Fr0 (ro:Option Nat):Fence:={Fence.wide with round:=ro}
section
variable {P:Program} {T:Nat->Option TI} {B:Base} {Fr:Nat->Prop} {E:Env} {st:St} {a:Act} {W:World}
theorem b8m {id k off n:Nat}{u:Value}(h:aK E W (.ms id k off n) u):∃(x:Option (Nat×Nat)) (cap:Nat),u= .slice (x.map λy=>⟨y.1,y.2,none⟩) n cap/\n<=cap:=by
 rcases h with⟨_,rfl,rfl⟩|⟨b,o,cap,cc,T',_,rfl,h3,_⟩
 ·exact⟨none,0,rfl,e0g _⟩
 ·exact⟨some (b,o),cap,rfl,h3⟩
theorem d8g (b o:Nat):(⟨b,o,none⟩:Addr).add 0=⟨b,o,none⟩:=by unfold Addr.add;split<;>simp_all
theorem a0f (hT:bQ P T)(h:Sat B Fr E st a W){ρ:Operand->Value}(hev:∀x,aK E W (st.ev x) (ρ x))(o:Oper){t:Nat}{x hi mx:Operand}(ho:o.op= .slice t x none (some hi) (some mx))
  {hv mv:Option Int} (hhi:pP st.ev (some hi)=some hv) (hmx:pP st.ev (some mx)=some mv) {c:Prop} {y:AV} {st':St} (hs:lS T t (st.ev x) hv mv st=some (c,y,st')) (hc:c):
  ∃E' v,(execOp ρ o).run P W= .ok (.value v) W/\Sat B Fr E' st' a W/\aK E' W y v:=by
 have hx:=hev x
 unfold lS at hs
 split at hs
 ·rename_i ti h0 m0 ht
  split at hs
  ·rename_i e hd
   cases he:T e with
   |none=>rw[he]at hs;cases hs
   |some te=>
    rw[he]at hs
    simp only[]at hs
    split at hs
    ·rename_i id k off n ex
     split at hs
     ·rename_i mt U k' n' f hid
      cases hb:(Nat.beq k te.size&&Nat.beq k' te.size)with
      |false=>rw[hb]at hs;cases hs
      |true=>
       rw[hb]at hs
       simp only[e0q,e0a,e0i]at hs
       obtain⟨rfl,rfl,rfl⟩:=hs
       simp only[e0d]at hb
       obtain rfl:=d9s hb.1
       have hk':=d9s hb.2
       subst hk'
       obtain⟨c1,c2,rfl,c4⟩:=hc
       rw[ex]at hx
       obtain⟨xo,cap,hu,hcap⟩:=b8m hx
       have hfr:=h.frz hid
       have hev2:Ev E W (E.frz id) W:=⟨λ_ h=> .inl h,λ_ _=>rfl,λ_ _=>rfl,λ_ c _ h=>⟨c,h,rfl⟩⟩
       obtain⟨ao,cap1,hu1,q1,q2,q3,hy⟩:=b4b (lo:=none) (hi:=some m0) (mx:=none) (show msV id te.size off n none (some m0) none=some (_,_)from rfl) ⟨c1,c2⟩ hx
       rw[hu]at hu1;cases hu1
       have hsame:∀p:Prop,∀[Decidable p],(if p then(xo.map λy=>(⟨y.1,y.2,none⟩:Addr))else(xo.map λy=>(⟨y.1,y.2,none⟩:Addr)).map (·.add (oN none 0*te.size)))=xo.map λy=>⟨y.1,y.2,none⟩:=by
        intro p _
        split
        ·rfl
        ·cases xo with
         |none=>rfl
         |some z=>simp[d8g,oN]
       have hr:=kS h (S:=(E.frz id).S) (λ_ h=> .inl h) 1 (.ms id te.size off m0.toNat) _ (by simp only[qB,hid];exact⟨by trivial,by omega⟩) (by simp only[bB,hid];intro j hj b hb;simp at hj;subst hj;exact .inr hb) hy
       simp only[dX,hid]at hr
       rw[hsame]at hr
       simp only[oN]at hr
       obtain⟨a1,cap2,heq,hn2,_,ha,hel⟩:=hr
       simp only[e7k]at heq
       injection heq with e1 e2 e3
       have hrun:=sH (P:=P) (W:=W) hT hev ht hd he (lo:=none) (l:=none) rfl hhi hmx (n:=n) (cap:=cap) (ao:=xo.map λy=>⟨y.1,y.2,none⟩)
        (by rintro i e;cases e;exact⟨c1,by omega,by simp⟩) (by rintro i e;cases e;simp only[oI];omega) (by rintro i e;cases e)
       refine⟨E.frz id,.slice a1 m0.toNat m0.toNat,?_,?_,?_⟩
       ·simp only[execOp,ho,hu,d9t,d9u]
        simp only[e4m,e1y]at hrun⊢
        rw[hrun]
        rw[hsame];simp only[oN,e7k,d9q,e1]
       ·have:st.frz id=st.set id (some (Res.row mt U te.size n' f).imm):=by unfold St.frz;rw[hid]
        rw[this];exact hfr
       ·exact⟨a1,m0.toNat,rfl,e0g _,λ_=>rfl,λhn=>by subst hn;have:=ha rfl;omega,hel⟩
     ·cases hs
    ·cases hs
  ·cases hs
 ·cases hs
theorem b2z (h:Sat B Fr E st a W){i:Nat}(hf:Fr i){ρ:Operand->Value}(hev:∀x,aK E W (st.ev x) (ρ x))(hρ:∀v,ρ (.const v)=v)(o:Oper)(ho:o.op= .assign (.const (.slice none 0 0))){t:Nat}{c:Prop}{y:AV}{st':St}(hs:c3z T i t st=some (c,y,st')):
  cT P B Fr i st' a W ρ o y:=by
 unfold c3z at hs
 split at hs
 ·rename_i ti ht
  split at hs
  ·rename_i e hd
   cases he:T e with
   |none=>rw[he]at hs;cases hs
   |some te=>
    rw[he]at hs
    simp only[e0a,e0i]at hs
    obtain⟨rfl,rfl,rfl⟩:=hs
    exact⟨_,_,_,W,by simp only[execOp,ho,hρ];rfl,.inl rfl,h.newNil hf,.inl ⟨aF _ _ _,rfl,rfl⟩⟩
  ·cases hs
 ·cases hs
theorem Sat.called (h:Sat B Fr E st a W){S':Nat->Prop}{W':World}(h1:∀b,E.S b->S' b)(h2:∀b,S' b->E.S b\/(W.heap.size<=b/\b<W'.heap.size))(h3:Below W.heap.size W W'):Sat B Fr {E with S:=S'} st a W':=by
 have hev:Ev E W {E with S:=S'} W':=⟨h1,λb hb=>h3.block b (h.S_lt b hb),λ_ _=>rfl,λb c _ hh=>⟨c,(h3.block b (d9w.1 hh).1).trans hh,rfl⟩⟩
 refine h.go hev (λid b hi hb=>h3.block b (h.at_lt hi hb)) (λid b hi hb hl hn hS=>?_) (λ_=>rfl) (λb hb=>?_) rfl (λD hD=>?_) (.of_below h3)
 ·rcases h2 b hS with hs|hs
  ·exact hn hs
  ·omega
 ·rcases h2 b hb with hs|hs
  ·exact(h.sup b hs).imp id λx=>⟨x.1,e1g x.2 h3.size⟩
  ·exact .inr ⟨B.how W h.g _ hs.1,hs.2⟩
 ·obtain⟨d1,d2,d3⟩:=h.dd D hD
  have hl:=(d9w.1 d3).1
  refine⟨h3.block D hl,λhS=>?_⟩
  rcases h2 D hS with hs|hs
  ·exact d2 hs
  ·omega
theorem Sat.fresh (h:Sat B Fr E st a W){i:Nat}(hf:Fr i){lo:Loc}{r:Res}(hd:∀b,lo= .at b->∀j,st.hp j≠none->E.ρ j= .at b->False)(hr:SatR B (E.set i lo) W i r):
  Sat B (λj=>Fr j/\j≠i) (E.set i lo) (st.set i (some r)) a W:=by
 have hun:=h.fr i hf
 have hev:Ev E W (E.set i lo) W:=Ev.set hun
 have hne:∀j,j≠i->(E.set i lo).ρ j=E.ρ j:=λj e=>by show(bif Nat.beq j i then _ else _)=_;rw[cG e];rfl
 have hid:(E.set i lo).ρ i=lo:=by show(bif Nat.beq i i then _ else _)=_;rw[bD];rfl
 have hh:∀j,j≠i->(st.set i (some r)).hp j=st.hp j:=λj e=>by show(bif Nat.beq j i then _ else _)=_;rw[cG e];rfl
 refine⟨h.size,λj hj=>(h.tm j hj).ev hev,λj r' hj=>?_,λj k b hj hk h1 h2=>?_,λj hj=>?_,h.sub,h.sup,h.s0,h.df,h.dn,h.dd,h.g,hev.r0 h.r0⟩
 ·by_cases e:j=i
  ·subst e
   have:(st.set j (some r)).hp j=some r:=by show(bif Nat.beq j j then _ else _)=_;rw[bD];rfl
   rw[this]at hj;cases hj;exact hr
  ·rw[hh j e]at hj
   exact(h.hp j r' hj).ev hev (λ_ _=>rfl) (λ_ _ _ hn=>hn)
 ·by_cases ej:j=i<;>by_cases ek:k=i
  ·rw[ej,ek]
  ·subst ej
   rw[hid]at h1
   rw[hne k ek]at h2;rw[hh k ek]at hk
   exact(hd b h1 k hk h2).elim
  ·subst ek
   rw[hid]at h2
   rw[hne j ej]at h1;rw[hh j ej]at hj
   exact(hd b h2 j hj h1).elim
  ·rw[hne j ej]at h1;rw[hne k ek]at h2;rw[hh j ej]at hj;rw[hh k ek]at hk
   exact h.dist j k b hj hk h1 h2
 ·rw[hne j hj.2];exact h.fr j hj.1
theorem eD (h:Sat B Fr E st a W){S:Nat->Prop}(hS:∀b,E.S b->S b):∀(l:List AV) (us:List Value),gQ st l->(∀id∈bO st l,∀b,E.ρ id= .at b->S b)->l.length=us.length->(∀j,j<l.length->aK E W (l.getD j (.d .top)) (us.getD j undef))->
  gI S W (l.map (dX bH st.hp)) us
 |[],[],_,_,_,_=>trivial
 |[],_::_,_,_,hl,_=>by simp at hl
 |_::_,[],_,_,hl,_=>by simp at hl
 |x::l,u::us,hok,hre,hl,hx=>by
  refine⟨kS h hS bH x u hok.1 (λid hid=>hre id ?_) (by simpa using hx 0 (by simp)),eD h hS l us hok.2 (λid hid=>hre id ?_) (by simpa using hl) λj hj=>by simpa using hx (j+1) (by simpa using hj)⟩
  ·exact e0p _ hid
  ·exact e0n _ hid
theorem cA {α:Type}(n:Nat)(g:Nat->α)(j:Nat)(d:α)(h:j<n):((List.range n).map g).getD j d=g j:=by
 rw[d9r,e0j,e3p h];rfl
theorem kB {f:AV}{u:Value}(hu:aK E W f u){l:List AV}{us:List Value}(hl:l.length=us.length)(hx:∀j,j<l.length->aK E W (l.getD j (.d .top)) (us.getD j undef)){g:Nat}{l':List AV}(hv:gB f l=some (g,l')):
  ∃fs cs:Array Value,u= .func (.func g) fs cs/\l'.length=(fs.toList++us++cs.toList).length/\∀j,j<l'.length->aK E W (l'.getD j (.d .top)) ((fs.toList++us++cs.toList).getD j undef):=by
 have join:∀(a b:List AV) (x y:List Value),a.length=x.length->(∀j,j<a.length->aK E W (a.getD j (.d .top)) (x.getD j undef))->b.length=y.length->(∀j,j<b.length->aK E W (b.getD j (.d .top)) (y.getD j undef))->
   (a++b).length=(x++y).length/\∀j,j<(a++b).length->aK E W ((a++b).getD j (.d .top)) ((x++y).getD j undef):=by
  intro a b x y h1 h2 h3 h4
  refine⟨by simp[h1,h3],λj hj=>?_⟩
  by_cases hj1:j<a.length
  ·rw[d9r,e1u hj1,d9r,e1u (by omega),<-d9r,<-d9r];exact h2 j hj1
  ·rw[d9r,e1m (by omega),d9r,e1m (by omega),<-d9r,<-d9r,<-h1]
   exact h4 _ (by rw[e1f]at hj;omega)
 unfold gB at hv
 split at hv
 ·rename_i n m f' c'
  cases hv
  obtain⟨fs,cs,rfl,h1,h2,h3,h4⟩:=hu
  have j1:=join ((List.range n).map f') l fs.toList us (by simp[h1]) (λj hj=>by
   simp only[e0z,e2o]at hj
   rw[cA _ _ _ _ hj]
   simpa[d9r,d9x]using h3 j hj) hl hx
  have j2:=join _ ((List.range m).map c') _ cs.toList j1.1 j1.2 (by simp[h2]) (λj hj=>by
   simp only[e0z,e2o]at hj
   rw[cA _ _ _ _ hj]
   simpa[d9r,d9x]using h4 j hj)
  exact⟨fs,cs,rfl,j2.1,j2.2⟩
 ·rename_i n m f' c'
  cases hv
  obtain⟨fs,cs,rfl,h1,h2,h3,h4⟩:=hu
  have j1:=join ((List.range n).map λj=>AV.d (f' j)) l fs.toList us (by simp[h1]) (λj hj=>by
   simp only[e0z,e2o]at hj
   rw[cA _ _ _ _ hj]
   have:=h3 j hj
   simpa[aK,Rep,d9r,d9x]using this) hl hx
  have j2:=join _ ((List.range m).map λj=>AV.d (c' j)) _ cs.toList j1.1 j1.2 (by simp[h2]) (λj hj=>by
   simp only[e0z,e2o]at hj
   rw[cA _ _ _ _ hj]
   have:=h4 j hj
   simpa[aK,Rep,d9r,d9x]using this)
  exact⟨fs,cs,rfl,j2.1,j2.2⟩
 ·cases hv
theorem b7q {r:DV}(hr:r.flat=true){S S':Nat->Prop}{W W':World}{v:Value}(h:Rep S W r v):Rep S' W' r v:=by
 induction r generalizing v with
 |v x=>exact h
 |top=>trivial
 |ag n f ih=>
  simp only[DV.flat,e1d,e1e]at hr
  obtain⟨cs,h1,h2,h3⟩:=h
  exact⟨cs,h1,h2,λj hj=>⟨ih j (hr j hj) (h3 j hj).1,(h3 j hj).2⟩⟩
 |tp n f ih=>
  simp only[DV.flat,e1d,e1e]at hr
  obtain⟨cs,h1,h2,h3⟩:=h
  exact⟨cs,h1,h2,λj hj=>ih j (hr j hj) (h3 j hj)⟩
 |_=>cases hr
def c3l (E:Env)(id:Nat):Env:=⟨E.S,λj=>bif Nat.beq j 0 then E.ρ id else .un,[]⟩
theorem c3m {E:Env}{id j:Nat}(h:j≠0):(c3l E id).ρ j= .un:=by
 show(bif Nat.beq j 0 then E.ρ id else .un)= .un
 rw[cG h];rfl
theorem b7v (h:Sat B Fr E st a W){f:AV}{u:Value}(hu:aK E W f u){l:List AV}{us:List Value}(hl:l.length=us.length)(hx:∀j,j<l.length->aK E W (l.getD j (.d .top)) (us.getD j undef))
  {x':Nat->DV} {z:AV} {c:Prop} {y:AV} {st':St} (hv:ipV P f l x' z st=some (c,y,st')) (hc:c):
  ∃g fs cs,u= .func (.func g) fs cs/\Ent P g/\Calls P g (fs++us.toArray++cs) W λe W'=>∃v E',e= .returned v/\Sat B Fr E' st' a W'/\aK E' W' y v:=by
 unfold ipV at hv
 split at hv
 ·rename_i gf f1 f2 id k off n l'
  split at hv
  ·rename_i U k' m x hid
   cases hb:Nat.beq k' k with
   |false=>rw[hb]at hv;cases hv
   |true=>
   rw[hb]at hv
   simp only[e0q]at hv
   cases hv
   obtain rfl:=d9s hb
   obtain⟨⟨rfl,rfl,hre,hok⟩,hC⟩:=hc
   obtain⟨fs,cs,rfl,hfs,hcs,_,_⟩:=hu
   obtain⟨v,us',rfl⟩:∃v us',us=v::us':=by
    match us,hl with
    |v::us',_=>exact⟨v,us',rfl⟩
   have hx0:aK E W (.ms id k' 0 m) v:=hx 0 (by simp)
   have e1:fs= #[]:=Array.size_eq_zero_iff.1 hfs
   have e2:cs= #[]:=Array.size_eq_zero_iff.1 hcs
   subst e1;subst e2
   refine⟨gf,#[],#[],rfl,hC.ent,?_⟩
   have e3:(#[]++(v::us').toArray++ #[]:Array Value)=(v::us').toArray:=by simp
   rw[e3]
   have hρ0:(c3l E id).ρ 0=E.ρ id:=rfl
   have hrow:=h.hp id _ hid
   have hx1:aK (c3l E id) W (.ms 0 k' 0 m) v:=hx0
   have hs1:SatR (b0f (c3l E id) W) (c3l E id) W 0 (.row true U k' m x):=by
    rcases hrow with h1|⟨b,cc,h1,h2,h3,h4,h5⟩
    ·exact .inl h1
    ·have h4':¬E.S b/\B.ow b:=h4
     exact .inr ⟨b,cc,h1,h2,h3,show¬E.S b/\_ from⟨h4'.1,.inl h1⟩,h5⟩
   have hreps:gI (c3l E id).S W (l'.map (dX bH st.hp)) us':=
    eD h (λ_ h=>h) l' us' hok (λi hi=>by rw[hre]at hi;cases hi) (by simpa using hl) λj hj=>by simpa using hx (j+1) (by simpa using hj)
   refine(hC.run (c3l E id) W v us' h.S_lt (λj hj=>c3m hj) rfl hx1 hs1 hreps).mono ?_
   rintro e W' ⟨r,E1,rfl,p1,p2,p3,p4,p5,p6,p7⟩
   have p2:E1.ρ 0=E.ρ id:=p2
   have p5:Stp (λb=>E.ρ id= .at b\/W.heap.size<=b) W W':=p5
   have hnS:∀b,E.ρ id= .at b->¬E.S b/\¬E1.S b/\B.ow b/\∃c0 T0,W.heap[b]?=some (.cells c0 T0 (0,0)):=by
    intro b hb
    rcases hrow with⟨h1,_⟩|⟨b',cc,h1,h2,h3,h4,h5⟩
    ·rw[hb]at h1;cases h1
    ·rw[hb]at h1;cases h1
     have h4':¬E.S b/\B.ow b:=h4
     refine⟨h4'.1,?_,h4'.2,cc,U,h2⟩
     rcases p6 with⟨q1,_⟩|⟨b2,c2,q1,_,_,q4,_⟩
     ·rw[p2,hb]at q1;cases q1
     ·rw[p2,hb]at q1;cases q1
      have q4':¬E1.S b/\_:=q4
      exact q4'.1
   have hkeep:∀b,b<W.heap.size->E.ρ id≠ .at b->W'.heap[b]?=W.heap[b]?:=λb hb hn=>p5.block b hb λho=>ho.elim hn λhge=>by omega
   have hst:Stp B.ow W W':=⟨p5.os,p5.tape,p5.output,p5.size,λk hk hn=>p5.block k hk λho=>ho.elim (λh1=>hn (hnS k h1).2.2.1) λh1=>hn (B.how W h.g k h1),p5.sh⟩
   let E2:Env:={E with S:=E1.S}
   have hev:Ev E W E2 W':=⟨p3,λb hb=>hkeep b (h.S_lt b hb) λhn=>(hnS b hn).1 hb,λ_ _=>rfl,p5.sh⟩
   have hne0:st.hp id≠none:=by rw[hid];simp
   have hh:∀i,i≠id->(st.set id (some (.row true U k' m x'))).hp i=st.hp i:=λi e=>by show(bif Nat.beq i id then _ else _)=_;rw[cG e];rfl
   have hlive:∀i,(st.set id (some (.row true U k' m x'))).hp i≠none->st.hp i≠none:=λi hi=>by
    by_cases e:i=id
    ·rw[e];exact hne0
    ·rw[hh i e]at hi;exact hi
   have hold:∀b,b<W.heap.size->¬E.S b->¬E1.S b:=λb hb hn hS=>by
    rcases p4 b hS with h1|⟨h1,_⟩
    ·exact hn h1
    ·rcases h1 with h1|h1
     ·exact(hnS b h1).2.1 hS
     ·have h1:W.heap.size<=b:=h1
      omega
   refine⟨r,E2,rfl,?_,?_⟩
   ·refine⟨h.size,λi hi=>(h.tm i hi).ev hev,λi r' hi=>?_,λi j b hi hj h1 h2=>h.dist i j b (hlive i hi) (hlive j hj) h1 h2,h.fr,λb hb=>p3 b (h.sub b hb),λb hb=>?_,λb hb=>⟨(h.s0 b hb).1,e1g (h.s0 b hb).2 p5.size⟩,h.df,h.dn,λD hD=>?_,B.hG _ _ h.g hst,h.r0⟩
    ·by_cases e:i=id
     ·subst e
      have:(st.set i (some (Res.row true U k' m x'))).hp i=some (.row true U k' m x'):=by show(bif Nat.beq i i then _ else _)=_;rw[bD];rfl
      rw[this]at hi;cases hi
      rcases p6 with⟨q1,q2⟩|⟨b2,c2,q1,q2,q3,q4,q5⟩
      ·exact .inl ⟨p2.symm.trans q1,q2⟩
      ·have hb2:E.ρ i= .at b2:=p2.symm.trans q1
       exact .inr ⟨b2,c2,hb2,q2,q3,show¬E1.S b2/\B.ow b2 from⟨(hnS b2 hb2).2.1,(hnS b2 hb2).2.2.1⟩,q5⟩
     ·have hi2:=hi
      rw[hh i e]at hi
      have hin:st.hp i≠none:=by rw[hi];simp
      refine(h.hp i r' hi).ev hev (λb hb=>hkeep b (h.at_lt hin hb) λhn=>?_) (λb hb hl hn=>hold b hl hn)
      exact e (h.dist i id b hin hne0 hb hn)
    ·rcases p4 b hb with h1|⟨h1,h2⟩
     ·exact(h.sup b h1).imp (λq=>q) λq=>⟨q.1,e1g q.2 p5.size⟩
     ·rcases h1 with h1|h1
      ·exact absurd hb (hnS b h1).2.1
      ·exact .inr ⟨B.how W h.g b h1,h2⟩
    ·obtain⟨d1,d2,d3⟩:=h.dd D hD
     have hlt:=(d9w.1 d3).1
     refine⟨d1,hold D hlt d2,(hkeep D hlt λhn=>?_).trans d3⟩
     obtain⟨_,_,_,c0,T0,h0⟩:=hnS D hn
     rw[d3]at h0;cases h0
   ·exact AV.nm_rep (E':=E2) (i:=id) p1 rfl p2.symm p7
  ·cases hv
 ·cases hv
theorem a7o (h:Sat B Fr E st a W){i:Nat}(hf:Fr i){f:AV}{u:Value}(hu:aK E W f u){l:List AV}{us:List Value}(hl:l.length=us.length)(hx:∀j,j<l.length->aK E W (l.getD j (.d .top)) (us.getD j undef))
  {r:CR} {c:Prop} {y:AV} {st':St} (hv:iZ P i f l r st=some (c,y,st')) (hc:c):
  ∃g fs cs,u= .func (.func g) fs cs/\Ent P g/\Calls P g (fs++us.toArray++cs) W λe W'=>∃v E',e= .returned v/\Sat B (λj=>Fr j/\j≠i) E' st' a W'/\aK E' W' y v:=by
 have hw:∀j,(Fr j/\j≠i)->Fr j:=λ_ h=>h.1
 cases r with
 |ls=>cases hv
 |ip x' z=>
  obtain⟨g,fs,cs,h1,h2,h3⟩:=b7v h hu hl hx hv hc
  exact⟨g,fs,cs,h1,h2,h3.mono λe W' ⟨v,E',q1,q2,q3⟩=>⟨v,E',q1,q2.weak hw,q3⟩⟩
 |dv r=>
 simp only[iZ]at hv
 split at hv
 ·rename_i g l' hg
  cases hv
  obtain⟨fs,cs,rfl,h1,h2⟩:=kB hu hl hx hg
  obtain⟨E1,hs1,hev1,hr1,hρ1,_⟩:=h.frzs (bO st l')
  have hreps:gI E1.S W (l'.map (dX bH st.hp)) (fs.toList++us++cs.toList):=
   eD h hev1.s l' _ hc.1 (λid hid b hb=>hr1 id hid (by
    obtain⟨x,_,hx⟩:=e1a.1 hid
    exact dV _ _ hx) b hb) h1 h2
  have hcall:=hc.2.2 E1.S W _ hs1.S_lt hreps
  refine⟨g,fs,cs,rfl,hc.2.1,?_⟩
  have e:(fs.toList++us++cs.toList).toArray=fs++us.toArray++cs:=by simp
  rw[e]at hcall
  refine hcall.mono ?_
  rintro en W' ⟨v,S',rfl,hrep,p1,p2,p3⟩
  cases hfl:r.flat with
  |true=>exact⟨v,E,rfl,(h.below p3).weak hw,b7q hfl hrep⟩
  |false=>exact⟨v,{E1 with S:=S'},rfl,(hs1.called p1 p2 p3).weak hw,hrep⟩
 ·cases hv
 |nw R z=>
 simp only[iZ]at hv
 split at hv
 ·rename_i g l' hg
  cases hv
  have hR:R.nw=true:=hc.1.2
  obtain⟨fs,cs,rfl,h1,h2⟩:=kB hu hl hx hg
  obtain⟨E1,hs1,hev1,hr1,hρ1,_⟩:=h.frzs (bO st l')
  have hreps:gI E1.S W (l'.map (dX bH st.hp)) (fs.toList++us++cs.toList):=
   eD h hev1.s l' _ hc.1.1 (λid hid b hb=>hr1 id hid (by
    obtain⟨x,_,hx⟩:=e1a.1 hid
    exact dV _ _ hx) b hb) h1 h2
  have hcall:=hc.2.run E1.S W _ hs1.S_lt hreps
  refine⟨g,fs,cs,rfl,hc.2.ent,?_⟩
  have e:(fs.toList++us++cs.toList).toArray=fs++us.toArray++cs:=by simp
  rw[e]at hcall
  refine hcall.mono ?_
  rintro en W' ⟨v,E2,rfl,q1,p1,p2,p3,hrow,hrep⟩
  cases hmp:d1t R z with
  |true=>
   unfold d1t at hmp
   split at hmp
   ·rename_i mt kt m id0
    obtain⟨b,es,ck,r1,r2,r3,r4⟩:=hrow
    have hb:W.heap.size<=b:=by
     cases mt with
     |false=>cases hR
     |true=>exact r3.2
    have hs2:=h.below p3
    have hi:(E.set i (.at b)).ρ i= .at b:=by show(bif Nat.beq i i then _ else _)=_;rw[bD];rfl
    obtain⟨b',hb',rfl⟩:=hrep
    have hid:id0=0:=e3z λe=>by rw[q1 id0 e]at hb';cases hb'
    subst hid
    rw[r1]at hb';cases hb'
    refine⟨_,E.set i (.at b),rfl,?_,⟨b,hi,rfl⟩⟩
    refine hs2.fresh hf (λb' hb' j hj hrj=>?_) ?_
    ·cases hb'
     have:=h.at_lt hj hrj
     omega
    ·cases mt with
     |false=>cases hR
     |true=>exact⟨b,es,ck,hi,r2,⟨λhS=>by have:=h.S_lt b hS;omega,B.how W h.g b hb⟩,r4⟩
   ·cases hmp
  |false=>
  have hs2:=hs1.called p1 p2 p3
  obtain⟨hnun,hat⟩:=hrow.nw_at hR
  let E3:Env:={E1 with S:=E2.S}
  have hi:(E3.set i (E2.ρ 0)).ρ i=E2.ρ 0:=by show(bif Nat.beq i i then _ else _)=_;rw[bD];rfl
  refine⟨v,E3.set i (E2.ρ 0),rfl,?_,AV.nm_rep (E':=E3.set i (E2.ρ 0)) (i:=i) q1 rfl hi hrep⟩
  refine hs2.fresh hf (λb hb j hj hrj=>?_) ?_
  ·have h3:=hs1.at_lt hj hrj
   have h4:W.heap.size<=b:=(hat b hb).2
   omega
  ·exact SatR.nm (B:=eI E1.S W) hR q1 rfl hi (λb hb ho=>B.how W hs1.g b ho) hrow
 ·cases hv
 |ln r=>
 simp only[iZ]at hv
 split at hv
 ·rename_i g l' hg
  cases hall:(bO st l').all (b7x st)with
  |false=>rw[hall]at hv;cases hv
  |true=>
  rw[hall]at hv
  simp only[e0q]at hv
  cases hv
  rw[e1d]at hall
  obtain⟨fs,cs,rfl,h1,h2⟩:=kB hu hl hx hg
  let S1:Nat->Prop:=λb=>E.S b\/∃id∈bO st l',E.ρ id= .at b
  have hmap:∀b,(∃id∈bO st l',E.ρ id= .at b)->b<W.heap.size/\∃es c,W.heap[b]?=some (.map es c):=by
   rintro b ⟨id,hid,hb⟩
   have hm:=hall id hid
   unfold b7x at hm
   split at hm
   ·rename_i mt kt m hst
    obtain⟨b2,es,c,hb2,hh,_⟩:=h.hp id _ hst
    rw[hb]at hb2;cases hb2
    exact⟨(d9w.1 hh).1,es,c,hh⟩
   ·cases hm
  have hS1:∀b,S1 b->b<W.heap.size:=λb hb=>hb.elim (h.S_lt b) λhb=>(hmap b hb).1
  have hreps:gI S1 W (l'.map (dX bH st.hp)) (fs.toList++us++cs.toList):=
   eD h (λ_ hb=> .inl hb) l' _ hc.1.1 (λid hid b hb=> .inr ⟨id,hid,hb⟩) h1 h2
  have hcall:=hc.2.2 S1 W _ hS1 hreps
  refine⟨g,fs,cs,rfl,hc.2.1,?_⟩
  have e:(fs.toList++us++cs.toList).toArray=fs++us.toArray++cs:=by simp
  rw[e]at hcall
  refine hcall.mono ?_
  rintro en W' ⟨v,S',rfl,hrep,p1,p2,p3⟩
  let S2:Nat->Prop:=λb=>S' b/\(E.S b\/W.heap.size<=b)
  refine⟨v,{E with S:=S2},rfl,(h.called (S':=S2) (λb hb=>⟨p1 b (.inl hb),.inl hb⟩) (λb hb=>?_) p3).weak hw,?_⟩
  ·rcases hb.2 with h3|h3
   ·exact .inl h3
   ·rcases p2 b hb.1 with h4|h4
    ·have:=hS1 b h4;omega
    ·exact .inr h4
  ·refine(c1w (S:=S') (S':=S2) (λb hb=>?_) r hc.1.2.h).1 v hrep
   rcases p2 b hb with(h4|h4)|h4
   ·exact .inl ⟨hb,.inl h4⟩
   ·obtain⟨hlt,es,c,hh⟩:=hmap b h4
    exact .inr ⟨es,c,(p3.block b hlt).trans hh⟩
   ·exact .inl ⟨hb,.inr h4.1⟩
 ·cases hv
theorem cE {ro:Option Nat}{n:Nat}{next:Act->World->Prop}{Q:Exit->Act->World->Prop}{o:Oper}(hnc:∀c,o.op≠ .defer c){r:Next}{v:Value}{W':World}
  (hrun:(execOp a.eval o).run P W= .ok r W') (hr:r= .value v\/(r= .skip/\v=undef)) (hn:next (a.put o.dst v) W'):o.wpIn (Fr0 ro) n P a W next Q:=by
 refine⟨λ_ _=>trivial,?_⟩
 rw[e3x _ _ _ hnc,hrun]
 rcases hr with rfl|⟨rfl,rfl⟩
 ·exact hn
 ·exact hn
theorem a9e (hT:bQ P T)(h:Sat B Fr E st a W){i:Nat}(hf:Fr i){ro:Option Nat}{n:Nat}{next:Act->World->Prop}{Q:Exit->Act->World->Prop}(o:Oper){r:CR}{c:Prop}{x:AV}{st':St}
  (hv:nD P T i o.op o.type st r=some (c,x,st')) (hc:c)
  (hn:∀E' v W',Sat B (λj=>Fr j/\j≠i) E' st' a W'->aK E' W' x v->next (a.put o.dst v) W'):o.wpIn (Fr0 ro) n P a W next Q:=by
 have hev:=h.ev
 have hpure:∀{c x},aW T o.op st.ev=some (c,x)->c->(∀E' v W',Sat B (λj=>Fr j/\j≠i) E' st a W'->aK E' W' x v->next (a.put o.dst v) W')->(∀c,o.op≠ .defer c)->o.wpIn (Fr0 ro) n P a W next Q:=by
  intro c x hp hc hn hnd
  obtain⟨v,hr,hx⟩:=a8w (P:=P) (W:=W) (E:=E) hT hev o hp hc
  exact cE hnd hr (.inl rfl) (hn E v W (h.weak λ_ hj=>hj.1) hx)
 have hmade:cT P B Fr i st' a W a.eval o x->(∀c,o.op≠ .defer c)->o.wpIn (Fr0 ro) n P a W next Q:=by
  rintro⟨E',r,v,W',hr,h1,h2,h3⟩ hnd
  exact cE hnd hr h1 (hn E' v W' h2 h3)
 unfold nD at hv
 split at hv
 ·rename_i t ad ho
  split at hv
  ·rename_i ti ht
   simp only[e0u]at hv
   obtain⟨⟨c',x'⟩,hl,e⟩:=hv
   cases e
   obtain⟨v,hr,hx⟩:=uG hT h ht (hev ad) hl hc
   exact cE (by rw[ho];simp) (by simp only[execOp,ho,d9t,hr,d9q,d9u]) (.inl rfl) (hn E v W (h.weak λ_ hj=>hj.1) hx)
  ·cases hv
 ·rename_i t ho
  exact hmade (a1l hT h hf o ho hv) (by rw[ho];simp)
 ·rename_i t y ho
  exact hmade (b0j h hf hev o ho hv) (by rw[ho];simp)
 ·rename_i t len parts ho
  exact hmade (pI hT h hf hev o ho hv hc) (by rw[ho];simp)
 ·rename_i t l cp ho
  exact hmade (rR hT h hf hev o ho hv hc) (by rw[ho];simp)
 ·rename_i t ad y ho
  simp only[e0u]at hv
  obtain⟨⟨c',s'⟩,hl,e⟩:=hv
  cases e
  obtain⟨E',W',hr,hs⟩:=a3q (ρ:=a.eval) hT h (hev ad) (hev y) hl hc
  exact cE (by rw[ho];simp) (by simp only[execOp,ho,d9t,hr,d9q,d9u]) (.inr ⟨rfl,rfl⟩) (hn E' undef W' (hs.weak λ_ hj=>hj.1) trivial)
 ·rename_i ho
  exact hmade (b2z h hf hev (λ_=>rfl) o ho hv) (by rw[ho];simp)
 ·rename_i t y hi mx ho
  split at hv
  ·rename_i id k off m ey
   split at hv
   ·rename_i h1 m1 hh hm
    cases hi with
    |none=>
     exfalso
     have:h1=none:=by simpa[pP]using hh.symm
     subst this
     unfold lS at hv
     split at hv
     ·rename_i e;cases e
     ·cases hv
    |some hi=>
     obtain⟨E',v,hr,hs,hx⟩:=a0f hT h hev o ho hh hm hv hc
     exact cE (by rw[ho];simp) hr (.inl rfl) (hn E' v W (hs.weak λ_ hj=>hj.1) hx)
   ·cases hv
  ·simp only[e0u]at hv
   obtain⟨⟨c',s'⟩,hl,e⟩:=hv
   cases e
   exact hpure (by rw[ho];exact hl) hc hn (by rw[ho];simp)
 ·rename_i t y ho
  split at hv
  ·rename_i id k j q ey
   have hy:=hev y
   rw[ey]at hy
   obtain⟨v,hr,hx,rfl⟩:=tJ hT h hy hv hc
   exact cE (by rw[ho];simp) (by simp only[execOp,ho,e4m,d9t,hr,d9q,d9u]) (.inl rfl) (hn E v W (h.weak λ_ hj=>hj.1) hx)
  ·simp only[e0u]at hv
   obtain⟨⟨c',s'⟩,hl,e⟩:=hv
   cases e
   exact hpure (by rw[ho];exact hl) hc hn (by rw[ho];simp)
 ·rename_i t y hi ho
  split at hv
  ·rename_i id k j q ey
   split at hv
   ·rename_i hv' hhi
    have hy:=hev y
    rw[ey]at hy
    obtain⟨v,hr,hx,rfl⟩:=wZ hT h hev hy hhi hv hc
    exact cE (by rw[ho];simp) (by simp only[execOp,ho,e4m,e1y,d9t,hr,d9q,d9u]) (.inl rfl) (hn E v W (h.weak λ_ hj=>hj.1) hx)
   ·cases hv
  ·simp only[e0u]at hv
   obtain⟨⟨c',s'⟩,hl,e⟩:=hv
   cases e
   exact hpure (by rw[ho];exact hl) hc hn (by rw[ho];simp)
 ·rename_i t ho
  exact hmade (wL hT h hf o ho hv) (by rw[ho];simp)
 ·rename_i t m k v ho
  obtain⟨W',hr,hs,rfl⟩:=a0u hT h (hev m) (hev k) (hev v) hv
  exact cE (by rw[ho];simp) (by simp only[execOp,ho,d9t,hr,d9q,d9u]) (.inr ⟨rfl,rfl⟩) (hn E undef W' (hs.weak λ_ hj=>hj.1) trivial)
 ·rename_i t m k v ho
  obtain⟨W',hr,hs,rfl⟩:=a0u hT h (hev m) (hev k) (hev v) hv
  exact cE (by rw[ho];simp) (by simp only[execOp,ho,d9t,hr,d9q,d9u]) (.inr ⟨rfl,rfl⟩) (hn E undef W' (hs.weak λ_ hj=>hj.1) trivial)
 ·rename_i t m k co ho
  obtain⟨v,hr,hx,rfl⟩:=a8j hT h (hev m) (hev k) hv
  exact cE (by rw[ho];simp) (by simp only[execOp,ho,d9t,hr,d9q,d9u]) (.inl rfl) (hn E v W (h.weak λ_ hj=>hj.1) hx)
 ·rename_i t y ho
  exact hmade (tH hT h hf hev o ho hv) (by rw[ho];simp)
 ·rename_i y ho
  obtain⟨v,hr,hx,rfl⟩:=a2a (P:=P) h (hev y) hv
  exact cE (by rw[ho];simp) (by simp only[execOp,ho,d9t,hr,d9q,d9u]) (.inl rfl) (hn E v W (h.weak λ_ hj=>hj.1) hx)
 ·rename_i t m k ho
  exact hmade (a8o hT h hf hev o ho hv) (by rw[ho];simp)
 ·rename_i t m s v ho
  obtain⟨W',hr,hs,rfl⟩:=a8q (P:=P) (t:=t) h (hev m) (hev s) (hev v) hv
  exact cE (by rw[ho];simp) (by simp only[execOp,ho,d9t,hr,d9q,d9u]) (.inr ⟨rfl,rfl⟩) (hn E undef W' (hs.weak λ_ hj=>hj.1) trivial)
 ·rename_i cl ho
  obtain⟨callee,cargs,ctys⟩:=cl
  simp only at hv
  split at hv
  ·split at hv
   ·rename_i s y t u e1 e2
    obtain⟨rfl⟩:cargs= #[s,y]:=by rw[<-e2w];exact e1
    obtain⟨rfl⟩:ctys= #[t,u]:=by rw[<-e2w];exact e2
    cases hb:Nat.beq t u with
    |false=>rw[hb]at hv;cases hv
    |true=>
     rw[hb]at hv
     obtain rfl:=d9s hb
     exact hmade (xT hT h hf hev o ho hv hc) (by rw[ho];simp)
   ·cases hv
  ·split at hv
   ·rename_i s y t u e1 e2
    obtain⟨rfl⟩:cargs= #[s,y]:=by rw[<-e2w];exact e1
    obtain⟨rfl⟩:ctys= #[t,u]:=by rw[<-e2w];exact e2
    cases hb:Nat.beq t u with
    |false=>rw[hb]at hv;cases hv
    |true=>
     rw[hb]at hv
     obtain rfl:=d9s hb
     obtain⟨v,W',hr,hs,hx⟩:=a7s (ty:=o.type) hT h (hev s) (hev y) hv hc
     refine cE (by rw[ho];simp) ?_ (.inl rfl) (hn E v W' (hs.weak λ_ hj=>hj.1) (by assumption))
     simp only[execOp,ho,resolve,invoke,builtin,d9t,d9u,d9q,e3h,e0o,e3c,hr]
   ·cases hv
  ·split at hv
   ·rename_i y t e1 e2
    obtain⟨rfl⟩:cargs= #[y]:=by rw[<-e2w];exact e1
    obtain⟨rfl⟩:ctys= #[t]:=by rw[<-e2w];exact e2
    obtain⟨W',hr,hs,rfl⟩:=a1r (ρ:=a.eval) (ty:=o.type) hT h (hev y) hv hc
    refine cE (v:= .tuple #[]) (by rw[ho];simp) ?_ (.inl rfl) (hn E _ W' (hs.weak λ_ hj=>hj.1) trivial)
    simp only[execOp,ho,resolve,invoke,builtin,d9t,d9u,d9q,e3h,e0o,e3c,hr]
   ·cases hv
  ·split at hv
   ·rename_i m k t u e1 e2
    obtain⟨rfl⟩:cargs= #[m,k]:=by rw[<-e2w];exact e1
    obtain⟨rfl⟩:ctys= #[t,u]:=by rw[<-e2w];exact e2
    obtain⟨W',hr,hs,rfl⟩:=b0z (u:=u) (ty:=o.type) hT h (hev m) (hev k) hv
    refine cE (v:= .tuple #[]) (by rw[ho];simp) ?_ (.inl rfl) (hn E _ W' (hs.weak λ_ hj=>hj.1) trivial)
    simp only[execOp,ho,resolve,invoke,builtin,d9t,d9u,d9q,e3h,e0o,e3c,hr]
   ·cases hv
  ·rename_i f
   obtain⟨g,fs,cs,hu,hent,hcall⟩:=a7o h hf (hev f) (l:=cargs.toList.map st.ev) (us:=cargs.toList.map a.eval) (by simp) (λj hj=>by
    simp only[e0z,e1c]at hj
    simp only[d9r,e0j,e0s,e0y hj,e1y,e2v]
    exact hev _) hv hc
   refine⟨λ_ _=>trivial,?_⟩
   rw[e3x _ _ _ (by rw[ho];simp)]
   have hrun:(execOp a.eval o).run P W= .ok (.enter g (fs++(cargs.toList.map a.eval).toArray++cs)) W:=by
    simp only[execOp,ho,resolve,hu,Deferred.ofValue,invoke,d9t,d9u,d9q]
    have:cargs.map a.eval=(cargs.toList.map a.eval).toArray:=by rw[<-e4f,e6a]
    rw[this];exact hent _ _
   rw[hrun]
   refine And.intro (λhd=>by cases hd) ?_
   have hin:CallsIn (Fr0 ro) (n-1) P g (fs++(cargs.toList.map a.eval).toArray++cs) W _:=(e7m (n:=n-1)).2 hcall
   refine hin.mono ?_
   rintro e W' ⟨v,E',rfl,hs,hx⟩
   exact hn E' v W' hs hx
  ·simp only[e0u]at hv
   obtain⟨⟨c',s'⟩,hl,e⟩:=hv
   cases e
   exact hpure (by rw[ho];exact hl) hc hn (by rw[ho];simp)
 ·simp only[e0u]at hv
  obtain⟨⟨c',s'⟩,hl,e⟩:=hv
  cases e
  refine hpure hl hc hn ?_
  intro c e
  rw[e]at hl;cases hl
end
def lsH (π:Nat->Nat)(ms':List Res)(hp:Nat->Option Res)(id:Nat):Option Res:=
  match cB ((num 0 ms').map λp=>(π p.1,p.2.rn π)) id with
  |some r=>some r
  |none=>hp id
def lsS (π:Nat->Nat)(ms':List Res)(nx:Nat)(st:St):St:=⟨st.n,nx,st.tm,lsH π ms' st.hp,st.gh⟩
theorem nS {α:Type}:∀{l:List (Nat×α)} {j:Nat},cB l j=none->∀p∈l,p.1≠j
 |[],_,_,p,hp=>by cases hp
 |(i,x)::l,j,h,p,hp=>by
  unfold cB at h
  cases hb:Nat.beq i j with
  |true=>rw[hb]at h;cases h
  |false=>
   rw[hb]at h
   rcases e0b.1 hp with rfl|hp
   ·intro e
    simp only at e
    subst e
    rw[e3k]at hb;cases hb
   ·exact nS h p hp
section
variable {P:Program} {B:Base} {Fr:Nat->Prop} {E:Env} {st:St} {a:Act} {W:World}
theorem b8g (h:Sat B Fr E st a W){f:AV}{u:Value}(hu:aK E W f u){l0:List AV}{us:List Value}(hl:l0.length=us.length)(hx:∀j,j<l0.length->aK E W (l0.getD j (.d .top)) (us.getD j undef))
  {g:Nat} {l:List AV} (hg:gB f l0=some (g,l)) {m:Nat->Option Nat} {as:List AV} {ms:List Res} {K:Nat} {ι:Type} {ms':ι->List Res} {y:ι->AV} (he:a1h m 0 (xW l st) (mLS as ms st.gh)) (hal:as.length=l.length) (hm2:∀j,ms.length<=j->m j=none)
  (hC:FnL P g ms as K ms' y) {π:Nat->Nat} (hp1:∀j,j<ms.length->m j=some (π j)) (hp2:∀j,ms.length<=j->j<K->Fr (π j)) (hp3:∀j j',ms.length<=j->j<K->ms.length<=j'->j'<K->π j=π j'->j=j') (nx:Nat):
  ∃fs cs,u= .func (.func g) fs cs/\Ent P g/\Calls P g (fs++us.toArray++cs) W λe W'=>∃z v E',e= .returned v/\Sat B (λj=>Fr j/\∀q,ms.length<=q->q<K->j≠π q) E' (lsS π (ms' z) nx st) a W'/\aK E' W' ((y z).rn π) v:=by
 obtain⟨fs,cs,rfl,h1,h2⟩:=kB hu hl hx hg
 refine⟨fs,cs,rfl,hC.ent,?_⟩
 have hlend:=h.lend (us:=fs.toList++us++cs.toList) h1 h2 he hal hm2 λr hr=>hC.nw r hr
 have hcall:=hC.run (gN E m) W _ hlend
 have e:(fs.toList++us++cs.toList).toArray=fs++us.toArray++cs:=by simp
 rw[e]at hcall
 refine hcall.mono ?_
 rintro e W' ⟨z,v,E',rfl,hs⟩
 have hk:=hC.le
 have hnw1:=hC.nw
 have hnw2:∀r,r∈ms' z->r.nw=true:=hC.nw' z
 have hlen:=hC.len z
 refine⟨z,?_⟩
 clear hC hcall
 generalize ms' z=ms' at*
 generalize y z=y at*
 subst hlen
 have hp0:∀(xs:List AV) (rs:List Res) i,(mSt xs rs).hp i=rs[i]?:=λxs rs i=>nT rs i
 have hρ1:∀j,j<ms.length->(gN E m).ρ j=E.ρ (π j):=λj hj=>by simp[gN,Env.ren,hp1 j hj]
 have hlive:∀j,j<ms.length->st.hp (π j)≠none:=by
  intro j hj
  have:=iB.1 he.2.1 (j,ms[j]) (by have:=gF ms 0 j ms[j] (e0e hj);rwa[e0f]at this)
  simp only[hp1 j hj]at this
  intro hn
  rw[show(xW l st).hp (π j)=st.hp (π j)from rfl,hn]at this
  exact this
 have hlent:∀j,j<ms.length->(gN E m).ρ j≠ .un/\∀b,(gN E m).ρ j= .at b->¬E.S b/\B.ow b/\b<W.heap.size/\((∃c T,W.heap[b]?=some (.cells c T (0,0)))\/∃es c,W.heap[b]?=some (.map es c)):=by
  intro j hj
  have hr:ms[j]?=some ms[j]:=e0e hj
  have hsr:=hlend.hp j ms[j] ((hp0 as ms j).trans hr)
  have hn:=hsr.nw_ati (hnw1 _ (e1j hr))
  refine⟨hn.1,λb hb=>?_⟩
  obtain⟨q1,_,q3⟩:=hn.2 b hb
  refine⟨q1,?_,?_,q3⟩
  ·
   have:=iB.1 he.2.1 (j,ms[j]) (by have:=gF ms 0 j ms[j] hr;rwa[e0f]at this)
   simp only[hp1 j hj]at this
   cases h0:st.hp (π j)with
   |none=>exact absurd h0 (hlive j hj)
   |some r0=>
    rw[show(xW l st).hp (π j)=st.hp (π j)from rfl,h0]at this
    have h7:SatR B (E.ren m) W j ms[j]:=c1u.sat this (hp1 j hj) (h.hp _ _ h0)
    exact((h7.nw_ati (hnw1 _ (e1j hr))).2 b hb).2.1
  ·rw[hρ1 j hj]at hb
   exact h.at_lt (hlive j hj) hb
 have hE':∀j,j<ms.length->E'.ρ j=E.ρ (π j):=λj hj=>(hs.r0 j (hlent j hj).1).trans (hρ1 j hj)
 have hnew:∀q,ms.length<=q->q<ms'.length->E.ρ (π q)= .un:=λq h1 h2=>h.fr _ (hp2 q h1 h2)
 have how:∀b,(iD ms.length (gN E m) W).ow b->(∃j,j<ms.length/\E.ρ (π j)= .at b)\/W.heap.size<=b:=by
  rintro b (⟨j,hj,hb⟩|hb)
  ·exact .inl ⟨j,hj,(hρ1 j hj).symm.trans hb⟩
  ·exact .inr hb
 have howB:∀b,(iD ms.length (gN E m) W).ow b->B.ow b:=by
  rintro b (⟨j,hj,hb⟩|hb)
  ·exact((hlent j hj).2 b hb).2.1
  ·exact B.how W h.g b hb
 have hg':Stp (iD ms.length (gN E m) W).ow W W':=hs.g
 have hst:Stp B.ow W W':=⟨hg'.os,hg'.tape,hg'.output,hg'.size,λk hk hn=>hg'.block k hk λho=>hn (howB k ho),hg'.sh⟩
 have hsr':∀q,(hq:q<ms'.length)->SatR (iD ms.length (gN E m) W) E' W' q ms'[q]:=λq hq=>hs.hp q _ ((hp0 [y] ms' q).trans (e0e hq))
 have hnw':∀q,(hq:q<ms'.length)->ms'[q].nw=true:=λq hq=>hnw2 _ (e5s hq)
 have hnewat:∀q b,ms.length<=q->q<ms'.length->E'.ρ q= .at b->W.heap.size<=b:=by
  intro q b h1 h2 hb
  have:=(((hsr' q h2).nw_ati (hnw' q h2)).2 b hb).2.1
  rcases this with⟨j,hj,hjb⟩|hge
  ·exfalso
   have hjb':E'.ρ j= .at b:=(hE' j hj).trans ((hρ1 j hj).symm.trans hjb)
   have hne:∀i,i<ms'.length->(mSt [y] ms').hp i≠none:=λi hi=>by rw[hp0,e0e hi];simp
   have:=hs.dist q j b (hne q h2) (hne j (by omega)) hb hjb'
   omega
  ·exact hge
 have hE'un:∀q,q<ms'.length->E'.ρ q≠ .un:=λq hq=>((hsr' q hq).nw_ati (hnw' q hq)).1
 let L:=(num 0 ms').map λp:Nat×Res=>(π p.1,p.1)
 let E2:Env:=⟨E'.S,λid=>match cB L id with|some q=>E'.ρ q|none=>E.ρ id,E.D⟩
 have hL:∀id q,cB L id=some q->q<ms'.length/\id=π q:=by
  intro id q hq
  obtain⟨p,hp,e1⟩:=e0l.1 (gO _ _ _ hq)
  obtain⟨_,hlt,_⟩:=a3b ms' 0 p hp
  simp only[e0i]at e1
  obtain⟨e1,rfl⟩:=e1
  exact⟨by omega,e1.symm⟩
 have hLn:∀id,cB L id=none->∀q,q<ms'.length->id≠π q:=by
  intro id hn q hq e1
  have:=gF ms' 0 q ms'[q] (e0e hq)
  rw[e0f]at this
  exact nS hn (π q,q) (e0l.2 ⟨_,this,rfl⟩) e1.symm
 have hπ:∀q,q<ms'.length->E2.ρ (π q)=E'.ρ q:=by
  intro q hq
  show(match cB L (π q)with|some q=>E'.ρ q|none=>E.ρ (π q))=_
  cases hc:cB L (π q)with
  |none=>exact absurd rfl (hLn _ hc q hq)
  |some q'=>
   obtain⟨hq',e1⟩:=hL _ _ hc
   simp only
   by_cases c1:q<ms.length<;>by_cases c2:q'<ms.length
   ·rw[hE' q c1,hE' q' c2,e1]
   ·exfalso
    have:=hnew q' (by omega) hq'
    rw[<-e1,<-hE' q c1]at this
    exact hE'un q hq this
   ·exfalso
    have:=hnew q (by omega) hq
    rw[e1,<-hE' q' c2]at this
    exact hE'un q' hq' this
   ·rw[hp3 q q' (by omega) hq (by omega) hq' e1]
 have hne:∀id,E.ρ id≠ .un->E2.ρ id=E.ρ id:=by
  intro id hid
  show(match cB L id with|some q=>E'.ρ q|none=>E.ρ id)=_
  cases hc:cB L id with
  |none=>rfl
  |some q=>
   obtain⟨hq,rfl⟩:=hL _ _ hc
   simp only
   by_cases c1:q<ms.length
   ·exact hE' q c1
   ·exact absurd (hnew q (by omega) hq) hid
 have hsup:∀b,E'.S b->E.S b\/((∃j,j<ms.length/\E.ρ (π j)= .at b)\/W.heap.size<=b)/\b<W'.heap.size:=λb hb=>(hs.sup b hb).imp id λx=>⟨how b x.1,x.2⟩
 have hnS:∀b,b<W.heap.size->¬E.S b->(∀j,j<ms.length->E.ρ (π j)≠ .at b)->¬E'.S b:=by
  intro b hb h1 h2 h3
  rcases hsup b h3 with h4|⟨⟨j,hj,h4⟩|h4,_⟩
  ·exact h1 h4
  ·exact h2 j hj h4
  ·omega
 have hkeep:∀b,b<W.heap.size->(∀j,j<ms.length->E.ρ (π j)≠ .at b)->W'.heap[b]?=W.heap[b]?:=by
  intro b hb h2
  refine hg'.block b hb λho=>?_
  rcases how b ho with⟨j,hj,h4⟩|h4
  ·exact h2 j hj h4
  ·omega
 have hlentS:∀b,E.S b->∀j,j<ms.length->E.ρ (π j)≠ .at b:=λb hb j hj hjb=>((hlent j hj).2 b ((hρ1 j hj).trans hjb)).1 hb
 have hev:Ev E W E2 W':=⟨hs.sub,λb hb=>hkeep b (h.S_lt b hb) (hlentS b hb),λid hid=>hne id hid,hg'.sh⟩
 have hst2:∀id r,lsH π ms' st.hp id=some r->(∃q,∃hq:q<ms'.length,id=π q/\r=ms'[q].rn π)\/(st.hp id=some r/\∀q,q<ms'.length->id≠π q):=by
  intro id r hr
  unfold lsH at hr
  split at hr
  ·rename_i r' hr'
   cases hr
   obtain⟨p,hp,e1⟩:=e0l.1 (gO _ _ _ hr')
   obtain⟨_,hlt,hgt⟩:=a3b ms' 0 p hp
   simp only[e0i]at e1
   obtain⟨rfl,rfl⟩:=e1
   have hlt':p.1<ms'.length:=by omega
   rw[e7k,e0e hlt']at hgt
   exact .inl ⟨p.1,hlt',rfl,by rw[e4p hgt]⟩
  ·rename_i hn
   refine .inr ⟨hr,λq hq e1=>?_⟩
   have:=gF ms' 0 q ms'[q] (e0e hq)
   rw[e0f]at this
   exact nS hn (π q,ms'[q].rn π) (e0l.2 ⟨_,this,rfl⟩) e1.symm
 have hlv:∀id,lsH π ms' st.hp id≠none->(∃q,q<ms'.length/\id=π q)\/(st.hp id≠none/\∀q,q<ms'.length->id≠π q):=by
  intro id hn
  cases hc:lsH π ms' st.hp id with
  |none=>exact absurd hc hn
  |some r=>
   rcases hst2 id r hc with⟨q,hq,e1,_⟩|⟨h1,h2⟩
   ·exact .inl ⟨q,hq,e1⟩
   ·exact .inr ⟨by rw[h1];simp,h2⟩
 have hold:∀id b,st.hp id≠none->(∀q,q<ms'.length->id≠π q)->E.ρ id= .at b->b<W.heap.size/\∀j,j<ms.length->E.ρ (π j)≠ .at b:=
  λid b h1 h2 hb=>⟨h.at_lt h1 hb,λj hj hjb=>h2 j (by omega) (h.dist id (π j) b h1 (hlive j hj) hb hjb)⟩
 have hold2:∀id,(∀q,q<ms'.length->id≠π q)->E2.ρ id=E.ρ id:=by
  intro id hid
  show(match cB L id with|some q=>E'.ρ q|none=>E.ρ id)=_
  cases hc:cB L id with
  |none=>rfl
  |some q=>exact absurd (hL _ _ hc).2 (hid q (hL _ _ hc).1)
 have hdist':∀q q' b,q<ms'.length->q'<ms'.length->E'.ρ q= .at b->E'.ρ q'= .at b->q=q':=λq q' b hq hq' h1 h2=>
  hs.dist q q' b (by rw[hp0,e0e hq];simp) (by rw[hp0,e0e hq'];simp) h1 h2
 have hmix:∀q id b,q<ms'.length->st.hp id≠none->(∀q,q<ms'.length->id≠π q)->E'.ρ q= .at b->E.ρ id= .at b->False:=by
  intro q id b hq h1 h2 h3 h4
  obtain⟨h5,h6⟩:=hold id b h1 h2 h4
  by_cases c:q<ms.length
  ·exact h6 q c ((hE' q c).symm.trans h3)
  ·have:=hnewat q b (by omega) hq h3
   omega
 refine⟨v,E2,rfl,⟨h.size,λi hi=>(h.tm i hi).ev hev,λid r hr=>?_,λi j b hi hj h4 h5=>?_,λid hid=>?_,λb hb=>hs.sub b (h.sub b hb),λb hb=>?_,λb hb=>⟨(h.s0 b hb).1,e1g (h.s0 b hb).2 hg'.size⟩,h.df,h.dn,λD hD=>?_,B.hG W W' h.g hst,λid hid=>?_⟩,?_⟩
 ·rcases hst2 id r hr with⟨q,hq,rfl,rfl⟩|⟨h1,h2⟩
  ·exact(hsr' q hq).rn (E':=E2) (hnw' q hq) (λj hj=>hs.fr j hj) rfl hπ hq λb _ ho=>howB b ho
  ·exact(h.hp id r h1).ev hev (λb hb=>hkeep b (hold id b (by rw[h1];simp) h2 hb).1 (hold id b (by rw[h1];simp) h2 hb).2) λb hb hl hn=>hnS b hl hn (hold id b (by rw[h1];simp) h2 hb).2
 ·rcases hlv i hi with⟨q,hq,rfl⟩|⟨h1,h2⟩<;>rcases hlv j hj with⟨q',hq',rfl⟩|⟨h1',h2'⟩
  ·rw[hπ q hq]at h4;rw[hπ q' hq']at h5
   rw[hdist' q q' b hq hq' h4 h5]
  ·rw[hπ q hq]at h4;rw[hold2 j h2']at h5
   exact(hmix q j b hq h1' h2' h4 h5).elim
  ·rw[hold2 i h2]at h4;rw[hπ q' hq']at h5
   exact(hmix q' i b hq' h1 h2 h5 h4).elim
  ·rw[hold2 i h2]at h4;rw[hold2 j h2']at h5
   exact h.dist i j b h1 h1' h4 h5
 ·have hun:=h.fr id hid.1
  show(match cB L id with|some q=>E'.ρ q|none=>E.ρ id)=_
  cases hc:cB L id with
  |none=>exact hun
  |some q=>
   obtain⟨hq,rfl⟩:=hL _ _ hc
   exfalso
   by_cases c:q<ms.length
   ·rw[<-hE' q c]at hun;exact hE'un q hq hun
   ·exact hid.2 q (by omega) hq rfl
 ·rcases hs.sup b hb with h1|⟨h1,h2⟩
  ·exact(h.sup b h1).imp id λx=>⟨x.1,e1g x.2 hg'.size⟩
  ·exact .inr ⟨howB b h1,h2⟩
 ·obtain⟨d1,d2,d3⟩:=h.dd D hD
  have hlt:=(d9w.1 d3).1
  have hno:∀j,j<ms.length->E.ρ (π j)≠ .at D:=by
   intro j hj hjb
   rcases((hlent j hj).2 D ((hρ1 j hj).trans hjb)).2.2.2 with⟨c,T,hh⟩|⟨es,c,hh⟩<;>(rw[hh]at d3;cases d3)
  exact⟨d1,hnS D hlt d2 hno,(hkeep D hlt hno).trans d3⟩
 ·have:=h.r0 id hid
  exact(hne id (by rw[this];exact hid)).trans this
 ·have h0:=hs.tm 0 (Nat.zero_lt_one)
  exact AV.rn_rep (E':=E2) (λj hj=>hs.fr j hj) rfl hπ h0
end
structure Ob (p rest:Prop):Prop where
  c:p
  r:p->rest
structure Sp (b:Bool)(X Y:Prop):Prop where
  t:b=true->X
  f:b=false->Y
structure Cl (f:CR->Prop):Prop where
  ex:∃r,f r
def b1v (u:Value)(K:Value->Prop):Prop:=
  match u with
  | .int k n=>match k with
    | .i64=>K (.int .i64 n)
    |k=>K (.int k n)
  | .bool b=>match b with
    |b=>K (.bool b)
  |u=>K u
def b1r (y:DV)(K:DV->Prop):Prop:=
  match y with
  | .v u=>b1v u λu=>K (.v u)
  | .top=>K .top
  | .ag n f=>K (.ag n f)
  | .tp n f=>K (.tp n f)
  | .sl t k n f=>K (.sl t k n f)
  | .pt x o=>K (.pt x o)
  | .fn g n m f c=>K (.fn g n m f c)
  | .mp kt m=>K (.mp kt m)
def cL (n:Nat)(K:Nat->Prop):Prop:=Nat.rec (motive:=λ_=>Prop) (K 0) (λk _=>K (k+1)) n
theorem bC (n:Nat)(K:Nat->Prop):cL n K↔K n:=by cases n<;>exact e6i
def lB (l:List (Nat×Nat)):List (Nat×Nat)->(List (Nat×Nat)->Prop)->Prop:=
  List.rec (motive:=λ_=>List (Nat×Nat)->(List (Nat×Nat)->Prop)->Prop) (λacc K=>K acc)
    (λp _ ih acc K=>cL p.1 λa=>match cB acc a with
      |some _=>ih acc K
      |none=>cL p.2 λb=>ih (acc++[(a,b)]) K) l
theorem cD {j:Nat}{x:Nat}{K:List (Nat×Nat)->Prop}:∀(l acc:List (Nat×Nat)),lB l acc K->∃r,K r/\∀j x,cB acc j=some x->cB r j=some x
 |[],acc,h=>⟨acc,h,λ_ _ h=>h⟩
 |(a,b)::l,acc,h=>by
  have h:cL a λa=>match cB acc a with
   |some _=>lB l acc K
   |none=>cL b λb=>lB l (acc++[(a,b)]) K:=h
  rw[bC]at h
  revert h
  cases hl:cB acc a with
  |some y=>exactλh=>cD (j:=j) (x:=x) l acc h
  |none=>
   intro h
   obtain⟨r,h1,h2⟩:=cD (j:=j) (x:=x) l _ ((bC b _).1 h)
   exact⟨r,h1,λj x hj=>h2 j x (yV hj)⟩
def a4p (nx:Nat)(l:List (Nat×Nat))(j:Nat):Option Nat:=bif Nat.blt j nx then cB l j else none
theorem Edge.fast {np:Nat}{st:St}{s:LS}(h:lB (c9i np++s.tm.flatMap λp=>a3e (st.tm p.1) p.2) (c9i np) λm=>lB (s.hp.flatMap (b9b st m)) m λm=>lB (s.hp.flatMap (b9b st m)) m λm=>lB (s.hp.map λp=>(p.1,p.1)) m λm=>a1h (a4p s.nx m) np st s):Edge np st s:=by
 obtain⟨m1,h1,k1⟩:=cD (j:=0) (x:=0) _ _ h
 obtain⟨m2,h2,k2⟩:=cD (j:=0) (x:=0) _ _ h1
 obtain⟨m3,h3,k3⟩:=cD (j:=0) (x:=0) _ _ h2
 obtain⟨m4,h4,k4⟩:=cD (j:=0) (x:=0) _ _ h3
 refine⟨a4p s.nx m4,λj hj=>?_,λj hj=>?_,h4⟩
 ·unfold a4p
  rw[aG.2 (e1g hj (e1n h4.2.2.2.1))]
  exact k4 _ _ (k3 _ _ (k2 _ _ (k1 _ _ (zO hj))))
 ·unfold a4p
  have:Nat.blt j s.nx=false:=by
   cases hb:Nat.blt j s.nx with
   |false=>rfl
   |true=>have:=aG.1 hb;omega
  rw[this];rfl
abbrev _root_.e2d:=@Edge.fast
def a2i (l:List Nat):(List Nat->Prop)->Prop:=
  List.rec (motive:=λ_=>(List Nat->Prop)->Prop) (λK=>K []) (λx _ ih K=>cL x λx=>ih λl=>K (x::l)) l
theorem rD:∀(l:List Nat) (K:List Nat->Prop),a2i l K↔K l
 |[],_=>e6i
 |x::l,K=>by
  show cL x (λx=>a2i l λl=>K (x::l))↔_
  rw[bC]
  exact rD l _
def a7y (x:AV)(K:AV->Prop):Prop:=
  match x with
  | .d y=>b1r y λy=>K (.d y)
  | .ref i o=>cL i λi=>K (.ref i o)
  | .el i k j o=>cL i λi=>K (.el i k j o)
  | .ms i k o n=>cL i λi=>K (.ms i k o n)
  | .ag n f=>K (.ag n f)
  | .fn g n m f c=>K (.fn g n m f c)
  | .mp id=>cL id λid=>K (.mp id)
  | .tp n f=>K (.tp n f)
  | .sub id k i=>cL id λid=>K (.sub id k i)
  | .stp id=>cL id λid=>K (.stp id)
theorem a8b (u:Value)(K:Value->Prop):b1v u K↔K u:=by
 unfold b1v;split
 ·split<;>exact e6i
 ·exact e6i
 ·exact e6i
theorem a7z (y:DV)(K:DV->Prop):b1r y K↔K y:=by
 unfold b1r;split<;>first|exact a8b _ _|exact e6i
theorem rE (x:AV)(K:AV->Prop):a7y x K↔K x:=by
 cases x<;>first|exact a7z _ (λy=>K (.d y))|exact e6i|exact bC _ (λi=>K (.ref i _))|exact bC _ (λi=>K (.el i _ _ _))|exact bC _ (λi=>K (.ms i _ _ _))|exact bC _ (λi=>K (.mp i))|exact bC _ (λi=>K (.sub i _ _))|exact bC _ (λi=>K (.stp i))
def cJ (s:St)(K:St->Prop):Prop:=St.rec (motive:=λ_=>Prop) (λn nx tm hp gh=>cL n λn=>cL nx λnx=>K ⟨n,nx,tm,hp,gh⟩) s
theorem aR (s:St)(K:St->Prop):cJ s K↔K s:=by
 obtain⟨n,nx,tm,hp,gh⟩:=s
 cases n<;>cases nx<;>exact e6i
def isB (g:Bool)(x:AV):Prop:=g=true->∃b,x= .d (.v (.bool b))
def alt (g:Bool)(x:AV)(K:AV->Prop):Prop:=
  bif g then(match x with
    | .d (.v (.bool b))=>Sp b (K (.d (.v (.bool true)))) (K (.d (.v (.bool false))))
    |_=>False)
  else a7y x K
theorem vF (g:Bool)(x:AV)(K:AV->Prop):alt g x K↔isB g x/\K x:=by
 unfold alt
 cases g with
 |false=>simp[rE,isB]
 |true=>
  simp only[e0q]
  constructor
  ·intro h
   split at h
   ·rename_i b
    refine⟨λ_=>⟨b,rfl⟩,?_⟩
    cases b with
    |true=>exact h.t rfl
    |false=>exact h.f rfl
   ·exact h.elim
  ·rintro⟨h1,h2⟩
   obtain⟨b,rfl⟩:=h1 rfl
   cases b with
   |true=>exact⟨λ_=>h2,nofun⟩
   |false=>exact⟨nofun,λ_=>h2⟩
def a5b:Op->Bool
  | .call {callee:= .value _,..}=>true
  |_=>false
def yL (ol:List Oper)(i:Nat):Bool:=ol.any λo=>match o.guard with
  |some (j,_)=>Nat.beq j i
  |none=>false
def gG (ol:List Oper)(o:Oper)(st:St):Option Bool:=
  match o.guard with
  |none=>some true
  |some (j,w)=>match ol[j]? with
    |some oj=>match oj.dst with
      |some d=>bif Nat.blt d st.n then(match st.tm d with
        | .d (.v (.bool b))=>some (match b with
          |true=>w
          |false=> !w)
        | .d (.v (.tuple _))=>some false
        |_=>none)else none
      |none=>none
    |none=>none
structure Tr where
  i:Nat
  o:Oper
  rd:List Nat
  wr:List Nat
structure Chk where
  fp:Oper->Nat->St->CR->List Nat×List Nat
  ok:Nat->Oper->List Nat->List Nat->List Tr->Bool
def fin (x:Option (Prop×AV×St))(K:Prop->AV->St->Prop):Prop:=
  match x with
  |none=>False
  |some (c,x,s)=>K c x s
def isT:Op->Bool
  | .move _| .assign _| .pick ..| .nilCheck _| .fieldAddr ..| .makeFunc ..| .alloc _| .box ..| .makeMap ..| .mapUpdate ..| .insert ..| .lookup ..| .range ..| .entry ..=>true
  |_=>false
structure Yp where
  l:Nat
  N:Nat
  Y:Nat->List DV
structure Yl (p X Y:Prop):Prop where
  c:p
  t:X
  f:Y
def a4a (op:Op)(st:St):Option (Value×List AV):=
  match op with
  | .call {callee:= .value f,args,..}=>match st.ev f with
    | .d (.v u)=>some (u,args.toList.map st.ev)
    |_=>none
  |_=>none
def xV (op:Op)(st:St):Option (Nat×List AV):=
  match op with
  | .call {callee:= .value f,args,..}=>gB (st.ev f) (args.toList.map st.ev)
  |_=>none
def c4c:List Nat->Nat->Nat
  |[],_=>0
  |x::l,j=>match j with
    |0=>x
    |j+1=>c4c l j
def oQ (m:Nat->Option Nat)(i nx k:Nat):Nat->Nat->List Nat
  |_,0=>[]
  |j,c+1=>(match Nat.blt j k with
    |true=>(match m j with|some q=>q|none=>0)
    |false=>(match Nat.beq j k with
      |true=>i
      |false=>nx+(j-k-1)))::oQ m i nx k (j+1) c
def b2x (op:Op)(st:St):Option (Nat×KT×(List Int->Option Int)×List (List Int)):=
  match op with
  | .next x false=>match st.ev x with
    | .ref id 0=>match st.hp id with
      |some (.it true kt f seen _)=>some (id,kt,f,seen)
      |_=>none
    |_=>none
  |_=>none
def d1i:Nat->(List Int->Prop)->Prop
  |0,p=>p []
  |n+1,p=>∀a,d1i n λl=>p (a::l)
theorem a4d:∀{n:Nat} {p:List Int->Prop},d1i n p↔∀k,k.length=n->p k
 |0,p=>⟨λh k hk=>by rw[e3e]at hk;subst hk;exact h,λh=>h [] rfl⟩
 |n+1,p=>by
  simp only[d1i,a4d (n:=n)]
  constructor
  ·intro h k hk
   cases k with
   |nil=>cases hk
   |cons a l=>exact h a l (by simpa using hk)
  ·intro h a l hl
   exact h (a::l) (by simp[hl])
structure Nx (n:Nat)(f:List Int->Option Int)(seen:List (List Int))(X:List Int->Int->Prop)(Y:Prop):Prop where
  s:d1i n λk=>∀x,f k=some x->k∉seen->X k x
  e:(∀k x,f k=some x->k∈seen)->Y
def nxD (kt:KT)(k:List Int)(x:Int):DV:= .tp 3 λj=>match j with
  |0=> .v (.bool true)
  |1=>c8c kt k
  |_=>c5p kt x
def nxE:DV:= .tp 1 λ_=> .v (.bool false)
def nxS (st:St)(id:Nat)(kt:KT)(f:List Int->Option Int)(seen:List (List Int))(k:List Int)(x:Int):St:=st.set id (some (.it true kt f (k::seen) (some (k,x))))
def c3y (T:Nat->Option TI)(op:Op)(st:St):Option (Nat×Bool):=
  match op with
  | .binOp op t x (.const (.slice none 0 0)) _=>match st.ev x with
    | .d (.sl _ _ n _)=>match T t with
      |some {d:= .slice _,..}=>match op with
        | .eql=>some (n,true)
        | .neq=>some (n,false)
        |_=>none
      |_=>none
    |_=>none
  |_=>none
structure Uk (b:Bool)(p:Prop)(X:Bool->Prop):Prop where
  t:p->X b
  f:X (!b)
def apO (T:Nat->Option TI)(op:Op)(st:St):Option (Nat×Nat×Nat×Nat×Nat×(Nat->DV)×Prop×Nat×(Nat->DV)):=
  match op with
  | .call c=>match c.callee with
    | .builtin .append=>match c.args.toList,c.argTypes.toList with
      |[s,x],[t,u]=>match st.ev s with
        | .ms id k off n=>match Nat.beq off 0 with
          |true=>none
          |false=>match st.hp id with
            |some (.row true U k' n' f)=>match T t with
              |some ti=>match ti.d with
                | .slice e=>match T e with
                  |some te=>match xP st te.size (st.ev x)with
                    |some (cx,m,g)=>match Nat.beq t u&&(Nat.ble te.bytes 1048576&&Nat.blt 0 te.size)&&(Nat.beq k te.size&&Nat.beq k' te.size&&Nat.beq U e)with
                      |true=>some (id,e,te.size,off,n,f,cx/\n'=off+n/\n+m<=1048576,m,g)
                      |false=>none
                    |none=>none
                  |none=>none
                |_=>none
              |none=>none
            |_=>none
        |_=>none
      |_,_=>none
    |_=>none
  |_=>none
def apS (st:St)(i id e k o' n m:Nat)(h:Nat->DV):St:=(st.set id none).set i (some (.row true e k (o'+(n+m)) h))
def apW (off n:Nat)(f g:Nat->DV)(o':Nat)(h:Nat->DV):Prop:=(o'=0/\h=apd n (λj=>f (off+j)) g)\/(o'=off/\h=apd (off+n) f g)
theorem b6k {T:Nat->Option TI}{op:Op}{st:St}{y}(h:apO T op st=some y):∀c,op≠ .defer c:=by
 rintro c rfl
 simp[apO]at h
theorem mZ {P:Program}(w:World)(t ty e:TypeId)(i:TypeInfo)(ht:P.underlying t=some (.slice e))(hi:P.info? e=some i)
  (g off sLen sCap:Nat) (cur:Array Value) (hg:w.heap[g]?=some (.cells cur e (0,0)))
  (a:Addr) (m c:Nat) (dJ:List Value) (hl:dJ.length=m*i.size) (hnews:∀j u,dJ[j]?=some u->w.cell? (a.add j)=some u) (h1:∀u∈dJ,u.oneCell'=true)
  (hroom:sLen+m<=sCap) (hfit:off+sLen*i.size+dJ.length<=cur.size):
  (Builtin.append_ #[t,t] ty #[.slice (some ⟨g,off,none⟩) sLen sCap,.slice (some a) m c]).run P w=
    .ok (.slice (some ⟨g,off,none⟩) (sLen+m) sCap) (w.setRow g (bJ cur (off+sLen*i.size) dJ)):=by
 have hf:=e7h (P:=P) w i.size m a m c dJ hl hnews
 have hst:=e5h P g (off+sLen*i.size) e dJ 0 cur w hg (by simpa using hfit) h1
 simp only[e2j]at hst
 simp[Builtin.append_,e0k ht,sizeOf,typeInfo,hi,Builtin.lenOf,hroom,hf,Addr.add_lit,hst,bJ]
section
variable {P:Program} {T:Nat->Option TI}
theorem a9y (hT:bQ P T){B:Base}{Fr:Nat->Prop}{E:Env}{st:St}{a:Act}{W:World}(h:Sat B Fr E st a W){i:Nat}(hf:Fr i){ρ:Operand->Value}(hev:∀x,aK E W (st.ev x) (ρ x))(o:Oper){id e k off n:Nat}{f:Nat->DV}{c:Prop}{m:Nat}{g:Nat->DV}
  (hv:apO T o.op st=some (id,e,k,off,n,f,c,m,g)) (hc:c):∃o' hh,apW off n f g o' hh/\cT P B Fr i (apS st i id e k o' n m hh) a W ρ o (.ms i k o' (n+m)):=by
 unfold apO at hv
 split at hv
 ·rename_i cl ho
  obtain⟨callee,cargs,ctys⟩:=cl
  simp only at hv
  split at hv
  ·split at hv
   ·rename_i s x t u e1 e2
    obtain⟨rfl⟩:cargs= #[s,x]:=by rw[<-e2w];exact e1
    obtain⟨rfl⟩:ctys= #[t,u]:=by rw[<-e2w];exact e2
    split at hv
    ·rename_i id' kk off' n' es
     split at hv
     ·cases hv
     ·split at hv
      ·rename_i U k' m' f' hid
       split at hv
       ·rename_i ti ht
        split at hv
        ·rename_i ee hd
         split at hv
         ·rename_i te he
          split at hv
          ·rename_i cx m2 g2 hsrc
           split at hv
           ·rename_i hb
            cases hv
            simp only[e0d]at hb
            obtain rfl:=d9s hb.1.1
            have hby:=e1n hb.1.2.1
            have hpos:=aG.1 hb.1.2.2
            obtain rfl:=d9s hb.2.1.1
            have hk':=d9s hb.2.1.2
            obtain rfl:=d9s hb.2.2
            subst hk'
            have hkt:=hT t ti ht
            have hke:=hT U te he
            obtain⟨hcx,rfl,hlim⟩:=hc
            obtain⟨ax,capx,hux,M,hM,hax⟩:=jR h hpos (hev x) hsrc hcx
            have hs0:=hev s
            rw[es]at hs0
            have hrow:=h.hp id _ hid
            have hshape:∃ao cap,ρ s= .slice ao n cap/\n<=cap/\(ao=none->n=0/\cap=0):=by
             rcases hs0 with⟨_,rfl,hr⟩|⟨b,p,cap,cc,U',_,hr,hn,_⟩
             ·exact⟨none,0,hr,e0g _,λ_=>⟨rfl,rfl⟩⟩
             ·exact⟨_,cap,hr,hn,by simp⟩
            have hun:E.ρ id≠ .un:=by
             rcases hrow with⟨h1,_⟩|⟨b,cc,h1,_⟩<;>rw[h1]<;>simp
            have eE:∀j,apd (off+n) f g j=if j<off+n then f j else g (j-(off+n)):=λj=>rfl
            by_cases hm:m=0
            ·subst hm
             refine⟨off,_,.inr ⟨rfl,rfl⟩,?_⟩
             obtain⟨ao,cap,hr,hn,_⟩:=hshape
             have hrun:=dP (P:=P) (W:=W) (ρ:=ρ) ho (v:= .slice ao n cap) (W':=W) (by rw[hr,hux];exact lG hkt hke hd hn)
             have hr':SatR B E W id (.row true U te.size (off+(n+0)) (apd (off+n) f g)):=by
              rcases hrow with⟨h1,h2⟩|⟨b,cc,h1,h2,h3,h4,h5⟩
              ·exact .inl ⟨h1,h2⟩
              ·refine .inr ⟨b,cc,h1,h2,h3,h4,λj hj=>?_⟩
               have h6:=h5 j hj
               rw[eE,e0c (show j<off+n from hj)];exact h6
             have hu:=h.upd (r:= .row true U te.size (off+(n+0)) (apd (off+n) f g)) (by rw[hid];simp) hr'
             have hm':=hu.move (id:=id) (i:=i) (cQ _ _ _) hf hun
             rw[sG]at hm'
             refine⟨_,_,_,_,hrun,.inl rfl,hm',?_⟩
             rw[<-hr]
             rcases hs0 with⟨h1,h2,h3⟩|⟨b,p,cap',cc,U',h1,h2,h3,h4,h5,h6⟩
             ·exact .inl ⟨by rw[aF];exact h1,h2,h3⟩
             ·exact .inr ⟨b,p,cap',cc,U',by rw[aF];exact h1,h2,h3,h4,h5,h6⟩
            ·have e0:(Res.row true U te.size (0+(n+m)) (apd n (λj=>f (off+j)) g))= .row true U te.size (n+m) λj=>if j<n then f (off+j)else g (j-n):=by
              rw[e0f]
              rfl
             have grow:∀{N:Nat->Value} {cap:Nat} {ao:Option Addr},Els E.S W te.size n (λj=>f (off+j)) N->ρ s= .slice ao n cap->cap<n+m->(ao=none->n=0/\cap=0)->(n≠0->∃b p,ao=some ⟨b,p,none⟩/\∀j,j<n*te.size->W.cell? ⟨b,p+j,none⟩=some (N j))->
               cT P B Fr i (apS st i id U te.size 0 n m (apd n (λj=>f (off+j)) g)) a W ρ o (.ms i te.size 0 (n+m)):=by
              intro N cap ao hN hr hg hnil hao
              unfold apS
              rw[e0]
              exact fS (h.drop id) hf hkt hke hd ho hby hpos hN hM hr hux (by omega) hg hlim hnil hao hax
             rcases hs0 with⟨h1,rfl,hr⟩|⟨b,p,cap,cc,U',hb',hr,hn,hcm,hh,hsz⟩
             ·exact⟨0,_,.inl ⟨rfl,rfl⟩,grow (N:=λ_=>undef) (λj hj=>absurd hj (e3i j)) hr (by omega) (λ_=>⟨rfl,rfl⟩) (λh=>absurd rfl h)⟩
             ·rcases hrow with⟨h1,_⟩|⟨b2,c2,hb2,hh2,hsz2,hown,hels⟩
              ·rw[hb']at h1;cases h1
              ·rw[hb']at hb2;cases hb2
               rw[hh]at hh2;cases hh2
               have hels':Els E.S W te.size (off+n) f λj=>cc.getD j undef:=hels
               have hsh:Els E.S W te.size n (λj=>f (off+j)) λj=>cc.getD (off*te.size+j) undef:=by
                intro j hj
                have:=hels' (off+j) (by omega)
                simp only[e1s,e3j]at this⊢
                exact this
               by_cases hroom:n+m<=cap
               ·have hp0:p=off*te.size/\(off+cap)*te.size<=cc.size:=by
                 rcases hsz with h1|⟨_,h2⟩
                 ·exact h1
                 ·omega
                obtain⟨rfl,hcsz⟩:=hp0
                refine⟨off,_,.inr ⟨rfl,rfl⟩,?_⟩
                obtain⟨bx,px,rfl,hcx'⟩:=hax hm
                obtain⟨inf,hi,hz,hisz,hbb⟩:=hke.info
                have hu:=hkt.u
                rw[hd]at hu
                have hadd:∀j,(⟨bx,px,none⟩:Addr).add j=⟨bx,px+j,none⟩:=λj=>by unfold Addr.add;split<;>simp_all
                have hfit:(off+n+m)*te.size<=cc.size:=e2h (e0v _ (by omega)) hcsz
                have hofn:off*te.size+n*te.size=(off+n)*te.size:=(e1s ..).symm
                have hrr:=mZ (P:=P) W t o.type U inf hu hi b (off*te.size) n cap cc hh ⟨bx,px,none⟩ m capx (dJ (m*te.size) M) (by rw[bK,hisz]) (λj v hj=>by
                 obtain⟨h1,rfl⟩:=mN _ _ hj
                 rw[hadd];exact hcx' j h1) (λv hv=>by
                 obtain⟨q,hq,rfl⟩:=e0l.1 hv
                 exact vP hpos hM (e1e.1 hq)) hroom (by rw[bK,hisz,hofn,<-e1s];exact hfit)
                rw[hisz,hofn]at hrr
                have hrun:=dP (P:=P) (W:=W) (ρ:=ρ) ho (v:= .slice (some ⟨b,off*te.size,none⟩) (n+m) cap) (W':=W.setRow b (bJ cc ((off+n)*te.size) (dJ (m*te.size) M))) (by rw[hr,hux];exact hrr)
                have hlen:(off+n)*te.size+(dJ (m*te.size) M).length<=cc.size:=by rw[bK,<-e1s];exact hfit
                have hset:=e6t W b cc (bJ cc ((off+n)*te.size) (dJ (m*te.size) M)) U (0,0) hh
                have hown':¬E.S b/\B.ow b:=hown
                have hev':Ev E W E (W.setRow b (bJ cc ((off+n)*te.size) (dJ (m*te.size) M))):=
                 ⟨λ_ h=>h,λq hq=>e5v W b q _ (λe=>hown'.1 (e▸hq)),λ_ _=>rfl,λq c3 T3 hq=>by
                  by_cases e:q=b
                  ·subst e;rw[hh]at hq;cases hq;exact⟨_,hset,aX hlen⟩
                  ·exact⟨c3,(e5v W b q _ e).trans hq,rfl⟩⟩
                have hsp:=kD (p:=off+n) hels' hM hfit
                rcases hsp with hsp|hsp
                ·have hr':SatR B E (W.setRow b (bJ cc ((off+n)*te.size) (dJ (m*te.size) M))) id (.row true U te.size (off+(n+m)) (apd (off+n) f g)):=by
                  refine .inr ⟨b,_,hb',hset,by rw[aX hlen,<-e3j];exact hfit,hown,λj hj=>?_⟩
                  have h2:=hsp j (by omega)
                  rw[eE]
                  by_cases h8:j<off+n
                  ·rw[e0c h8]
                   simp only[d9z (show¬(off+n<=j/\j<off+n+m) by omega)]at h2
                   exact⟨h2.1.ev hev',h2.2⟩
                  ·rw[d9z h8]
                   simp only[e0c (show off+n<=j/\j<off+n+m by omega)]at h2
                   exact⟨h2.1.ev hev',h2.2⟩
                 have hw:=h.write (r:= .row true U te.size (off+(n+m)) (apd (off+n) f g)) (by rw[hid];simp) hb' hh hown' (aX hlen) hr'
                 have hm':=hw.move (id:=id) (i:=i) (cQ _ _ _) hf (by rw[hb'];simp)
                 rw[sG]at hm'
                 exact⟨_,_,_,_,hrun,.inl rfl,hm',.inr ⟨b,off*te.size,cap,_,U,by rw[aF];exact hb',rfl,hroom,hcm,hset,.inl ⟨rfl,by rw[aX hlen];exact hcsz⟩⟩⟩
                ·omega
               ·refine⟨0,_,.inl ⟨rfl,rfl⟩,grow hsh hr (by omega) (by simp) λhn0=>⟨b,p,rfl,λj hj=>?_⟩⟩
                rcases hsz with⟨rfl,h2⟩|⟨h1,_⟩
                ·refine cK hh (e1g ?_ h2)
                 have:n*te.size<=cap*te.size:=e0v _ hn
                 rw[e1s];omega
                ·exact absurd h1 hn0
           ·cases hv
          ·cases hv
         ·cases hv
        ·cases hv
       ·cases hv
      ·cases hv
    ·cases hv
   ·cases hv
  ·cases hv
 ·cases hv
end
structure Ap (c:Prop)(off n:Nat)(f g:Nat->DV)(X:Nat->(Nat->DV)->Prop):Prop where
  ok:c
  z:c->X 0 (apd n (λj=>f (off+j)) g)
  o:c->X off (apd (off+n) f g)
def yst (st:St)(l:List AV)(g:Option Nat):St:=St.rec (motive:=λ_=>St) (λn nx tm hp _=>⟨n,nx,tm,hp,g⟩) (st.frzs (bO st l))
def obl (t:Bool)(c rest:Prop):Prop:=bif t then rest else Ob c rest
def vA:Nat->List Oper->List (Nat×Oper)
  |_,[]=>[]
  |i,o::l=>(i,o)::vA (i+1) l
theorem qH:∀(l:List Oper) (i:Nat),(vA i l).map (·.1)=List.range' i l.length
 |[],_=>rfl
 |o::l,i=>by simp[vA,qH l (i+1),List.range'_succ]
theorem kU:∀(l:List Oper) (i:Nat) (p:Nat×Oper),p∈vA i l->i<=p.1/\l[p.1-i]?=some p.2
 |[],_,p,h=>by cases h
 |o::l,i,p,h=>by
  rcases e0b.1 h with rfl|h
  ·simp
  ·obtain⟨h1,h2⟩:=kU l (i+1) p h
   refine⟨by omega,?_⟩
   have:p.1-i=(p.1-(i+1))+1:=by omega
   rw[this];simpa using h2
def a1w (o:Oper)(j:Nat):Bool:=o.after.toList.any λe=>Nat.beq e.on j&&Region.binds .any e
def c7j (ol:List Oper):Nat->Nat->Nat->Bool
  |0,_,_=>false
  |n+1,i,j=>match ol[i]? with
    |some o=>o.after.toList.any λe=>Region.binds .any e&&(Nat.beq e.on j||(Nat.blt j e.on&&c7j ol n e.on j))
    |none=>false
def qW (o:Oper)(i:Nat):Bool:=o.after.toList.all λe=> !Region.binds .any e||Nat.blt e.on i
def a2p (ol:List Oper)(i:Nat)(o:Oper):Bool:=Nat.beq (i+1) ol.length&&(qW o i&&(List.range i).all λk=>c7j ol 20 i k)
def lsK (P:Program)(i:Nat)(o:Oper)(g:Nat)(l as:List AV)(ms:List Res)(N:Nat){ι:Type}(ms':ι->List Res)(z:ι->AV)(st:St)(K:St->Prop):Prop:=
  lB ((num 0 as).flatMap λp=>a3e (a1c l p.1) p.2) [] λm=>lB ((num 0 ms).flatMap (b9b st m)) m λm=>lB ((num 0 ms).flatMap (b9b st m)) m λm=>
    a2i (oQ (a4p ms.length m) i st.next ms.length 0 N) λns=>
      Ob ((a1h (a4p ms.length m) 0 (xW l st) (mLS as ms st.gh)/\Nat.beq as.length l.length=true)/\FnL P g ms as N ms' z) (∀q,cJ ((lsS (c4c ns) (ms' q) (st.next+(N-ms.length-1)) st).put o.dst ((z q).rn (c4c ns))) K)
section
variable (P:Program) (T:Nat->Option TI) (y:Option Yp) (C:Option Chk) (ol:List Oper) (base:Nat)
def chk (i:Nat)(o:Oper)(st:St)(r:CR)(tr:List Tr)(K:List Tr->Prop):Prop:=
  match C with
  |none=>K tr
  |some C=>match C.ok i o (C.fp o (base+i) st r).1 (C.fp o (base+i) st r).2 tr with
    |true=>K (⟨i,o,(C.fp o (base+i) st r).1,(C.fp o (base+i) st r).2⟩::tr)
    |false=>False
def cP:List (Nat×Oper)->List Tr->St->(St->Prop)->Prop
  |[],_,st,K=>K st
  |(i,o)::l,tr,st,K=>match gG ol o st with
    |none=>False
    |some false=>chk C base i o st (.dv .top) tr λtr=>cJ (st.put o.dst (.d (.v undef))) λs=>cP l tr s K
    |some true=>match a5b o.op with
      |true=>match a4a o.op st with
        |some (u,args)=>(match C,y,st.gh with
          |none,some y,some k=>Yl (u= .func (.yield y.l) #[] #[]/\gQ st args/\k<y.N/\sR (args.map (dX bH st.hp)) (y.Y k))
              (cJ ((yst st args (some (k+1))).put o.dst (.d (.v (.bool true)))) λs=>cP l tr s K) (cJ ((yst st args none).put o.dst (.d (.v (.bool false)))) λs=>cP l tr s K)
          |_,_,_=>False)
        |none=>Cl λr=>match r with
          | .ls as ms N _ ms' z=>(match(match C with|none=>true|some _=>a2p ol i o),xV o.op st with
            |true,some (g,l')=>lsK P (base+i) o g l' as ms N ms' z st λs=>cP l tr s K
            |_,_=>False)
          |r=>fin (nD P T (base+i) o.op o.type st r) λc x s=>Ob c (chk C base i o st r tr λtr=>alt (yL ol i) x λz=>cJ (s.put o.dst z) λs=>cP l tr s K)
      |false=>match b2x o.op st with
        |some (id,kt,f,seen)=>(match C with
          |none=>Nx kt.n f seen (λk x=>cJ ((nxS st id kt f seen k x).put o.dst (.d (nxD kt k x))) λs=>cP l tr s K) (cJ (st.put o.dst (.d nxE)) λs=>cP l tr s K)
          |some _=>False)
        |none=>match c3y T o.op st with
          |some (n,b)=>(match C with
            |none=>Uk b (n=0) λb=>cJ (st.put o.dst (.d (.v (.bool b)))) λs=>cP l tr s K
            |some _=>False)
          |none=>match apO T o.op st with
            |some (id,e,k,off,n,f,c,m,g)=>(match C with
              |none=>Ap c off n f g λo' h=>cJ ((apS st (base+i) id e k o' n m h).put o.dst (.ms (base+i) k o' (n+m))) λs=>cP l tr s K
              |some _=>False)
            |none=>fin (nD P T (base+i) o.op o.type st (.dv .top)) λc x s=>obl (isT o.op) c (chk C base i o st (.dv .top) tr λtr=>alt (yL ol i) x λz=>cJ (s.put o.dst z) λs=>cP l tr s K)
inductive One (i:Nat) (o:Oper) (st:St):CR->St->Prop
  |skip:gG ol o st=some false->One i o st (.dv .top) (st.put o.dst (.d (.v undef)))
  |run (r:CR) (c:Prop) (x:AV) (s:St):gG ol o st=some true->nD P T (base+i) o.op o.type st r=some (c,x,s)->c->isB (yL ol i) x->One i o st r (s.put o.dst x)
inductive Run:List (Nat×Oper)->List Tr->St->St->Prop
  |nil (tr st):Run [] tr st st
  |cons (i o l tr st r s st' tr'):One P T ol base i o st r s->chk C base i o st r tr (· =tr')->Run l tr' s st'->Run ((i,o)::l) tr st st'
end
section
variable {P:Program} {T:Nat->Option TI} {y:Option Yp} {C:Option Chk} {ol:List Oper} {base:Nat}
theorem a1q (i:Nat)(o:Oper)(st:St)(r:CR)(tr:List Tr)(K:List Tr->Prop):chk C base i o st r tr K↔∃tr',chk C base i o st r tr (· =tr')/\K tr':=by
 unfold chk
 cases C with
 |none=>simp
 |some C=>
  simp only
  split<;>simp
theorem c1p {t:Nat}{m k v:AV}{st:St}{c:Prop}{x:AV}{s:St}(h:b9w T t m k v st=some (c,x,s)):c:=by
 unfold b9w at h
 split at h
 ·split at h
  ·revert h
   cases wB _ _ with
   |true=>intro h;cases h;trivial
   |false=>intro h;cases h
  ·cases h
 ·cases h
theorem yO {i:Nat}{op:Op}{ty:Nat}{st:St}{r:CR}{c:Prop}{x:AV}{s:St}(ht:isT op=true)(h:nD P T i op ty st r=some (c,x,s)):c:=by
 have hp:∀op':Op,isT op'=true->∀c x,aW T op' st.ev=some (c,x)->c:=by
  intro op' ht c x h
  cases op'<;>first|cases ht|skip
  case move=>cases h;trivial
  case assign=>cases h;trivial
  case pick=>
   simp only[aW]at h
   split at h
   ·split at h<;>cases h<;>trivial
   ·cases h
  case nilCheck=>
   simp only[aW]at h
   split at h<;>cases h<;>trivial
  case makeFunc f _ _=>
   cases f<;>simp only[aW]at h<;>first|(cases h;trivial)|cases h
  case fieldAddr=>
   simp only[aW]at h
   split at h
   ·split at h
    ·revert h
     cases Nat.beq _ 0 with
     |true=>intro h;cases h
     |false=>
      simp only[e2n]
      intro h
      split at h<;>cases h<;>trivial
    ·cases h
   ·cases h
  all_goals(simp[aW]at h)
 have hm:∀op':Op,isT op'=true->(aW T op' st.ev).map (λp=>(p.1,p.2,st))=some (c,x,s)->c:=by
  intro op' ht h
  simp only[e0u]at h
  obtain⟨⟨c',x'⟩,h1,h2⟩:=h
  cases h2
  exact hp op' ht _ _ h1
 unfold nD at h
 split at h
 ·cases ht
 ·unfold qK at h
  split at h
  ·revert h
   cases yN _ with
   |true=>
    simp only[e0q]
    intro h
    split at h
    ·split at h
     ·revert h
      cases List.all _ _ with
      |true=>intro h;cases h;trivial
      |false=>intro h;cases h
     ·cases h
    ·cases h
   |false=>intro h;cases h;trivial
  ·cases h
 ·unfold c2h at h
  split at h
  ·revert h
   cases yN _ with
   |true=>
    simp only[e0q]
    intro h
    split at h
    ·revert h
     cases Nat.beq _ _ with
     |true=>intro h;cases h;trivial
     |false=>intro h;cases h
    ·cases h
   |false=>intro h;cases h;trivial
  ·cases h
 ·cases ht
 ·cases ht
 ·cases ht
 ·unfold c3z at h
  split at h
  ·split at h
   ·split at h
    ·cases h;trivial
    ·cases h
   ·cases h
  ·cases h
 ·cases ht
 ·cases ht
 ·cases ht
 ·unfold iL at h
  split at h<;>cases h
  trivial
 ·exact c1p h
 ·exact c1p h
 ·unfold pM at h
  split at h
  ·split at h
   ·revert h
    cases wB _ _ with
    |true=>intro h;cases h;trivial
    |false=>intro h;cases h
   ·cases h
  ·cases h
 ·unfold fL at h
  split at h
  ·split at h
   ·cases h;trivial
   ·split at h
    ·cases h;trivial
    ·cases h
   ·cases h
  ·cases h
 ·unfold qX at h
  split at h
  ·split at h
   ·cases h;trivial
   ·cases h
  ·cases h
 ·cases ht
 ·cases ht
 ·cases ht
 ·exact hm _ ht h
theorem b3d {t:Bool}{c rest:Prop}(h:t=true->c):obl t c rest↔c/\rest:=by
 unfold obl
 cases t with
 |true=>simp[h rfl]
 |false=>
  simp only[e2n]
  exact⟨λh=>⟨h.c,h.r h.c⟩,λh=>⟨h.1,λ_=>h.2⟩⟩
def d6o (P:Program)(ol:List Oper)(base i:Nat)(o:Oper)(st:St)(K:St->Prop):Prop:=
  ∃(as:List AV) (ms:List Res) (N:Nat) (ι:Type) (ms':ι->List Res) (z:ι->AV) (g:Nat) (l':List AV),gG ol o st=some true/\a2p ol i o=true/\xV o.op st=some (g,l')/\lsK P (base+i) o g l' as ms N ms' z st K
theorem b5t {i i0:Nat}{o:Oper}{l:List (Nat×Oper)}(h:(i,o)::l=vA i0 (ol.drop i0)):i=i0/\l=vA (i0+1) (ol.drop (i0+1)):=by
 cases hd:ol.drop i0 with
 |nil=>rw[hd]at h;cases h
 |cons x xs=>
  rw[hd,vA]at h
  cases h
  refine⟨rfl,?_⟩
  have:ol.drop (i+1)=(ol.drop i).drop 1:=by rw[List.drop_drop]
  rw[this,hd];rfl
theorem uS {C0:Chk}:∀(l:List (Nat×Oper)) (i0:Nat) (tr:List Tr) (st:St) (K:St->Prop),l=vA i0 (ol.drop i0)->cP P T y (some C0) ol base l tr st K->
  (∃st',Run P T (some C0) ol base l tr st st'/\K st')\/∃p i o st',l=p++[(i,o)]/\Run P T (some C0) ol base p tr st st'/\d6o P ol base i o st' K
 |[],_,tr,st,K,_,h=> .inl ⟨st,.nil tr st,h⟩
 |(i,o)::l,i0,tr,st,K,hz,h=>by
  obtain⟨hi0,hl⟩:=b5t hz
  subst hi0
  have join:∀{r s tr'},One P T ol base i o st r s->chk (some C0) base i o st r tr (· =tr')->cP P T y (some C0) ol base l tr' s K->
    (∃st',Run P T (some C0) ol base ((i,o)::l) tr st st'/\K st')\/∃p i' o' st',(i,o)::l=p++[(i',o')]/\Run P T (some C0) ol base p tr st st'/\d6o P ol base i' o' st' K:=by
   intro r s tr' h1 h2 h3
   rcases uS l (i+1) tr' s K hl h3 with⟨st',h4,h5⟩|⟨p,i',o',st',e,h4,h5⟩
   ·exact .inl ⟨st',.cons _ _ _ _ _ _ _ _ tr' h1 h2 h4,h5⟩
   ·exact .inr ⟨(i,o)::p,i',o',st',by rw[e];rfl,.cons _ _ _ _ _ _ _ _ tr' h1 h2 h4,h5⟩
  unfold cP at h
  split at h
  ·exact h.elim
  ·rename_i hw
   obtain⟨tr',h1,h2⟩:=(a1q ..).1 h
   exact join (.skip hw) h1 ((aR ..).1 h2)
  ·rename_i hw
   split at h
   ·split at h
    ·exact h.elim
    ·obtain⟨r,h⟩:=h.ex
     split at h
     ·rename_i as ms N ι ms' z
      split at h
      ·rename_i g l' hlast hco
       have hlast:a2p ol i o=true:=hlast
       have hlen:i+1=ol.length:=by
        unfold a2p at hlast
        rw[e0d]at hlast
        exact d9s hlast.1
       have hl0:l=[]:=by rw[hl,hlen,List.drop_length];rfl
       subst hl0
       exact .inr ⟨[],i,o,st,rfl,.nil tr st,as,ms,N,ι,ms',z,g,l',hw,hlast,hco,h⟩
      ·exact h.elim
     unfold fin at h
     split at h
     ·exact h.elim
     ·rename_i c x s hs
      obtain⟨tr',h1,h2⟩:=(a1q ..).1 (h.r h.c)
      obtain⟨hb,h2⟩:=(vF ..).1 h2
      exact join (.run r c x s hw hs h.c hb) h1 ((aR ..).1 h2)
   ·split at h
    ·exact h.elim
    ·split at h
     ·exact h.elim
     ·split at h
      ·exact h.elim
      ·unfold fin at h
       split at h
       ·exact h.elim
       ·rename_i c x s hs
        obtain⟨hc,h⟩:=(b3d λht=>yO ht hs).1 h
        obtain⟨tr',h1,h2⟩:=(a1q ..).1 h
        obtain⟨hb,h2⟩:=(vF ..).1 h2
        exact join (.run (.dv .top) c x s hw hs hc hb) h1 ((aR ..).1 h2)
theorem cC {B:Base}{Fr:Nat->Prop}{E:Env}{st:St}{a:Act}{W:World}(h:Sat B Fr E st a W){ops:Array Oper}(hol:ol=ops.toList){o:Oper}{b:Bool}(hw:gG ol o st=some b):Region.wanted o (yielded ops a.tmps)=b:=by
 unfold gG at hw
 unfold Region.wanted
 split at hw
 ·rename_i hg;rw[hg];cases hw;rfl
 ·rename_i j w hg
  rw[hg]
  simp only
  split at hw
  ·rename_i oj hj
   split at hw
   ·rename_i d hd
    cases hlt:Nat.blt d st.n with
    |false=>rw[hlt]at hw;cases hw
    |true=>
     rw[hlt]at hw
     have hlt:=aG.1 hlt
     simp only[e0q]at hw
     split at hw
     ·rename_i b' hb
      have hr:=h.tm d hlt
      rw[hb]at hr
      have hsz:d<a.tmps.size:=by rw[h.size];exact hlt
      have hv:a.tmps[d]?=some (.bool b'):=by
       rw[e0y hsz]
       have:a.tmps.getD d undef= .bool b':=hr
       simp only[Array.getD,hsz,e8c]at this
       exact e2r some this
      have hy:yielded ops a.tmps j=some b':=by
       unfold yielded
       rw[<-e0s,<-hol,hj]
       simp only[Option.bind_some,hd,hv]
      rw[hy]
      cases hw
      cases b'<;>cases w<;>rfl
     ·rename_i tt hb
      cases hw
      have hr:=h.tm d hlt
      rw[hb]at hr
      have hsz:d<a.tmps.size:=by rw[h.size];exact hlt
      have hv:a.tmps[d]?=some (.tuple tt):=by
       rw[e0y hsz]
       have:a.tmps.getD d undef= .tuple tt:=hr
       simp only[Array.getD,hsz,e8c]at this
       exact e2r some this
      have hy:yielded ops a.tmps j=none:=by
       unfold yielded
       rw[<-e0s,<-hol,hj]
       simp only[Option.bind_some,hd,hv]
      rw[hy];rfl
     ·cases hw
   ·cases hw
  ·cases hw
def frd (base:Nat)(done:List Nat)(j:Nat):Prop:=base<=j/\∀k∈done,j≠base+k
theorem kO (a:Act)(d:Option Nat)(v:Value):(a.put d v).defers=a.defers:=by cases d<;>rfl
theorem cM (st:St)(d:Option Nat)(x:AV):(st.put d x).gh=st.gh:=by cases d<;>rfl
theorem St.put_next (st:St)(d:Option Nat)(x:AV):(st.put d x).next=st.next:=by cases d<;>rfl
abbrev _root_.e3a:=@St.put_next
theorem uQ (hT:bQ P T){B:Base}{done:List Nat}{X:Nat->Prop}{E:Env}{st:St}{a:Act}{W:World}(h:Sat B (λj=>frd base done j/\X j) E st a W){ops:Array Oper}(hol:ol=ops.toList){i:Nat}{o:Oper}(hi:ops[i]?=some o)(hd:i∉done)(hX:X (base+i))
  {r:CR} {s:St} (h1:One P T ol base i o st r s) {ro:Option Nat} {n:Nat} {Q:Exit->Act->World->Prop} {K:Act->World->Prop}
  (hk:∀E' a' W',Sat B (λj=>frd base (i::done) j/\X j) E' s a' W'->a'.defers=a.defers->K a' W'):wpOpIn (Fr0 ro) n P ops Q i K a W:=by
 have hF:frd base done (base+i)/\X (base+i):=⟨⟨e5r _ _,λk hk e=>hd ((show i=k by omega)▸hk)⟩,hX⟩
 have hfw:∀j,(frd base (i::done) j/\X j)->(frd base done j/\X j)/\j≠base+i:=λj hj=>⟨⟨⟨hj.1.1,λk hk=>hj.1.2 k (d9v _ hk)⟩,hj.2⟩,hj.1.2 i (d9y ..)⟩
 unfold wpOpIn
 rw[hi]
 simp only
 cases h1 with
 |skip hw=>
  rw[cC h hol hw]
  simp only[e2l,e3g]
  exact⟨λ_ _=>trivial,hk E _ W ((h.weak λj hj=>(hfw j hj).1).put o.dst rfl) (kO ..)⟩
 |run r c x s hw hs hc hb=>
  rw[cC h hol hw]
  simp only[e4b]
  exact a9e hT h hF o hs hc λE' v W' h2 h3=>hk E' _ W' ((h2.weak hfw).put o.dst h3) (kO ..)
theorem zM (hT:bQ P T){B:Base}{done:List Nat}{E:Env}{st:St}{a:Act}{W:World}(h:Sat B (frd base done) E st a W){ops:Array Oper}(hol:ol=ops.toList){i:Nat}{o:Oper}(hi:ops[i]?=some o)(hd:i∉done)
  {r:CR} {s:St} (h1:One P T ol base i o st r s) {ro:Option Nat} {n:Nat} {Q:Exit->Act->World->Prop} {K:Act->World->Prop}
  (hk:∀E' a' W',Sat B (frd base (i::done)) E' s a' W'->a'.defers=a.defers->K a' W'):wpOpIn (Fr0 ro) n P ops Q i K a W:=
 uQ (X:=λ_=>True) hT (h.weak λ_ hj=>hj.1) hol hi hd trivial h1 λE' a' W' h2 h3=>hk E' a' W' (h2.weak λ_ hj=>⟨hj,trivial⟩) h3
theorem uM (m:Nat->Option Nat)(i nx k:Nat):∀(c j q:Nat),q<c->c4c (oQ m i nx k j c) q=(match Nat.blt (j+q) k with
  |true=>(match m (j+q)with|some q=>q|none=>0)
  |false=>(match Nat.beq (j+q) k with
   |true=>i
   |false=>nx+(j+q-k-1)))
 |0,_,_,h=>by omega
 |c+1,j,0,_=>by rw[oQ];rfl
 |c+1,j,q+1,h=>by
  rw[oQ]
  show c4c (oQ m i nx k (j+1) c) q=_
  rw[uM m i nx k c (j+1) q (by omega),show j+1+q=j+(q+1) by omega]
theorem yZ {B:Base}{Fr:Nat->Prop}{E:Env}{st:St}{a:Act}{W:World}(h:Sat B Fr E st a W){i:Nat}(hF:Fr i)(hn:∀j,st.next<=j->Fr j)(hi:i<st.next){o:Oper}{g:Nat}{l:List AV}(hg:xV o.op st=some (g,l))
  {as:List AV} {ms:List Res} {N:Nat} {ι:Type} {ms':ι->List Res} {z:ι->AV} {K:St->Prop} (hk:lsK P i o g l as ms N ms' z st K) {ro:Option Nat} {n:Nat} {next:Act->World->Prop} {Q:Exit->Act->World->Prop}
  (hnext:∀E' a' W' s,K s->s.gh=st.gh->st.next<=s.next->Sat B (λj=>Fr j/\j≠i/\(st.next<=j->s.next<=j)) E' s a' W'->next a' W'):o.wpIn (Fr0 ro) n P a W next Q:=by
 unfold xV at hg
 split at hg
 ·rename_i f cargs ctys ho
  obtain⟨m1,k1,_⟩:=cD (j:=0) (x:=0) _ _ hk
  obtain⟨m2,k2,_⟩:=cD (j:=0) (x:=0) _ _ k1
  obtain⟨m,k3,_⟩:=cD (j:=0) (x:=0) _ _ k2
  have k3:=(rD _ _).1 k3
  obtain⟨⟨⟨he,hal⟩,hC⟩,k4⟩:=k3
  have k4:=λq=>(aR ..).1 (k4 ⟨⟨he,hal⟩,hC⟩ q)
  have hal:=d9s hal
  have hm2:∀j,ms.length<=j->a4p ms.length m j=none:=λj hj=>by
   unfold a4p
   cases hb:Nat.blt j ms.length with
   |false=>rfl
   |true=>have:=aG.1 hb;omega
  have hnth:∀j,j<N->c4c (oQ (a4p ms.length m) i st.next ms.length 0 N) j=(match Nat.blt j ms.length with
    |true=>(match a4p ms.length m j with|some q=>q|none=>0)
    |false=>(match Nat.beq j ms.length with
     |true=>i
     |false=>st.next+(j-ms.length-1))):=λj hj=>by
   have:=uM (a4p ms.length m) i st.next ms.length N 0 j hj
   rwa[e0f]at this
  generalize c4c (oQ (a4p ms.length m) i st.next ms.length 0 N)=π at*
  have hp1:∀j,j<ms.length->a4p ms.length m j=some (π j):=by
   intro j hj
   rw[hnth j (e1g hj hC.le),aG.2 hj]
   have:=iB.1 he.2.1 (j,ms[j]) (by have:=gF ms 0 j ms[j] (e0e hj);rwa[e0f]at this)
   simp only at this⊢
   cases hc:a4p ms.length m j with
   |none=>rw[hc]at this;exact this.elim
   |some q=>rfl
  have hge:∀j,ms.length<=j->j<N->(j=ms.length/\π j=i)\/(ms.length<j/\π j=st.next+(j-ms.length-1)):=by
   intro j h1 h2
   rw[hnth j h2]
   have:Nat.blt j ms.length=false:=by
    cases hb:Nat.blt j ms.length with
    |false=>rfl
    |true=>have:=aG.1 hb;omega
   rw[this]
   simp only
   cases hb:Nat.beq j ms.length with
   |true=>exact .inl ⟨d9s hb,rfl⟩
   |false=>
    have:j≠ms.length:=λe=>by rw[e,e3k]at hb;cases hb
    exact .inr ⟨by omega,rfl⟩
  obtain⟨fs,cs,hu,hent,hcall⟩:=b8g h (h.ev f) (l0:=cargs.toList.map st.ev) (us:=cargs.toList.map a.eval) (by simp) (λj hj=>by
   simp only[e0z,e1c]at hj
   simp only[d9r,e0j,e0s,e0y hj,e1y,e2v]
   exact h.ev _) hg he hal hm2 hC hp1 (λj h1 h2=>by
    rcases hge j h1 h2 with⟨_,e⟩|⟨_,e⟩<;>rw[e]
    ·exact hF
    ·exact hn _ (by omega)) (λj j' h1 h2 h3 h4 e=>by
    rcases hge j h1 h2 with⟨_,e1⟩|⟨_,e1⟩<;>rcases hge j' h3 h4 with⟨_,e2⟩|⟨_,e2⟩<;>rw[e1,e2]at e<;>omega) (st.next+(N-ms.length-1))
  refine⟨λ_ _=>trivial,?_⟩
  rw[e3x _ _ _ (by rw[ho];simp)]
  have hrun:(execOp a.eval o).run P W= .ok (.enter g (fs++(cargs.toList.map a.eval).toArray++cs)) W:=by
   simp only[execOp,ho,resolve,hu,Deferred.ofValue,invoke,d9t,d9u,d9q]
   have:cargs.map a.eval=(cargs.toList.map a.eval).toArray:=by rw[<-e4f,e6a]
   rw[this];exact hent _ _
  rw[hrun]
  refine And.intro (λhd=>by cases hd) ?_
  have hin:CallsIn (Fr0 ro) (n-1) P g (fs++(cargs.toList.map a.eval).toArray++cs) W _:=(e7m (n:=n-1)).2 hcall
  refine hin.mono ?_
  rintro e W' ⟨q,v,E',rfl,hs,hx⟩
  refine hnext E' _ W' _ (k4 q) (cM ..) ?_ ((hs.weak λj hj=>⟨hj.1,λq h1 h2 e=>?_⟩).put o.dst hx)
  ·rw[e3a];exact e5r _ _
  ·have hj3:=hj.2.2
   rw[e3a]at hj3
   have hj3:st.next<=j->st.next+(N-ms.length-1)<=j:=hj3
   rcases hge q h1 h2 with⟨_,e1⟩|⟨_,e1⟩
   ·exact hj.2.1 (e.trans e1)
   ·rw[e1]at e
    have:=hj3 (by omega)
    omega
 ·cases hg
end
def vis:Nat->(Nat->Option Res)->AV->List Nat
  |0,_,_=>[]
  |_+1,_,.d _=>[]
  |n+1,hp,.ref id _=>id::(match hp id with
    |some (.cs _ m f)=>(List.range m).flatMap λj=>vis n hp (f j)
    |_=>[])
  |_+1,_,.el id _ _ _=>[id]
  |_+1,_,.ms id _ _ _=>[id]
  |n+1,hp,.ag m f=>(List.range m).flatMap λj=>vis n hp (f j)
  |n+1,hp,.fn _ a b f c=>((List.range a).flatMap λj=>vis n hp (f j))++(List.range b).flatMap λj=>vis n hp (c j)
  |_+1,_,.mp id=>[id]
  |n+1,hp,.tp m f=>(List.range m).flatMap λj=>vis n hp (f j)
  |_+1,_,.sub id _ _=>[id]
  |_+1,_,.stp id=>[id]
theorem aN {α β:Type}{f g:α->List β}:∀{l:List α},(∀x∈l,f x=g x)->l.flatMap f=l.flatMap g
 |[],_=>rfl
 |x::l,h=>by simp only[e6z];rw[h x (d9y ..),aN λy hy=>h y (d9v _ hy)]
theorem gZ {hp hp2:Nat->Option Res}:∀(n:Nat) (x:AV),(∀id∈vis n hp x,hp2 id=hp id)->vis n hp2 x=vis n hp x/\dX n hp2 x=dX n hp x/\bB n hp2 x=bB n hp x/\(qB n hp2 x=qB n hp x):=by
 intro n
 induction n with
 |zero=>intro x _;exact⟨rfl,rfl,rfl,rfl⟩
 |succ n ih=>
  intro x h
  cases x with
  |d y=>exact⟨rfl,rfl,rfl,rfl⟩
  |ref id off=>
   have h0:hp2 id=hp id:=h id (by simp[vis])
   simp only[vis,dX,bB,qB,h0]
   cases hr:hp id with
   |none=>exact⟨rfl,rfl,rfl,rfl⟩
   |some r=>
    cases r with
    |row mt T k m f=>exact⟨rfl,rfl,rfl,rfl⟩
    |mp mt kt m=>exact⟨rfl,rfl,rfl,rfl⟩
    |it mt kt m seen cur=>exact⟨rfl,rfl,rfl,rfl⟩
    |me mt kt m l born=>exact⟨rfl,rfl,rfl,rfl⟩
    |cs mt m f=>
     have hj:∀j,j<m->_:=λj hj=>ih (f j) λi hi=>h i (by
      simp only[vis,hr,e0b]
      exact .inr (e1a.2 ⟨j,e1e.2 hj,hi⟩))
     simp only
     refine⟨?_,?_,?_,jB.congr λj hj'=>(hj j hj').2.2.2⟩
     ·rw[aN λj hj'=>(hj j (e1e.1 hj')).1]
     ·rw[jF λj hj'=>(hj j hj').2.1]
     ·rw[aN λj hj'=>(hj j (e1e.1 hj')).2.2.1]
  |el id k i off=>
   have h0:hp2 id=hp id:=h id (by simp[vis])
   simp only[vis,dX,bB,qB,h0]
   exact⟨trivial,trivial,trivial,trivial⟩
  |ms id k off m=>
   have h0:hp2 id=hp id:=h id (by simp[vis])
   simp only[vis,dX,bB,qB,h0]
   exact⟨trivial,trivial,trivial,trivial⟩
  |mp id=>
   have h0:hp2 id=hp id:=h id (by simp[vis])
   simp only[vis,dX,bB,qB,h0]
   exact⟨trivial,trivial,trivial,trivial⟩
  |sub id k i=>exact⟨rfl,rfl,rfl,rfl⟩
  |stp id=>exact⟨rfl,rfl,rfl,rfl⟩
  |tp m f=>
   have hj:∀j,j<m->_:=λj hj=>ih (f j) λi hi=>h i (by
    simp only[vis]
    exact e1a.2 ⟨j,e1e.2 hj,hi⟩)
   simp only[vis,dX,bB,qB]
   refine⟨?_,?_,?_,jB.congr λj hj'=>(hj j hj').2.2.2⟩
   ·rw[aN λj hj'=>(hj j (e1e.1 hj')).1]
   ·rw[jF λj hj'=>(hj j hj').2.1]
   ·rw[aN λj hj'=>(hj j (e1e.1 hj')).2.2.1]
  |ag m f=>
   have hj:∀j,j<m->_:=λj hj=>ih (f j) λi hi=>h i (by
    simp only[vis]
    exact e1a.2 ⟨j,e1e.2 hj,hi⟩)
   simp only[vis,dX,bB,qB]
   refine⟨?_,?_,?_,jB.congr λj hj'=>(hj j hj').2.2.2⟩
   ·rw[aN λj hj'=>(hj j (e1e.1 hj')).1]
   ·rw[jF λj hj'=>(hj j hj').2.1]
   ·rw[aN λj hj'=>(hj j (e1e.1 hj')).2.2.1]
  |fn g a b f c=>
   have hf:∀j,j<a->_:=λj hj=>ih (f j) λi hi=>h i (by
    simp only[vis]
    exact e0p _ (e1a.2 ⟨j,e1e.2 hj,hi⟩))
   have hc:∀j,j<b->_:=λj hj=>ih (c j) λi hi=>h i (by
    simp only[vis]
    exact e0n _ (e1a.2 ⟨j,e1e.2 hj,hi⟩))
   simp only[vis,dX,bB,qB]
   refine⟨?_,?_,?_,?_⟩
   ·rw[aN λj hj'=>(hf j (e1e.1 hj')).1,aN λj hj'=>(hc j (e1e.1 hj')).1]
   ·rw[jF λj hj'=>(hf j hj').2.1,jF λj hj'=>(hc j hj').2.1]
   ·rw[aN λj hj'=>(hf j (e1e.1 hj')).2.2.1,aN λj hj'=>(hc j (e1e.1 hj')).2.2.1]
   ·rw[jB.congr λj hj'=>(hf j hj').2.2.2,jB.congr λj hj'=>(hc j hj').2.2.2]
theorem zU {hp:Nat->Option Res}{id:Nat}:∀(n:Nat) (x:AV),id∈bB n hp x->id∈vis n hp x:=by
 intro n
 induction n with
 |zero=>intro x h;exact h
 |succ n ih=>
  intro x h
  cases x with
  |d y=>exact h
  |ref i off=>
   simp only[bB]at h
   simp only[vis]
   cases hr:hp i with
   |none=>rw[hr]at h;simp at h
   |some r=>
    rw[hr]at h
    cases r with
    |row mt T k m f=>simp at h
    |mp mt kt m=>simp at h
    |it mt kt m seen cur=>simp at h
    |me mt kt m l born=>simp at h
    |cs mt m f=>
     simp only[e0b]at h⊢
     refine h.imp (λe=>e) λh=>?_
     obtain⟨j,hj,hx⟩:=e1a.1 h
     exact e1a.2 ⟨j,hj,ih _ hx⟩
  |el i k j off=>
   simp only[bB]at h
   simp only[vis]
   split at h
   ·revert h
    cases b6o _ _ _ _ with
    |true=>exactλh=>h
    |false=>intro h;simp at h
   ·simp at h
  |ms i k off m=>
   simp only[bB]at h
   split at h
   ·exact h
   ·simp at h
  |mp i=>
   simp only[bB]at h
   split at h
   ·exact h
   ·simp at h
  |sub i k j=>simp[bB]at h
  |stp i=>simp[bB]at h
  |tp m f=>
   obtain⟨j,hj,hx⟩:=e1a.1 h
   exact e1a.2 ⟨j,hj,ih _ hx⟩
  |ag m f=>
   obtain⟨j,hj,hx⟩:=e1a.1 h
   exact e1a.2 ⟨j,hj,ih _ hx⟩
  |fn g a b f c=>
   rcases e0x.1 h with h|h
   ·obtain⟨j,hj,hx⟩:=e1a.1 h
    exact e0p _ (e1a.2 ⟨j,hj,ih _ hx⟩)
   ·obtain⟨j,hj,hx⟩:=e1a.1 h
    exact e0n _ (e1a.2 ⟨j,hj,ih _ hx⟩)
def nF (hp:Nat->Option Res)(l:List AV):List Nat:=l.flatMap (vis bH hp)
def dB:AV->List Nat
  | .ref id _=>[id]
  | .el id _ _ _=>[id]
  | .ms id _ _ _=>[id]
  | .mp id=>[id]
  | .sub id _ _=>[id]
  | .stp id=>[id]
  |_=>[]
def fC (hp:Nat->Option Res)(i:Nat)(f:AV)(l:List AV)(r:CR):List Nat×List Nat:=
  match r with
  | .dv r=>match gB f l with
    |some (_,l)=>bif r.flat then(nF hp l,[])else([],nF hp l)
    |none=>([],[])
  | .ip _ _=>([],nF hp l)
  | .nw ..=>match gB f l with
    |some (_,l)=>([],i::nF hp l)
    |none=>([],[])
  | .ln _=>match gB f l with
    |some (_,l)=>(nF hp l,[])
    |none=>([],[])
  | .ls ..=>([],[])
def fpV (o:Oper)(i:Nat)(st:St)(r:CR):List Nat×List Nat:=
  match o.op with
  | .load _ x=>(dB (st.ev x),[])
  | .alloc _=>([],[i])
  | .box _ _=>([],[i])
  | .makeSlice _ _ _=>([],[i])
  | .buildSlice _ _ parts=>([],i::nF st.hp (parts.toList.map λp=>st.ev p.2))
  | .store _ ad x=>([],dB (st.ev ad)++nF st.hp [st.ev x])
  | .assign (.const (.slice none 0 0))=>([],[i])
  | .slice _ x none _ (some _)=>([],dB (st.ev x))
  | .slice _ x none none none=>(dB (st.ev x),[])
  | .slice _ x none (some _) none=>(dB (st.ev x),[])
  | .makeMap _ none=>([],[i])
  | .mapUpdate _ m _ _=>([],dB (st.ev m))
  | .insert _ m _ _=>([],dB (st.ev m))
  | .lookup _ m _ _=>(dB (st.ev m),[])
  | .range _ x=>([],i::dB (st.ev x))
  | .entry x=>(dB (st.ev x),[])
  | .mapEntry _ m _=>([],i::dB (st.ev m))
  | .entryStore _ m s _=>([],dB (st.ev m)++dB (st.ev s))
  | .call c=>match c.callee with
    | .builtin .append=>([],i::(c.args.toList.map st.ev).flatMap dB)
    | .builtin .copy=>([],(c.args.toList.map st.ev).flatMap dB)
    | .builtin .clear=>([],(c.args.toList.map st.ev).flatMap dB)
    | .builtin .delete=>([],(c.args.toList.map st.ev).flatMap dB)
    | .value f=>fC st.hp i (st.ev f) (c.args.toList.map st.ev) r
    |_=>([],[])
  |_=>([],[])
structure Lo (wr:List Nat)(st st2 s s2:St):Prop where
  a:∀id,id∈wr->s2.hp id=s.hp id
  b:∀id,id∉wr->s2.hp id=st2.hp id
  c:∀id,id∉wr->s.hp id=st.hp id
  t:s.tm=st.tm/\s.n=st.n/\s.next=st.next/\s.gh=st.gh
  t2:s2.tm=st2.tm/\s2.n=st2.n/\s2.next=st2.next/\s2.gh=st2.gh
theorem Lo.refl {wr:List Nat}{st st2:St}(h:∀id,id∈wr->st2.hp id=st.hp id):Lo wr st st2 st st2:=⟨h,λ_ _=>rfl,λ_ _=>rfl,⟨rfl,rfl,rfl,rfl⟩,⟨rfl,rfl,rfl,rfl⟩⟩
abbrev _root_.e4y:=@Lo.refl
theorem Lo.set {wr:List Nat}{st st2 s s2:St}(h:Lo wr st st2 s s2){i:Nat}(hi:i∈wr)(r:Option Res):Lo wr st st2 (s.set i r) (s2.set i r):=by
 refine⟨λid hid=>?_,λid hid=>?_,λid hid=>?_,h.t,h.t2⟩
 ·by_cases e:id=i
  ·subst e;rw[cQ,cQ]
  ·rw[bW _ _ e,bW _ _ e];exact h.a id hid
 ·rw[bW _ _ (λe=>hid (by rw[e];exact hi))];exact h.b id hid
 ·rw[bW _ _ (λe=>hid (by rw[e];exact hi))];exact h.c id hid
theorem Lo.frz {wr:List Nat}{st st2 s s2:St}(h:Lo wr st st2 s s2){i:Nat}(hi:i∈wr):Lo wr st st2 (s.frz i) (s2.frz i):=by
 unfold St.frz
 rw[h.a i hi]
 cases s.hp i with
 |none=>exact h
 |some r=>exact h.set hi _
theorem Lo.frzs {wr:List Nat}{st st2:St}:∀(l:List Nat) {s s2:St},Lo wr st st2 s s2->(∀i,i∈l->i∈wr)->Lo wr st st2 (s.frzs l) (s2.frzs l)
 |[],_,_,h,_=>h
 |i::l,_,_,h,hl=>Lo.frzs l (h.frz (hl i (d9y ..))) λj hj=>hl j (d9v _ hj)
section
variable {P:Program} {T:Nat->Option TI} {st st2:St}
theorem fY {hp:Nat->Option Res}{l:List AV}{x:AV}(h:x∈l){id:Nat}(hi:id∈vis bH hp x):id∈nF hp l:=e1a.2 ⟨x,h,hi⟩
theorem dU:∀(l:List AV),(∀id,id∈nF st.hp l->st2.hp id=st.hp id)->gQ st2 l=gQ st l
 |[],_=>rfl
 |x::l,h=>by
  simp only[gQ]
  rw[(gZ bH x λid hid=>h id (fY (d9y ..) hid)).2.2.2,dU l λid hid=>h id (by
   simp only[nF,e6z,e0x];exact .inr hid)]
theorem eC (l:List AV)(h:∀id,id∈nF st.hp l->st2.hp id=st.hp id):bO st2 l=bO st l:=
 aN λx hx=>(gZ bH x λid hid=>h id (fY hx hid)).2.2.1
theorem iV (l:List AV)(h:∀id,id∈nF st.hp l->st2.hp id=st.hp id):l.map (dX bH st2.hp)=l.map (dX bH st.hp):=
 e2s λx hx=>(gZ bH x λid hid=>h id (fY hx hid)).2.1
theorem eZ (l:List AV)(h:∀id,id∈nF st.hp l->st2.hp id=st.hp id):nF st2.hp l=nF st.hp l:=
 aN λx hx=>(gZ bH x λid hid=>h id (fY hx hid)).1
theorem kP {l:List AV}{id:Nat}(h:id∈bO st l):id∈nF st.hp l:=by
 obtain⟨x,hx,hi⟩:=e1a.1 h
 exact fY hx (zU _ _ hi)
variable {c:Prop} {x:AV} {s:St}
theorem a9v {i t:Nat}{wr:List Nat}(hi:i∈wr)(ha:∀id,id∈wr->st2.hp id=st.hp id)(h:qK T i t st=some (c,x,s)):∃s2,qK T i t st2=some (c,x,s2)/\Lo wr st st2 s s2:=by
 have h0:=e4y ha
 unfold qK at h⊢
 split at h
 ·cases hb:yN _ with
  |true=>
   rw[hb]at h
   simp only[e0q]at h⊢
   split at h
   ·split at h
    ·cases hb2:List.all _ _ with
     |true=>rw[hb2]at h;simp only[e0q]at h⊢;cases h;exact⟨_,rfl,h0.set hi _⟩
     |false=>rw[hb2]at h;cases h
    ·cases h
   ·cases h
  |false=>rw[hb]at h;simp only[e2n]at h⊢;cases h;exact⟨_,rfl,h0.set hi _⟩
 ·cases h
theorem c2i {i t:Nat}{y:AV}{wr:List Nat}(hi:i∈wr)(ha:∀id,id∈wr->st2.hp id=st.hp id)(h:c2h T i t y st=some (c,x,s)):∃s2,c2h T i t y st2=some (c,x,s2)/\Lo wr st st2 s s2:=by
 have h0:=e4y ha
 unfold c2h at h⊢
 split at h
 ·cases hb:yN _ with
  |true=>
   rw[hb]at h
   simp only[e0q]at h⊢
   split at h
   ·cases hb2:Nat.beq _ _ with
    |true=>rw[hb2]at h;simp only[e0q]at h⊢;cases h;exact⟨_,rfl,h0.set hi _⟩
    |false=>rw[hb2]at h;cases h
   ·cases h
  |false=>rw[hb]at h;simp only[e2n]at h⊢;cases h;exact⟨_,rfl,h0.set hi _⟩
 ·cases h
theorem wM {i t:Nat}{l k:AV}{wr:List Nat}(hi:i∈wr)(ha:∀id,id∈wr->st2.hp id=st.hp id)(h:eV T i t l k st=some (c,x,s)):∃s2,eV T i t l k st2=some (c,x,s2)/\Lo wr st st2 s s2:=by
 have h0:=e4y ha
 unfold eV at h⊢
 split at h
 ·split at h
  ·split at h
   ·cases hb2:(Nat.ble _ _&&Nat.blt _ _)with
    |true=>rw[hb2]at h;simp only[e0q]at h⊢;cases h;exact⟨_,rfl,h0.set hi _⟩
    |false=>rw[hb2]at h;cases h
   ·cases h
  ·cases h
 ·cases h
theorem c4a {i t:Nat}{wr:List Nat}(hi:i∈wr)(ha:∀id,id∈wr->st2.hp id=st.hp id)(h:c3z T i t st=some (c,x,s)):∃s2,c3z T i t st2=some (c,x,s2)/\Lo wr st st2 s s2:=by
 have h0:=e4y ha
 unfold c3z at h⊢
 split at h
 ·split at h
  ·split at h
   ·cases h;exact⟨_,rfl,h0.set hi _⟩
   ·cases h
  ·cases h
 ·cases h
theorem oR {ev2:Operand->AV}(k len:Nat):∀(l:List (Nat×Operand)),(∀p,p∈l->ev2 p.2=st.ev p.2)->(∀id,id∈nF st.hp (l.map λp=>st.ev p.2)->st2.hp id=st.hp id)->mU st2 k len ev2 l=mU st k len st.ev l
 |[],_,_=>rfl
 |(i,y)::l,he,h=>by
  have h1:ev2 y=st.ev y:=he (i,y) (d9y ..)
  have h2:dX bH st2.hp (st.ev y)=dX bH st.hp (st.ev y):=(gZ bH _ λid hid=>h id (fY (d9y ..) hid)).2.1
  simp only[mU,h1,h2]
  rw[oR k len l (λp hp=>he p (d9v _ hp)) λid hid=>h id (by
   simp only[e0o,nF,e6z,e0x];exact .inr hid)]
theorem sV {i t len:Nat}{parts:List (Nat×Operand)}{wr:List Nat}(he:∀p,p∈parts->st2.ev p.2=st.ev p.2)(hw:wr=i::nF st.hp (parts.map λp=>st.ev p.2))(ha:∀id,id∈wr->st2.hp id=st.hp id)
  (h:dR T i t len parts st=some (c,x,s)):∃s2,dR T i t len parts st2=some (c,x,s2)/\Lo wr st st2 s s2:=by
 have h0:=e4y ha
 have hv:∀id,id∈nF st.hp (parts.map λp=>st.ev p.2)->st2.hp id=st.hp id:=λid hid=>ha id (hw▸d9v _ hid)
 have hm:(parts.map λp=>st2.ev p.2)=parts.map λp=>st.ev p.2:=e2s he
 unfold dR at h⊢
 split at h
 ·split at h
  ·split at h
   ·rename_i te _
    simp only[oR (st2:=st2) te.size len parts he hv,hm,dU _ hv,eC _ hv]
    split at h
    ·cases hb2:(Nat.ble _ _&&Nat.blt _ _)with
     |true=>
      rw[hb2]at h;simp only[e0q]at h⊢;cases h
      exact⟨_,rfl,(Lo.frzs _ h0 λj hj=>hw▸d9v _ (kP hj)).set (hw▸d9y ..) _⟩
     |false=>rw[hb2]at h;cases h
    ·cases h
   ·cases h
  ·cases h
 ·cases h
theorem b5b {t:Nat}{ad y:AV}{wr:List Nat}(hw:wr=dB ad++nF st.hp [y])(ha:∀id,id∈wr->st2.hp id=st.hp id)(h:uV T t ad y st=some (c,s)):∃s2,uV T t ad y st2=some (c,s2)/\Lo wr st st2 s s2:=by
 have h0:=e4y ha
 have hv:∀id,id∈nF st.hp [y]->st2.hp id=st.hp id:=λid hid=>ha id (hw▸e0n _ hid)
 have hvy:vis bH st.hp y=nF st.hp [y]:=by simp[nF]
 have hc:=gZ (hp2:=st2.hp) bH y (by rw[hvy];exact hv)
 have hre:∀i,i∈bB bH st.hp y->i∈wr:=λi hi=>hw▸e0n _ (hvy▸zU _ _ hi)
 unfold uV at h⊢
 split at h
 ·cases hb:Nat.beq _ _ with
  |false=>rw[hb]at h;cases h
  |true=>
   rw[hb]at h
   simp only[e0q]at h⊢
   split at h
   ·rename_i id off
    have hid:id∈wr:=hw▸e0p _ (by simp[dB])
    simp only[ha id hid]
    split at h
    ·cases h;exact⟨_,rfl,h0.set hid _⟩
    ·cases h
   ·rename_i id k i off
    have hid:id∈wr:=hw▸e0p _ (by simp[dB])
    simp only[ha id hid,hc]
    split at h
    ·cases hb2:Nat.beq _ _ with
     |false=>rw[hb2]at h;cases h
     |true=>
      rw[hb2]at h
      simp only[e0q]at h⊢
      cases hb3:(Nat.beq _ k&&Nat.beq off 0)with
      |true=>
       rw[hb3]at h;simp only[e0q]at h⊢
       cases h;exact⟨_,rfl,(Lo.frzs _ h0 hre).set hid _⟩
      |false=>
       rw[hb3]at h;simp only[e2n]at h⊢
       cases hb4:Nat.beq k 1 with
       |true=>
        rw[hb4]at h;simp only[e0q]at h⊢
        cases hb5:Nat.beq off 0 with
        |true=>
         rw[hb5]at h;simp only[e0q]at h⊢
         cases h;exact⟨_,rfl,h0.set hid _⟩
        |false=>rw[hb5]at h;cases h
       |false=>
        rw[hb4]at h;simp only[e2n]at h⊢
        cases h;exact⟨_,rfl,(Lo.frzs _ h0 hre).set hid _⟩
    ·cases h
   ·cases h
 ·cases h
theorem sJ {k:Nat}{y:AV}(h:∀id,id∈dB y->st2.hp id=st.hp id):xP st2 k y=xP st k y:=by
 unfold xP
 split
 ·rw[h _ (by simp[dB])]
 ·rfl
 ·rfl
 ·rfl
theorem a7l {i t:Nat}{y z:AV}{wr:List Nat}(hw:wr=i::[y,z].flatMap dB)(ha:∀id,id∈wr->st2.hp id=st.hp id)(h:nJ T i t y z st=some (c,x,s)):∃s2,nJ T i t y z st2=some (c,x,s2)/\Lo wr st st2 s s2:=by
 have h0:=e4y ha
 have hi:i∈wr:=hw▸d9y ..
 have hy:∀id,id∈dB y->id∈wr:=λid hid=>by rw[hw];simp[hid]
 have hz:∀id,id∈dB z->id∈wr:=λid hid=>by rw[hw];simp[hid]
 have sy:∀k,xP st2 k y=xP st k y:=λk=>sJ λid hid=>ha id (hy id hid)
 have sz:∀k,xP st2 k z=xP st k z:=λk=>sJ λid hid=>ha id (hz id hid)
 unfold nJ at h⊢
 split at h
 ·split at h
  ·split at h
   ·cases hb2:(Nat.ble _ _&&Nat.blt _ _)with
    |false=>rw[hb2]at h;cases h
    |true=>
     rw[hb2]at h;simp only[e0q,sz]at h⊢
     split at h
     ·split at h
      ·rename_i id k off n
       have hid:=hy id (by simp[dB])
       simp only[ha id hid]
       split at h
       ·cases hb3:(Nat.beq _ _&&Nat.beq _ _&&Nat.beq _ _&&Nat.beq _ _)with
        |false=>rw[hb3]at h;cases h
        |true=>rw[hb3]at h;simp only[e0q]at h⊢;cases h;exact⟨_,rfl,(h0.set hid _).set hi _⟩
       ·cases h
      ·cases hb3:a0o y with
       |false=>rw[hb3]at h;cases h
       |true=>
        rw[hb3]at h;simp only[e0q,sy]at h⊢
        split at h
        ·cases h;exact⟨_,rfl,h0.set hi _⟩
        ·cases h
     ·cases h
   ·cases h
  ·cases h
 ·cases h
theorem b0u {t:Nat}{y:AV}{wr:List Nat}(hw:wr=[y].flatMap dB)(ha:∀id,id∈wr->st2.hp id=st.hp id)(h:tU T t y st=some (c,x,s)):∃s2,tU T t y st2=some (c,x,s2)/\Lo wr st st2 s s2:=by
 have h0:=e4y ha
 have hy:∀id,id∈dB y->id∈wr:=λid hid=>by rw[hw];simp[hid]
 unfold tU at h⊢
 split at h
 ·split at h
  ·split at h
   ·split at h
    ·rename_i id k off n
     have hid:=hy id (by simp[dB])
     simp only[ha id hid]
     split at h
     ·cases hb3:(Nat.beq _ _&&Nat.beq _ _&&Nat.blt _ _)with
      |false=>rw[hb3]at h;cases h
      |true=>rw[hb3]at h;simp only[e0q]at h⊢;cases h;exact⟨_,rfl,h0.set hid _⟩
     ·cases h
    ·rename_i id k i
     have hid:=hy id (by simp[dB])
     simp only[ha id hid]
     split at h
     ·cases hb3:(Nat.beq _ _&&Nat.beq _ _&&Nat.blt _ _)with
      |false=>rw[hb3]at h;cases h
      |true=>rw[hb3]at h;simp only[e0q]at h⊢;cases h;exact⟨_,rfl,h0.set hid _⟩
     ·cases h
    ·cases h
   ·cases h
  ·cases h
 ·cases h
theorem a2v {i t:Nat}{wr:List Nat}(hi:i∈wr)(ha:∀id,id∈wr->st2.hp id=st.hp id)(h:iL T i t st=some (c,x,s)):∃s2,iL T i t st2=some (c,x,s2)/\Lo wr st st2 s s2:=by
 have h0:=e4y ha
 unfold iL at h⊢
 split at h
 ·cases h;exact⟨_,rfl,h0.set hi _⟩
 ·cases h
theorem b5k {t:Nat}{m k v:AV}{wr:List Nat}(hw:∀id,id∈dB m->id∈wr)(ha:∀id,id∈wr->st2.hp id=st.hp id)(h:b9w T t m k v st=some (c,x,s)):∃s2,b9w T t m k v st2=some (c,x,s2)/\Lo wr st st2 s s2:=by
 have h0:=e4y ha
 unfold b9w at h⊢
 split at h
 ·rename_i kt id e1
  have hid:=hw id (by simp[dB])
  simp only[ha id hid]
  split at h
  ·cases hb:wB _ _ with
   |false=>rw[hb]at h;cases h
   |true=>rw[hb]at h;simp only[e0q]at h⊢;cases h;exact⟨_,rfl,h0.set hid _⟩
  ·cases h
 ·cases h
theorem c2u {t:Nat}{m k:AV}{wr:List Nat}(hw:∀id,id∈dB m->id∈wr)(ha:∀id,id∈wr->st2.hp id=st.hp id)(h:c6n T t m k st=some (c,x,s)):∃s2,c6n T t m k st2=some (c,x,s2)/\Lo wr st st2 s s2:=by
 have h0:=e4y ha
 unfold c6n at h⊢
 split at h
 ·rename_i kt id e1
  have hid:=hw id (by simp[dB])
  simp only[ha id hid]
  split at h
  ·cases hb:wB _ _ with
   |false=>rw[hb]at h;cases h
   |true=>rw[hb]at h;simp only[e0q]at h⊢;cases h;exact⟨_,rfl,h0.set hid _⟩
  ·cases h
 ·cases h
theorem a8g {co:Bool}{m:AV}(h:∀id,id∈dB m->st2.hp id=st.hp id):b2q st2 co m=b2q st co m:=by
 unfold b2q
 split
 ·rw[h _ (by simp[dB])]
 ·rfl
 ·rfl
theorem b8f {t:Nat}{m k:AV}{co:Bool}(ha:∀id,id∈dB m->st2.hp id=st.hp id)(h:pM T t m k co st=some (c,x,s)):∃s2,pM T t m k co st2=some (c,x,s2)/\Lo [] st st2 s s2:=by
 unfold pM at h⊢
 rw[a8g ha]
 split at h
 ·split at h
  ·cases hb:wB _ _ with
   |false=>rw[hb]at h;cases h
   |true=>rw[hb]at h;simp only[e0q]at h⊢;cases h;exact⟨st2,rfl,e4y (by simp)⟩
  ·cases h
 ·cases h
theorem zT {i t:Nat}{y:AV}{wr:List Nat}(hw:wr=i::dB y)(ha:∀id,id∈wr->st2.hp id=st.hp id)(h:fL T i t y st=some (c,x,s)):∃s2,fL T i t y st2=some (c,x,s2)/\Lo wr st st2 s s2:=by
 have h0:=e4y ha
 have hi:i∈wr:=hw▸d9y ..
 unfold fL at h⊢
 split at h
 ·split at h
  ·cases h;exact⟨_,rfl,h0.set hi _⟩
  ·rename_i id
   have hid:id∈wr:=hw▸d9v _ (by simp[dB])
   simp only[ha id hid]
   split at h
   ·cases h;exact⟨_,rfl,(h0.frz hid).set hi _⟩
   ·cases h
  ·cases h
 ·cases h
theorem b1d {y:AV}(ha:∀id,id∈dB y->st2.hp id=st.hp id)(h:qX y st=some (c,x,s)):∃s2,qX y st2=some (c,x,s2)/\Lo [] st st2 s s2:=by
 unfold qX at h⊢
 split at h
 ·rename_i id
  simp only[ha id (by simp[dB])]
  split at h
  ·cases h;exact⟨st2,rfl,e4y (by simp)⟩
  ·cases h
 ·cases h
theorem b8k {i t:Nat}{m k:AV}{wr:List Nat}(hi:i∈wr)(hw:∀id,id∈dB m->id∈wr)(ha:∀id,id∈wr->st2.hp id=st.hp id)(h:zG T i t m k st=some (c,x,s)):∃s2,zG T i t m k st2=some (c,x,s2)/\Lo wr st st2 s s2:=by
 have h0:=e4y ha
 unfold zG at h⊢
 split at h
 ·rename_i kt id h1
  simp only[ha id (hw id (by simp[dB]))]
  split at h
  ·rename_i kt' f l h2 h3
   cases hb:(wB kt kt'&& !kt.va)with
   |false=>rw[hb]at h;cases h
   |true=>rw[hb]at h;simp only[e0q]at h⊢;cases h;exact⟨_,rfl,h0.set (hw id (by simp[dB])) _⟩
  ·cases h
 ·cases h
theorem b8l {m k v:AV}{wr:List Nat}(hw:∀id,id∈dB m->id∈wr)(ha:∀id,id∈wr->st2.hp id=st.hp id)(h:a8p m k v st=some (c,x,s)):∃s2,a8p m k v st2=some (c,x,s2)/\Lo wr st st2 s s2:=by
 have h0:=e4y ha
 unfold a8p at h⊢
 split at h
 ·rename_i id g vk y h1
  simp only[ha id (hw id (by simp[dB]))]
  split at h
  ·rename_i kt f l g' h2
   cases hb:(Nat.beq g g'&&IntKind.eq vk .i64&& !kt.va)with
   |false=>rw[hb]at h;cases h
   |true=>rw[hb]at h;simp only[e0q]at h⊢;cases h;exact⟨_,rfl,h0.set (hw id (by simp[dB])) _⟩
  ·cases h
 ·cases h
theorem a0g {t:Nat}{y:AV}(ha:∀id,id∈dB y->st2.hp id=st.hp id)(h:gY T t y st=some (c,x,s)):∃s2,gY T t y st2=some (c,x,s2)/\Lo [] st st2 s s2:=by
 have hall:∀s,∀{r:Option (Prop×AV)},(r.map λp=>(p.1,p.2,st))=some (c,x,s)->∃s2,(r.map λp=>(p.1,p.2,st2))=some (c,x,s2)/\Lo [] st st2 s s2:=by
  intro s r hr
  simp only[e0u]at hr⊢
  obtain⟨p,h1,h2⟩:=hr
  cases h2
  exact⟨st2,⟨p,h1,rfl⟩,e4y (by simp)⟩
 unfold gY at h⊢
 split at h
 ·split at h
  ·split at h
   ·cases hb:Nat.beq _ 1 with
    |false=>rw[hb]at h;cases h
    |true=>
     rw[hb]at h
     simp only[e0q]at h⊢
     split at h
     ·rename_i id k i
      simp only[ha id (by simp[dB])]
      split at h
      ·cases hb2:Nat.beq k _ with
       |false=>rw[hb2]at h;cases h
       |true=>
        rw[hb2]at h
        simp only[e0q]at h⊢
        cases hb3:Nat.beq k 1 with
        |true=>
         rw[hb3]at h
         simp only[e0q]at h⊢
         cases hb4:Nat.ble _ 65536 with
         |false=>rw[hb4]at h;cases h
         |true=>rw[hb4]at h;simp only[e0q]at h⊢;cases h;exact⟨st2,rfl,e4y (by simp)⟩
        |false=>
         rw[hb3]at h
         simp only[e2n]at h⊢
         cases hb4:Nat.beq k _ with
         |false=>rw[hb4]at h;cases h
         |true=>rw[hb4]at h;simp only[e0q]at h⊢;cases h;exact⟨st2,rfl,e4y (by simp)⟩
      ·cases h
     ·cases h
   ·cases h
  ·cases h
 ·cases h
theorem a3o {t:Nat}{y:AV}{hi:Int}(ha:∀id,id∈dB y->st2.hp id=st.hp id)(h:kQ T t y hi st=some (c,x,s)):∃s2,kQ T t y hi st2=some (c,x,s2)/\Lo [] st st2 s s2:=by
 unfold kQ at h⊢
 split at h
 ·split at h
  ·split at h
   ·cases hb:Nat.beq _ 1 with
    |false=>rw[hb]at h;cases h
    |true=>
     rw[hb]at h
     simp only[e0q]at h⊢
     split at h
     ·rename_i id k i
      simp only[ha id (by simp[dB])]
      split at h
      ·cases hb2:(Nat.beq k _&&Nat.beq k 1&&Nat.ble _ 65536)with
       |false=>rw[hb2]at h;cases h
       |true=>
        rw[hb2]at h
        simp only[e0q]at h⊢
        cases h;exact⟨st2,rfl,e4y (by simp)⟩
      ·cases h
     ·cases h
   ·cases h
  ·cases h
 ·cases h
theorem b7b {t:Nat}{y z:AV}{wr:List Nat}(hw:wr=[y,z].flatMap dB)(ha:∀id,id∈wr->st2.hp id=st.hp id)(h:a7r T t y z st=some (c,x,s)):∃s2,a7r T t y z st2=some (c,x,s2)/\Lo wr st st2 s s2:=by
 have h0:=e4y ha
 have hy:∀id,id∈dB y->id∈wr:=λid hid=>by rw[hw];simp[hid]
 have hz:∀id,id∈dB z->id∈wr:=λid hid=>by rw[hw];simp[hid]
 have sz:∀k,xP st2 k z=xP st k z:=λk=>sJ λid hid=>ha id (hz id hid)
 unfold a7r at h⊢
 split at h
 ·split at h
  ·split at h
   ·simp only[sz]at h⊢
    split at h
    ·split at h
     ·rename_i id k off n
      have hid:=hy id (by simp[dB])
      simp only[ha id hid]
      split at h
      ·cases hb3:(Nat.beq _ _&&Nat.beq _ _&&Nat.blt _ _)with
       |false=>rw[hb3]at h;cases h
       |true=>rw[hb3]at h;simp only[e0q]at h⊢;cases h;exact⟨_,rfl,h0.set hid _⟩
      ·cases h
     ·cases h
    ·cases h
   ·cases h
  ·cases h
 ·cases h
theorem a9c {t:Nat}{y:AV}{hi mx:Option Int}{wr:List Nat}(hw:wr=dB y)(ha:∀id,id∈wr->st2.hp id=st.hp id)(h:lS T t y hi mx st=some (c,x,s)):∃s2,lS T t y hi mx st2=some (c,x,s2)/\Lo wr st st2 s s2:=by
 have h0:=e4y ha
 unfold lS at h⊢
 split at h
 ·split at h
  ·split at h
   ·split at h
    ·rename_i id k off n
     have hid:id∈wr:=hw▸(by simp[dB])
     simp only[ha id hid]
     split at h
     ·cases hb3:(Nat.beq _ _&&Nat.beq _ _)with
      |false=>rw[hb3]at h;cases h
      |true=>rw[hb3]at h;simp only[e0q]at h⊢;cases h;exact⟨_,rfl,h0.frz hid⟩
     ·cases h
    ·cases h
   ·cases h
  ·cases h
 ·cases h
theorem b8b {ti:TI}{y:AV}(ha:∀id,id∈dB y->st2.hp id=st.hp id):a2q ti st2.hp y=a2q ti st.hp y:=by
 unfold a2q
 split
 ·rw[ha _ (by simp[dB])]
 ·rw[ha _ (by simp[dB])]
 ·rfl
 ·rfl
theorem b6v {i:Nat}{f:AV}{l:List AV}{r:CR}(ha:∀id,id∈(fC st.hp i f l r).1++(fC st.hp i f l r).2->st2.hp id=st.hp id)
  (h:iZ P i f l r st=some (c,x,s)):∃s2,iZ P i f l r st2=some (c,x,s2)/\Lo (fC st.hp i f l r).2 st st2 s s2:=by
 have h0:Lo (fC st.hp i f l r).2 st st2 st st2:=e4y λid hid=>ha id (e0n _ hid)
 cases r with
 |ls=>cases h
 |dv r=>
  simp only[iZ,fC]at h ha h0⊢
  split at h
  ·rename_i g l' hg
   rw[hg]at ha h0⊢
   simp only at ha h0⊢
   have hv:∀id,id∈nF st.hp l'->st2.hp id=st.hp id:=by
    intro id hid
    refine ha id ?_
    cases r.flat<;>simp[hid]
   cases h
   refine⟨_,by rw[dU _ hv,iV _ hv,eC _ hv],?_⟩
   cases hfl:r.flat with
   |true=>rw[hfl]at h0;exact h0
   |false=>
    rw[hfl]at h0
    exact Lo.frzs _ h0 λj hj=>kP hj
  ·cases h
 |ip x' y=>
  simp only[iZ,fC]at h ha h0⊢
  unfold ipV at h⊢
  split at h
  ·rename_i gf f1 f2 id k off n l'
   have hid:id∈nF st.hp (AV.ms id k off n::l'):=fY (d9y ..) (by simp[vis,bH])
   have hv:∀j,j∈nF st.hp l'->st2.hp j=st.hp j:=λj hj=>ha j (by
    simp only[List.nil_append]
    obtain⟨z,h1,h2⟩:=e1a.1 hj
    exact fY (d9v _ h1) h2)
   simp only[ha id (by simpa using hid)]
   split at h
   ·rename_i U k' m x0 hst
    cases hb:Nat.beq k' k with
    |false=>rw[hb]at h;cases h
    |true=>
     rw[hb]at h
     simp only[e0q]at h⊢
     cases h
     refine⟨_,by rw[dU _ hv,iV _ hv,eC _ hv],h0.set hid _⟩
   ·cases h
  ·cases h
 |nw R y=>
  simp only[iZ,fC]at h ha h0⊢
  split at h
  ·rename_i g l' hg
   rw[hg]at ha h0⊢
   simp only at ha h0⊢
   have hv:∀id,id∈nF st.hp l'->st2.hp id=st.hp id:=λid hid=>ha id (by simp[hid])
   cases h
   refine⟨_,by rw[dU _ hv,iV _ hv,eC _ hv],?_⟩
   cases d1t R y with
   |true=>exact h0.set (d9y ..) _
   |false=>exact(Lo.frzs _ h0 λj hj=>d9v _ (kP hj)).set (d9y ..) _
  ·cases h
 |ln r=>
  simp only[iZ,fC]at h ha h0⊢
  split at h
  ·rename_i g l' hg
   rw[hg]at ha h0⊢
   simp only at ha h0⊢
   have hv:∀id,id∈nF st.hp l'->st2.hp id=st.hp id:=λid hid=>ha id (by simp[hid])
   have hall:(bO st2 l').all (b7x st2)=(bO st l').all (b7x st):=by
    rw[eC _ hv,e2y,e1d,e1d]
    have e:∀id,id∈bO st l'->b7x st2 id=b7x st id:=λid hid=>by unfold b7x;rw[hv id (kP hid)]
    exact⟨λh id hid=>by rw[<-e id hid];exact h id hid,λh id hid=>by rw[e id hid];exact h id hid⟩
   rw[hall]
   revert h
   cases(bO st l').all (b7x st)with
   |false=>intro h;cases h
   |true=>
   simp only[e0q]
   intro h
   cases h
   exact⟨_,by rw[dU _ hv,iV _ hv],h0⟩
  ·cases h
end
section
variable {P:Program} {T:Nat->Option TI}
theorem oS {ti:TI}{ev ev2:Operand->AV}:∀(l:List (Nat×Operand)),(∀p,p∈l->ev2 p.2=ev p.2)->mV T ti ev2 l=mV T ti ev l
 |[],_=>rfl
 |(i,y)::l,h=>by
  have h1:ev2 y=ev y:=h (i,y) (d9y ..)
  simp only[mV,h1,oS l λp hp=>h p (d9v _ hp)]
theorem eX {ev ev2:Operand->AV}{x:Option Operand}(h:∀y,x=some y->ev2 y=ev y):pP ev2 x=pP ev x:=by
 cases x with
 |none=>rfl
 |some y=>simp only[pP,h y rfl]
theorem vJ {b:Builtin}{args:List Operand}{ts:List Nat}{ev ev2:Operand->AV}(h:∀y,y∈args->ev2 y=ev y):cI T b args ts ev2=cI T b args ts ev:=by
 have hm:∀r:List Operand,(∀y,y∈r->y∈args)->r.map ev2=r.map ev:=λr hr=>e2s λy hy=>h y (hr y hy)
 cases b<;>first|rfl|skip
 ·simp only[cI]
  split
  ·rename_i x t
   rw[h x (d9y ..)]
  ·rfl
 ·simp only[cI]
  split
  ·rename_i x r
   rw[h x (d9y ..),hm r λy hy=>d9v _ hy]
  ·rfl
 ·simp only[cI]
  split
  ·rename_i x r
   rw[h x (d9y ..),hm r λy hy=>d9v _ hy]
  ·rfl
theorem a8v {ev ev2:Operand->AV}(op:Op)(h0:∀v,ev2 (.const v)=ev (.const v))(h:∀y,y∈op.operands->ev2 y=ev y):aW T op ev2=aW T op ev:=by
 cases op<;>first|rfl|skip
 case move x=>simp only[aW,h x (by simp[Op.operands])]
 case assign x=>simp only[aW,h x (by simp[Op.operands])]
 case pick c a b=>simp only[aW,h a (by simp[Op.operands]),h b (by simp[Op.operands]),h c (by simp[Op.operands])]
 case build t parts=>
  simp only[aW]
  split
  ·rw[oS parts.toList λp hp=>h p.2 (by simp only[Op.operands,List.mem_toArray];exact e0l.2 ⟨p,hp,rfl⟩)]
  ·rfl
 case nilCheck x=>simp only[aW,h x (by simp[Op.operands])]
 case binOp op t x y t'=>simp only[aW,h x (by simp[Op.operands]),h y (by simp[Op.operands])]
 case unOp op t x=>simp only[aW,h x (by simp[Op.operands])]
 case convert s t x=>simp only[aW,h x (by simp[Op.operands])]
 case makeFunc f fs cs=>
  cases f<;>first|rfl|skip
  simp only[aW,e0a,e0i,true_and,AV.fn.injEq]
  refine⟨funext λj=>?_,funext λj=>?_⟩
  ·by_cases hj:j<fs.size
   ·rw[d9x,e0y hj]
    exact h _ (by simp[Op.operands])
   ·rw[d9x,e5n (by omega)]
    exact h0 _
  ·by_cases hj:j<cs.size
   ·rw[d9x,e0y hj]
    exact h _ (by simp[Op.operands])
   ·rw[d9x,e5n (by omega)]
    exact h0 _
 case slice t x lo hi mx=>
  simp only[aW,h x (by simp[Op.operands])]
  rw[eX (x:=lo) λy e=>h y (by simp[Op.operands,e]),eX (x:=hi) λy e=>h y (by simp[Op.operands,e]),eX (x:=mx) λy e=>h y (by simp[Op.operands,e])]
 case fieldAddr s x i=>simp only[aW,h x (by simp[Op.operands])]
 case field s x i=>simp only[aW,h x (by simp[Op.operands])]
 case indexAddr t x i=>simp only[aW,h x (by simp[Op.operands]),h i (by simp[Op.operands])]
 case index t x i=>simp only[aW,h x (by simp[Op.operands]),h i (by simp[Op.operands])]
 case extract x i=>simp only[aW,h x (by simp[Op.operands])]
 case call c=>
  simp only[aW]
  split
  ·rw[vJ λy hy=>h y (by simp only[Op.operands,Call.operands];exact Array.mem_append.2 (.inr (e1p.1 hy)))]
  ·rfl
variable {st st2:St}
theorem oA {o:Oper}{i:Nat}{r:CR}{c:Prop}{x:AV}{s:St}(h:nD P T i o.op o.type st r=some (c,x,s))(he:∀y,y∈o.op.operands->st2.ev y=st.ev y)
  (ha:∀id,id∈(fpV o i st r).1++(fpV o i st r).2->st2.hp id=st.hp id):∃s2,nD P T i o.op o.type st2 r=some (c,x,s2)/\Lo (fpV o i st r).2 st st2 s s2:=by
 have hp:∀{op:Op} {c x s},(∀y,y∈op.operands->st2.ev y=st.ev y)->(aW T op st.ev).map (λp=>(p.1,p.2,st))=some (c,x,s)->∃s2,(aW T op st2.ev).map (λp=>(p.1,p.2,st2))=some (c,x,s2)/\Lo [] st st2 s s2:=by
  intro op c x s he h
  rw[a8v (ev:=st.ev) (ev2:=st2.ev) op (λ_=>rfl) he]
  simp only[e0u]at h⊢
  obtain⟨⟨c',x'⟩,h1,h2⟩:=h
  cases h2
  exact⟨st2,⟨_,h1,rfl⟩,e4y (by simp)⟩
 have hargs:∀{cl:Call},(∀y,y∈(Op.call cl).operands->st2.ev y=st.ev y)->cl.args.toList.map st2.ev=cl.args.toList.map st.ev:=λ{cl} he=>e2s λy hy=>he y (by
  simp only[Op.operands,Call.operands];exact Array.mem_append.2 (.inr (e1p.1 hy)))
 obtain⟨dst,op,ty,pos,aft,gd⟩:=o
 simp only at h he ha⊢
 unfold nD at h⊢
 unfold fpV at ha⊢
 split at h
 ·rename_i t y
  have hy:=he y (by simp[Op.operands])
  simp only[e7o]at ha
  simp only[hy]
  split at h
  ·rw[b8b ha]
   simp only[e0u]at h⊢
   obtain⟨⟨c',x'⟩,h1,h2⟩:=h
   cases h2
   exact⟨st2,⟨_,h1,rfl⟩,e4y (by simp)⟩
  ·cases h
 ·exact a9v (by simp) (λid hid=>ha id (by simpa using hid)) h
 ·rename_i t y
  have hy:=he y (by simp[Op.operands])
  simp only[hy]
  exact c2i (by simp) (λid hid=>ha id (by simpa using hid)) h
 ·rename_i t len parts
  exact sV (λp hp=>he p.2 (by simp only[Op.operands,List.mem_toArray];exact e0l.2 ⟨p,hp,rfl⟩)) rfl (λid hid=>ha id (by simpa using hid)) h
 ·rename_i t l k
  have hl:=he l (by simp[Op.operands])
  have hk:=he k (by simp[Op.operands])
  simp only[hl,hk]
  exact wM (by simp) (λid hid=>ha id (by simpa using hid)) h
 ·rename_i t ad y
  have had:=he ad (by simp[Op.operands])
  have hy:=he y (by simp[Op.operands])
  simp only[had,hy,e0u]at h⊢
  obtain⟨⟨c',s'⟩,h1,h2⟩:=h
  cases h2
  obtain⟨s2,h3,h4⟩:=b5b rfl (λid hid=>ha id (by simpa using hid)) h1
  exact⟨s2,⟨_,h3,rfl⟩,h4⟩
 ·exact c4a (by simp) (λid hid=>ha id (by simpa using hid)) h
 ·rename_i t y hi mx
  have hy:=he y (by simp[Op.operands])
  have hh:pP st2.ev hi=pP st.ev hi:=eX λz e=>he z (by simp[Op.operands,e])
  have hm:pP st2.ev (some mx)=pP st.ev (some mx):=eX λz e=>he z (by cases e;simp[Op.operands])
  simp only[hy,hh,hm]
  split at h
  ·rename_i id k off n ey
   split at h
   ·exact a9c rfl (λid hid=>ha id (by simpa using hid)) h
   ·cases h
  ·rename_i hne
   obtain⟨s2,h1,h2⟩:=hp he h
   refine⟨s2,h1,?_⟩
   obtain⟨t1,t2⟩:s=st/\s2=st2:=by
    simp only[e0u]at h h1
    obtain⟨_,_,e⟩:=h
    obtain⟨_,_,e'⟩:=h1
    simp only[e0i]at e e'
    exact⟨e.2.2.symm,e'.2.2.symm⟩
   subst t1 t2
   exact e4y λid hid=>ha id (by simpa using hid)
 ·rename_i t y
  have hy:=he y (by simp[Op.operands])
  simp only[hy]
  split at h
  ·rename_i id k j q ey
   exact a0g (λid hid=>ha id (by
    simp only[ey]
    simpa using hid)) h
  ·rename_i hne
   obtain⟨s2,h1,h2⟩:=hp he h
   exact⟨s2,h1,h2⟩
 ·rename_i t y hi
  have hy:=he y (by simp[Op.operands])
  have hh:pP st2.ev (some hi)=pP st.ev (some hi):=eX λz e=>he z (by cases e;simp[Op.operands])
  simp only[hy,hh]
  split at h
  ·rename_i id k j q ey
   split at h
   ·exact a3o (λid hid=>ha id (by
     simp only[ey]
     simpa using hid)) h
   ·cases h
  ·rename_i hne
   obtain⟨s2,h1,h2⟩:=hp he h
   exact⟨s2,h1,h2⟩
 ·exact a2v (by simp) (λid hid=>ha id (by simpa using hid)) h
 ·rename_i t m k v
  rw[he m (by simp[Op.operands]),he k (by simp[Op.operands]),he v (by simp[Op.operands])]
  exact b5k (λ_ hid=>hid) (λid hid=>ha id (by simpa using hid)) h
 ·rename_i t m k v
  rw[he m (by simp[Op.operands]),he k (by simp[Op.operands]),he v (by simp[Op.operands])]
  exact b5k (λ_ hid=>hid) (λid hid=>ha id (by simpa using hid)) h
 ·rename_i t m k co
  rw[he m (by simp[Op.operands]),he k (by simp[Op.operands])]
  exact b8f (λid hid=>ha id (by simpa using hid)) h
 ·rename_i t y
  rw[he y (by simp[Op.operands])]
  exact zT rfl (λid hid=>ha id (by simpa using hid)) h
 ·rename_i y
  rw[he y (by simp[Op.operands])]
  exact b1d (λid hid=>ha id (by simpa using hid)) h
 ·rename_i t m k
  have hm:=he m (by simp[Op.operands])
  have hk:=he k (by simp[Op.operands])
  simp only[hm,hk]
  exact b8k (by simp) (λid hid=>by simp[hid]) (λid hid=>ha id (by simpa using hid)) h
 ·rename_i t m s0 v
  have hm:=he m (by simp[Op.operands])
  have hs:=he s0 (by simp[Op.operands])
  have hx:=he v (by simp[Op.operands])
  simp only[hm,hs,hx]
  exact b8l (λid hid=>by simp[hid]) (λid hid=>ha id (by simpa using hid)) h
 ·rename_i cl
  obtain⟨callee,cargs,ctys⟩:=cl
  have hl:=hargs he
  simp only at h ha hl⊢
  split at h
  ·split at h
   ·rename_i s0 y t u e1 e2
    simp only[e1,e0o,e3c,e5c,and_true]at hl ha⊢
    simp only[hl.1,hl.2]
    cases hb:Nat.beq t u with
    |false=>rw[hb]at h;cases h
    |true=>
     rw[hb]at h
     simp only[e0q]at h⊢
     exact a7l rfl (λid hid=>ha id (by simpa using hid)) h
   ·cases h
  ·split at h
   ·rename_i s0 y t u e1 e2
    simp only[e1,e0o,e3c,e5c,and_true]at hl ha⊢
    simp only[hl.1,hl.2]
    cases hb:Nat.beq t u with
    |false=>rw[hb]at h;cases h
    |true=>
     rw[hb]at h
     simp only[e0q]at h⊢
     exact b7b rfl (λid hid=>ha id (by simpa using hid)) h
   ·cases h
  ·split at h
   ·rename_i y t e1 e2
    simp only[e1,e0o,e3c,e5c,and_true]at hl ha⊢
    simp only[hl]
    exact b0u rfl (λid hid=>ha id (by simpa using hid)) h
   ·cases h
  ·split at h
   ·rename_i m k t u e1 e2
    simp only[e1,e0o,e3c,e5c,and_true]at hl ha⊢
    simp only[hl.1,hl.2]
    refine c2u (λid hid=>?_) (λid hid=>ha id (by simpa using hid)) h
    simp[hid]
   ·cases h
  ·rename_i f
   have hf:st2.ev f=st.ev f:=he f (by simp[Op.operands,Call.operands])
   simp only[hf,hl]
   exact b6v ha h
  ·obtain⟨s2,h1,h2⟩:=hp he h
   refine⟨s2,h1,?_⟩
   split<;>first|exact h2|skip
   all_goals simp_all
 ·obtain⟨s2,h1,h2⟩:=hp he h
  refine⟨s2,h1,?_⟩
  split<;>first|exact h2|skip
  all_goals simp_all
theorem b7t {o:Oper}{i:Nat}{r:CR}(he:∀y,y∈o.op.operands->st2.ev y=st.ev y)
  (ha:∀id,id∈(fpV o i st r).1++(fpV o i st r).2->st2.hp id=st.hp id):fpV o i st2 r=fpV o i st r:=by
 have hargs:∀{cl:Call},(∀y,y∈(Op.call cl).operands->st2.ev y=st.ev y)->cl.args.toList.map st2.ev=cl.args.toList.map st.ev:=λ{cl} he=>e2s λy hy=>he y (by
  simp only[Op.operands,Call.operands];exact Array.mem_append.2 (.inr (e1p.1 hy)))
 obtain⟨dst,op,ty,pos,aft,gd⟩:=o
 simp only at he
 unfold fpV at ha⊢
 simp only at ha⊢
 split
 ·rename_i t y
  rw[he y (by simp[Op.operands])]
 ·rfl
 ·rfl
 ·rfl
 ·rename_i t len parts
  have hm:(parts.toList.map λp=>st2.ev p.2)=parts.toList.map λp=>st.ev p.2:=e2s λp hp=>he p.2 (by simp only[Op.operands,List.mem_toArray];exact e0l.2 ⟨p,hp,rfl⟩)
  rw[hm,eZ _ λid hid=>ha id (by simp[hid])]
 ·rename_i t ad y
  rw[he ad (by simp[Op.operands]),he y (by simp[Op.operands]),eZ _ λid hid=>ha id (by simp only[List.nil_append,e0x];exact .inr hid)]
 ·rfl
 ·rename_i t y hi mx
  rw[he y (by simp[Op.operands])]
 ·rename_i t y
  rw[he y (by simp[Op.operands])]
 ·rename_i t y hi
  rw[he y (by simp[Op.operands])]
 ·rfl
 ·rename_i t m k v
  rw[he m (by simp[Op.operands])]
 ·rename_i t m k v
  rw[he m (by simp[Op.operands])]
 ·rename_i t m k co
  rw[he m (by simp[Op.operands])]
 ·rename_i t y
  rw[he y (by simp[Op.operands])]
 ·rename_i y
  rw[he y (by simp[Op.operands])]
 ·rename_i t m k
  rw[he m (by simp[Op.operands])]
 ·rename_i t m s v
  rw[he m (by simp[Op.operands]),he s (by simp[Op.operands])]
 ·rename_i cl
  have hl:=hargs he
  split
  ·rw[hl]
  ·rw[hl]
  ·rw[hl]
  ·rw[hl]
  ·rename_i f hc
   have hf:st2.ev f=st.ev f:=he f (by simp[Op.operands,Call.operands,hc])
   rw[hf,hl]
   have hv:∀id,id∈(fC st.hp i (st.ev f) (cl.args.toList.map st.ev) r).1++(fC st.hp i (st.ev f) (cl.args.toList.map st.ev) r).2->st2.hp id=st.hp id:=by
    intro id hid
    refine ha id ?_
    simp only[hc]
    exact hid
   clear ha
   cases r with
   |ls=>rfl
   |dv r=>
    simp only[fC]at hv⊢
    split
    ·rename_i g l e
     rw[e]at hv
     rw[eZ _ λid hid=>hv id (by cases r.flat<;>simp[hid])]
    ·rfl
   |ip x' y=>
    simp only[fC]at hv⊢
    rw[eZ _ λid hid=>hv id (by simp[hid])]
   |nw R y=>
    simp only[fC]at hv⊢
    split
    ·rename_i g l e
     rw[e]at hv
     rw[eZ _ λid hid=>hv id (by simp[hid])]
    ·rfl
   |ln r=>
    simp only[fC]at hv⊢
    split
    ·rename_i g l e
     rw[e]at hv
     rw[eZ _ λid hid=>hv id (by simp[hid])]
    ·rfl
  ·rfl
 ·rfl
end
def lE:List Operand->List Nat
  |[]=>[]
  | .tmp t::l=>t::lE l
  |_::l=>lE l
def c3g (ol:List Oper)(o:Oper):List Nat:=match o.guard with
  |some (j,_)=>match ol[j]? with
    |some oj=>oj.dst.toList
    |none=>[]
  |none=>[]
def lN (i:Nat):List Nat->Bool
  |[]=>false
  |j::l=>Nat.beq i j||lN i l
def c0i:List Nat->List Nat->Bool
  |[],_=>true
  |i::l,m=> !lN i m&&c0i l m
def noD (d:Option Nat)(l:List Nat):Bool:=match d with
  |some d=> !lN d l
  |none=>true
def iX (ol:List Oper)(a b:Oper):Bool:=noD a.dst (lE b.op.operands.toList)&&noD a.dst (c3g ol b)&&noD b.dst (lE a.op.operands.toList)&&noD b.dst (c3g ol a)&&noD a.dst b.dst.toList
def lkB (a b:Oper):Bool:=match a.op,b.op with
  | .lookup _ _ _ false,.mapEntry ..=>true
  | .mapEntry ..,.lookup _ _ _ false=>true
  |_,_=>false
def pr (ol:List Oper)(e:Tr)(i:Nat)(o:Oper)(rd wr:List Nat):Bool:=
  a1w o e.i||(iX ol e.o o&&c0i e.wr (rd++wr)&&c0i wr (e.rd++e.wr))||c7j ol 20 i e.i||(iX ol e.o o&&lkB e.o o)
def xZ (ops:Array Oper):Chk:=⟨fpV,λi o rd wr tr=>qW o i&&tr.all λe=>pr ops.toList e i o rd wr⟩
theorem eS {i:Nat}:∀{l:List Nat},lN i l=true↔i∈l
 |[]=>by simp[lN]
 |j::l=>by
  simp only[lN,e3d,e0b,eS (l:=l)]
  exact⟨λh=>h.imp d9s id,λh=>h.imp (λe=>by rw[e];exact e3k j) id⟩
theorem eW {i:Nat}{l:List Nat}:(!lN i l)=true↔i∉l:=by
 rw[e5i,<-e5e,eS]
theorem pV:∀{l m:List Nat},c0i l m=true↔∀i,i∈l->i∉m
 |[],m=>by simp[c0i]
 |i::l,m=>by simp[c0i,e0d,pV (l:=l),eW,<-eS]
theorem wP {d:Option Nat}{l:List Nat}:noD d l=true↔∀i,d=some i->i∉l:=by
 unfold noD
 cases d with
 |none=>simp
 |some d=>simp only[eW,e0a,forall_eq']
theorem a5m {t:Nat}:∀{l:List Operand},Operand.tmp t∈l->t∈lE l
 |x::l,h=>by
  rcases e0b.1 h with e|h
  ·subst e;exact d9y ..
  ·have:=a5m h
   cases x<;>simp[lE,this]
inductive Rch (ops:Array Oper):Nat->Nat->Prop
  |one {i:Nat} {o:Oper} {e:Go.Edge}:ops[i]?=some o->e∈o.after->Region.binds .any e=true->Rch ops i e.on
  |step {i j:Nat} {o:Oper} {e:Go.Edge}:ops[i]?=some o->e∈o.after->Region.binds .any e=true->Rch ops e.on j->Rch ops i j
theorem a1x {ops:Array Oper}{i j:Nat}{o:Oper}(hi:ops[i]?=some o)(h:a1w o j=true):Rch ops i j:=by
 unfold a1w at h
 simp only[e5d,e0d]at h
 obtain⟨e,he,h1,h2⟩:=h
 obtain rfl:=d9s h1
 exact .one hi (e1p.1 he) h2
theorem vO {ops:Array Oper}:∀{n i j:Nat},c7j ops.toList n i j=true->Rch ops i j
 |n+1,i,j,h=>by
  unfold c7j at h
  split at h
  ·rename_i o ho
   rw[e0s]at ho
   simp only[e5d,e0d,e3d]at h
   obtain⟨e,he,h1,h2⟩:=h
   rcases h2 with h2|h2
   ·obtain rfl:=d9s h2
    exact .one ho (e1p.1 he) h1
   ·exact .step ho (e1p.1 he) h1 (vO h2.2)
  ·cases h
section
variable {P:Program} {T:Nat->Option TI} {ol:List Oper} {base:Nat}
theorem dF (st:St)(d:Option Nat)(x:AV)(t:Nat):(st.put d x).tm t=if d=some t then x else st.tm t:=by
 cases d with
 |none=>simp[St.put]
 |some d=>
  show(bif Nat.beq t d then x else st.tm t)=_
  by_cases e:d=t
  ·subst e;simp[e3k]
  ·rw[cG (λh=>e h.symm),d9z (λh=>e (e4p h))];rfl
theorem dE (st:St)(d:Option Nat)(x:AV):(st.put d x).hp=st.hp:=by cases d<;>rfl
theorem iQ (st:St)(d:Option Nat)(x:AV):(st.put d x).n=st.n:=by cases d<;>rfl
theorem pW {st st2:St}(hn:st2.n=st.n){l:List Operand}(ht:∀t,t∈lE l->st2.tm t=st.tm t):∀y,y∈l->st2.ev y=st.ev y:=by
 intro y hy
 cases y with
 |tmp t=>simp only[St.ev,hn,ht t (a5m hy)]
 |_=>rfl
theorem fZ {st st2:St}(hn:st2.n=st.n){o:Oper}(ht:∀t,t∈c3g ol o->st2.tm t=st.tm t):gG ol o st2=gG ol o st:=by
 unfold gG
 unfold c3g at ht
 cases hg:o.guard with
 |none=>rfl
 |some p=>
  obtain⟨j,w⟩:=p
  simp only[hg]at ht⊢
  cases hj:ol[j]? with
  |none=>rfl
  |some oj=>
   simp only[hj]at ht⊢
   cases hd:oj.dst with
   |none=>rfl
   |some d=>
    simp only[hd]at ht⊢
    rw[hn,ht d (by simp)]
theorem One.local {i:Nat}{o:Oper}{st st2:St}{r:CR}{s:St}(h:One P T ol base i o st r s)(hn:st2.n=st.n)(hg:∀t,t∈c3g ol o->st2.tm t=st.tm t)(he:∀t,t∈lE o.op.operands.toList->st2.tm t=st.tm t)
  (ha:∀id,id∈(fpV o (base+i) st r).1++(fpV o (base+i) st r).2->st2.hp id=st.hp id):
  ∃x s0 s02,s=s0.put o.dst x/\One P T ol base i o st2 r (s02.put o.dst x)/\Lo (fpV o (base+i) st r).2 st st2 s0 s02/\fpV o (base+i) st2 r=fpV o (base+i) st r:=by
 have hev:∀y,y∈o.op.operands->st2.ev y=st.ev y:=λy hy=>pW hn he y (e1p.2 hy)
 have hfp:=b7t (i:=base+i) (r:=r) hev ha
 cases h with
 |skip hw=>exact⟨_,st,st2,rfl,.skip ((fZ hn hg).trans hw),e4y λid hid=>ha id (e0n _ hid),hfp⟩
 |run _ c x s0 hw hs hc hb=>
  obtain⟨s02,h1,h2⟩:=oA hs hev ha
  exact⟨x,s0,s02,rfl,.run r c x s02 ((fZ hn hg).trans hw) h1 hc hb,h2,hfp⟩
theorem eQ {C:Chk}{i:Nat}{o:Oper}{st:St}{r:CR}{tr tr':List Tr}:chk (some C) base i o st r tr (· =tr')↔C.ok i o (C.fp o (base+i) st r).1 (C.fp o (base+i) st r).2 tr=true/\tr'=⟨i,o,(C.fp o (base+i) st r).1,(C.fp o (base+i) st r).2⟩::tr:=by
 unfold chk
 simp only
 split
 ·rename_i h;simp only[h,true_and];exact⟨λe=>e.symm,λe=>e.symm⟩
 ·rename_i h;simp[h]
variable {ops:Array Oper}
theorem rZ {i:Nat}{o:Oper}{rd wr:List Nat}{tr:List Tr}:(xZ ops).ok i o rd wr tr=true↔qW o i=true/\∀e,e∈tr->pr ops.toList e i o rd wr=true:=by
 show(qW o i&&tr.all λe=>pr ops.toList e i o rd wr)=true↔_
 rw[e0d,e1d]
theorem Run.perm:∀{l:List (Nat×Oper)} {tr tr':List Tr} {st st':St},(∀e,e∈tr'->e∈tr)->Run P T (some (xZ ops)) ol base l tr st st'->Run P T (some (xZ ops)) ol base l tr' st st'
 |[],tr,tr',st,st',_,h=>by cases h;exact .nil _ _
 |(i,o)::l,tr,tr',st,st',hp,h=>by
  cases h with
  |cons _ _ _ _ _ r s _ tr1 h1 h2 h3=>
   obtain⟨h4,rfl⟩:=eQ.1 h2
   refine .cons _ _ _ _ _ r s _ _ h1 (eQ.2 ⟨?_,rfl⟩) (Run.perm ?_ h3)
   ·rw[rZ]at h4⊢
    exact⟨h4.1,λe he=>h4.2 e (hp e he)⟩
   ·intro e he
    rcases e0b.1 he with e1|he
    ·exact e1▸d9y ..
    ·exact d9v _ (hp e he)
theorem St.ext' {s s':St}(h1:s.n=s'.n)(h2:s.next=s'.next)(h5:s.gh=s'.gh)(h3:∀t,s.tm t=s'.tm t)(h4:∀id,s.hp id=s'.hp id):s=s':=by
 cases s;cases s'
 simp only[St.mk.injEq]
 exact⟨h1,h2,funext h3,funext h4,h5⟩
def Hpl (hp hp2:Nat->Option Res):Prop:=∀id,hp2 id=hp id\/∃kt f l g,hp id=some (.mp true kt f)/\hp2 id=some (.me true kt f l g)
theorem a5i {st st2:St}(h:Hpl st.hp st2.hp)(m:AV):b2q st2 false m=b2q st false m:=by
 unfold b2q
 split
 ·rename_i id
  rcases h id with e|⟨kt,f,l,g,e1,e2⟩
  ·rw[e]
  ·rw[e1,e2]
 ·rfl
 ·rfl
theorem b8d {t:Nat}{m k:AV}{co:Bool}{st:St}{c:Prop}{x:AV}{s:St}(h:pM T t m k co st=some (c,x,s)):s=st:=by
 unfold pM at h
 split at h
 ·split at h
  ·revert h
   cases wB _ _ with
   |false=>intro h;cases h
   |true=>intro h;cases h;rfl
  ·cases h
 ·cases h
theorem wH {i:Nat}{o:Oper}{st st2:St}{r:CR}{s:St}{t:Nat}{m k:Operand}(h:One P T ol base i o st r s)(ho:o.op= .lookup t m k false)(hn:st2.n=st.n)(hg:∀t,t∈c3g ol o->st2.tm t=st.tm t)
  (he:∀t,t∈lE o.op.operands.toList->st2.tm t=st.tm t) (hl:∀y,b2q st2 false y=b2q st false y):∃x,s=st.put o.dst x/\One P T ol base i o st2 r (st2.put o.dst x):=by
 have hev:∀y,y∈o.op.operands->st2.ev y=st.ev y:=λy hy=>pW hn he y (e1p.2 hy)
 cases h with
 |skip hw=>exact⟨_,rfl,.skip ((fZ hn hg).trans hw)⟩
 |run _ c x s0 hw hs hc hb=>
  have e1:st2.ev m=st.ev m:=hev m (by rw[ho];simp[Op.operands])
  have e2:st2.ev k=st.ev k:=hev k (by rw[ho];simp[Op.operands])
  have hs1:pM T t (st.ev m) (st.ev k) false st=some (c,x,s0):=by rw[ho]at hs;exact hs
  have e3:=b8d hs1
  subst e3
  refine⟨x,rfl,.run r c x st2 ((fZ hn hg).trans hw) ?_ hc hb⟩
  rw[ho]
  show pM T t (st2.ev m) (st2.ev k) false st2=some (c,x,st2)
  rw[e1,e2]
  unfold pM at hs1⊢
  rw[hl]
  revert hs1
  split
  ·split
   ·cases wB _ _ with
    |false=>intro h;cases h
    |true=>simp only[e0q];intro h;cases h;rfl
   ·intro h;cases h
  ·intro h;cases h
theorem a5n {i:Nat}{o:Oper}{st:St}{r:CR}{s:St}{t:Nat}{m k:Operand}(h:One P T ol base i o st r s)(ho:o.op= .mapEntry t m k):Hpl st.hp s.hp:=by
 cases h with
 |skip hw=>exactλid=> .inl (by rw[dE])
 |run _ c x s0 hw hs hc hb=>
  have hs1:zG T (base+i) t (st.ev m) (st.ev k) st=some (c,x,s0):=by rw[ho]at hs;exact hs
  unfold zG at hs1
  split at hs1
  ·rename_i kt id h1 h2
   split at hs1
   ·rename_i kt' f l hid hl
    revert hs1
    cases(wB _ _&&_)with
    |false=>intro h;cases h
    |true=>
     simp only[e0q]
     intro h;cases h
     intro j
     rw[dE]
     by_cases e:j=id
     ·subst e;exact .inr ⟨kt',f,l,base+i,hid,cQ _ _ _⟩
     ·exact .inl (bW _ _ e)
   ·cases hs1
  ·cases hs1
theorem c5k {i j:Nat}{oi oj:Oper}{st s1 s2:St}{r1 r2:CR}(hj:One P T ol base j oj st r1 s1)(hi:One P T ol base i oi s1 r2 s2)(hlk:lkB oj oi=true)(hap:iX ol oj oi=true):
  ∃s3,One P T ol base i oi st r2 s3/\One P T ol base j oj s3 r1 s2/\fpV oi (base+i) st r2=fpV oi (base+i) s1 r2/\fpV oj (base+j) s3 r1=fpV oj (base+j) st r1:=by
 simp only[iX,e0d,wP]at hap
 obtain⟨⟨⟨⟨a1,a2⟩,a3⟩,a4⟩,a5⟩:=hap
 have a5':∀t,oj.dst=some t->oi.dst≠some t:=λt h1 h2=>a5 t h1 (by rw[h2];simp)
 unfold lkB at hlk
 split at hlk
 ·rename_i tj mj kj ti mi ki hoj hoi
  obtain⟨x,e1,_⟩:=wH (st2:=st) hj hoj rfl (λ_ _=>rfl) (λ_ _=>rfl) (λ_=>rfl)
  have q1:∀t,t∈lE oi.op.operands.toList->st.tm t=s1.tm t:=λt ht=>by rw[e1,dF,d9z (λe=>a1 t e ht)]
  have q2:∀t,t∈c3g ol oi->st.tm t=s1.tm t:=λt ht=>by rw[e1,dF,d9z (λe=>a2 t e ht)]
  obtain⟨xi,si,si2,e2,hi2,loi,fpi⟩:=One.local (st2:=st) hi (by rw[e1,iQ]) q2 q1 (λid _=>by rw[e1,dE])
  have hh:=a5n hi2 hoi
  have t2:∀t,(si2.put oi.dst xi).tm t=if oi.dst=some t then xi else st.tm t:=λt=>by rw[dF,loi.t2.1]
  obtain⟨x',e3,hj2⟩:=wH (st2:=si2.put oi.dst xi) hj hoj (by rw[iQ];exact loi.t2.2.1) (λt ht=>by rw[t2,d9z (λe=>a4 t e ht)]) (λt ht=>by rw[t2,d9z (λe=>a3 t e ht)]) (λy=>a5i hh y)
  refine⟨_,hi2,?_,fpi,?_⟩
  ·have:s2=(si2.put oi.dst xi).put oj.dst x':=by
    rw[e2]
    refine St.ext' ?_ ?_ ?_ (λt=>?_) (λid=>?_)
    ·rw[iQ,iQ,iQ,loi.t.2.1,loi.t2.2.1,e3,iQ]
    ·rw[e3a,e3a,e3a,loi.t.2.2.1,loi.t2.2.2.1,e3,e3a]
    ·rw[cM,cM,cM,loi.t.2.2.2,loi.t2.2.2.2,e3,cM]
    ·simp only[dF]
     rw[loi.t.1,loi.t2.1,e3,dF]
     by_cases h1:oj.dst=some t
     ·rw[e0c h1,d9z (a5' t h1),e0c h1]
     ·rw[d9z h1,d9z h1]
    ·rw[dE,dE,dE]
     by_cases hw:id∈(fpV oi (base+i) s1 r2).2
     ·exact(loi.a id hw).symm
     ·rw[loi.b id hw,loi.c id hw,e3,dE]
   rw[this];exact hj2
  ·have:(si2.put oi.dst xi).ev mj=st.ev mj:=pW (l:=oj.op.operands.toList) (by rw[iQ];exact loi.t2.2.1) (λt ht=>by rw[t2,d9z (λe=>a3 t e ht)]) mj (by rw[hoj];simp[Op.operands])
   unfold fpV
   rw[hoj]
   simp only[this]
 ·rename_i tj mj kj ti mi ki hoj hoi
  have hh:=a5n hj hoj
  obtain⟨xj,sj,sj2,e1,hj1,loj,fpj0⟩:=One.local (st2:=st) hj rfl (λ_ _=>rfl) (λ_ _=>rfl) (λ_ _=>rfl)
  have t1:∀t,s1.tm t=if oj.dst=some t then xj else st.tm t:=λt=>by rw[e1,dF,loj.t.1]
  have n1:s1.n=st.n:=by rw[e1,iQ,loj.t.2.1]
  obtain⟨y,e2,hi2⟩:=wH (st2:=st) hi hoi n1.symm (λt ht=>by rw[t1,d9z (λe=>a2 t e ht)]) (λt ht=>by rw[t1,d9z (λe=>a1 t e ht)]) (λy=>(a5i hh y).symm)
  obtain⟨xk,sk,sk2,e3,hj2,lok,fpk⟩:=One.local (st2:=st.put oi.dst y) hj (by rw[iQ]) (λt ht=>by rw[dF,d9z (λe=>a4 t e ht)]) (λt ht=>by rw[dF,d9z (λe=>a3 t e ht)]) (λid _=>by rw[dE])
  refine⟨_,hi2,?_,?_,fpk⟩
  ·have:s2=sk2.put oj.dst xk:=by
    rw[e2]
    refine St.ext' ?_ ?_ ?_ (λt=>?_) (λid=>?_)
    ·rw[iQ,iQ,lok.t2.2.1,iQ,e3,iQ,lok.t.2.1]
    ·rw[e3a,e3a,lok.t2.2.2.1,e3a,e3,e3a,lok.t.2.2.1]
    ·rw[cM,cM,lok.t2.2.2.2,cM,e3,cM,lok.t.2.2.2]
    ·simp only[dF]
     rw[lok.t2.1,e3,dF,dF,lok.t.1]
     by_cases h1:oj.dst=some t
     ·rw[e0c h1,d9z (a5' t h1),e0c h1]
     ·rw[d9z h1,d9z h1]
    ·rw[dE,dE,e3,dE]
     by_cases hw:id∈(fpV oj (base+j) st r1).2
     ·exact(lok.a id hw).symm
     ·rw[lok.b id hw,lok.c id hw,dE]
   rw[this];exact hj2
  ·have:st.ev mi=s1.ev mi:=pW (l:=oi.op.operands.toList) n1.symm (λt ht=>by rw[t1,d9z (λe=>a1 t e ht)]) mi (by rw[hoi];simp[Op.operands])
   unfold fpV
   rw[hoi]
   simp only[this]
 ·cases hlk
theorem b8a {a b:Oper}(h:lkB a b=true):lkB b a=true:=by
 unfold lkB at h⊢
 split at h
 ·rename_i e1 e2;rw[e1,e2]
 ·rename_i e1 e2;rw[e1,e2]
 ·cases h
theorem d9e {i j:Nat}{oi oj:Oper}{l:List (Nat×Oper)}{tr:List Tr}{st st':St}(hol:ol=ops.toList)(hi:ops[i]?=some oi)(hn:¬Rch ops i j)
  (h:Run P T (some (xZ ops)) ol base ((j,oj)::(i,oi)::l) tr st st'):Run P T (some (xZ ops)) ol base ((i,oi)::(j,oj)::l) tr st st':=by
 cases h with
 |cons _ _ _ _ _ r1 s1 _ tr1 hj hcj h=>
 cases h with
 |cons _ _ _ _ _ r2 s2 _ tr2 hi1 hci hl=>
 obtain⟨okj,rfl⟩:=eQ.1 hcj
 obtain⟨oki,rfl⟩:=eQ.1 hci
 rw[rZ]at okj oki
 have hfpd:∀o i st r,(xZ ops).fp o i st r=fpV o i st r:=λ_ _ _ _=>rfl
 simp only[hfpd]at okj oki hl
 have hpr:=oki.2 _ (d9y ..)
 have hcase:(iX ops.toList oj oi=true/\lkB oj oi=true)\/(iX ops.toList oj oi=true/\c0i (fpV oj (base+j) st r1).2 ((fpV oi (base+i) s1 r2).1++(fpV oi (base+i) s1 r2).2)=true/\c0i (fpV oi (base+i) s1 r2).2 ((fpV oj (base+j) st r1).1++(fpV oj (base+j) st r1).2)=true):=by
  simp only[pr,e3d,e0d]at hpr
  rcases hpr with((h|h)|h)|h
  ·exact absurd (a1x hi h) hn
  ·exact .inr ⟨h.1.1,h.1.2,h.2⟩
  ·exact absurd (vO h) hn
  ·exact .inl h
 have hcomm:iX ops.toList oj oi=true->iX ops.toList oi oj=true:=by
  intro hap
  simp only[iX,e0d,wP]at hap⊢
  obtain⟨⟨⟨⟨a1,a2⟩,a3⟩,a4⟩,a5⟩:=hap
  refine⟨⟨⟨⟨a3,a4⟩,a1⟩,a2⟩,λt h1 h2=>?_⟩
  have h2:oj.dst=some t:=by simpa using h2
  exact a5 t h2 (by rw[h1];simp)
 rcases hcase with⟨hap,hlk⟩|hap
 ·obtain⟨s3,hi2,hj2,fpi,fpj⟩:=c5k hj hi1 hlk (hol▸hap)
  refine .cons _ _ _ _ _ r2 _ _ _ hi2 (eQ.2 ⟨?_,rfl⟩) (.cons _ _ _ _ _ r1 _ _ _ hj2 (eQ.2 ⟨?_,rfl⟩) ?_)
  ·rw[rZ,hfpd,fpi]
   exact⟨oki.1,λe he=>oki.2 e (d9v _ he)⟩
  ·rw[rZ,hfpd,hfpd,fpj,fpi]
   refine⟨okj.1,λe he=>?_⟩
   rcases e0b.1 he with rfl|he
   ·simp only[pr,hcomm hap,b8a hlk,Bool.and_self,Bool.or_true]
   ·exact okj.2 e he
  ·rw[hfpd,hfpd,fpj,fpi]
   refine Run.perm ?_ hl
   intro e he
   simp only[e0b]at he⊢
   rcases he with h|h|h
   ·exact .inr (.inl h)
   ·exact .inl h
   ·exact .inr (.inr h)
 obtain⟨hap,hd1,hd2⟩:=hap
 have hap0:=hap
 rw[<-hol]at hap
 simp only[iX,e0d,wP]at hap
 obtain⟨⟨⟨⟨a1,a2⟩,a3⟩,a4⟩,a5⟩:=hap
 rw[pV]at hd1 hd2
 obtain⟨x0,s0,_,e1,_,lo0,_⟩:=One.local hj rfl (λ_ _=>rfl) (λ_ _=>rfl) (λ_ _=>rfl)
 obtain⟨xi,si,si2,e2,hi2,loi,fpi⟩:=One.local (st2:=st) hi1 (by rw[e1,iQ];exact lo0.t.2.1.symm)
  (λt ht=>by rw[e1,dF,d9z (λe=>a2 t e ht),lo0.t.1]) (λt ht=>by rw[e1,dF,d9z (λe=>a1 t e ht),lo0.t.1])
  (λid hid=>by rw[e1,dE];exact(lo0.c id (λhw=>hd1 id hw hid)).symm)
 obtain⟨xj,sj,sj2,e3,hj2,loj,fpj⟩:=One.local (st2:=si2.put oi.dst xi) hj (by rw[iQ];exact loi.t2.2.1)
  (λt ht=>by rw[dF,d9z (λe=>a4 t e ht),loi.t2.1]) (λt ht=>by rw[dF,d9z (λe=>a3 t e ht),loi.t2.1])
  (λid hid=>by rw[dE];exact loi.b id (λhw=>hd2 id hw hid))
 have hs2:sj2.put oj.dst xj=s2:=by
  rw[e2]
  refine St.ext' ?_ ?_ ?_ (λt=>?_) (λid=>?_)
  ·rw[iQ,iQ,loj.t2.2.1,iQ,loi.t2.2.1,loi.t.2.1,e3,iQ,loj.t.2.1]
  ·rw[e3a,e3a,loj.t2.2.2.1,e3a,loi.t2.2.2.1,loi.t.2.2.1,e3,e3a,loj.t.2.2.1]
  ·rw[cM,cM,loj.t2.2.2.2,cM,loi.t2.2.2.2,loi.t.2.2.2,e3,cM,loj.t.2.2.2]
  ·rw[dF,dF,loj.t2.1,dF,loi.t2.1,loi.t.1,e3,dF,loj.t.1]
   by_cases h1:oj.dst=some t
   ·rw[e0c h1]
    have:oi.dst≠some t:=λh2=>a5 t h1 (by rw[h2];simp)
    rw[d9z this,e0c h1]
   ·rw[d9z h1]
    by_cases h2:oi.dst=some t
    ·rw[e0c h2,e0c h2]
    ·rw[d9z h2,d9z h2,d9z h1]
  ·rw[dE,dE]
   by_cases hw:id∈(fpV oj (base+j) st r1).2
   ·rw[loj.a id hw]
    have hwi:id∉(fpV oi (base+i) s1 r2).2:=λh=>hd1 id hw (e0n _ h)
    rw[loi.c id hwi,e3,dE]
   ·rw[loj.b id hw,dE]
    by_cases hwi:id∈(fpV oi (base+i) s1 r2).2
    ·exact loi.a id hwi
    ·rw[loi.b id hwi,loi.c id hwi,e3,dE,loj.c id hw]
 refine .cons _ _ _ _ _ r2 _ _ _ hi2 (eQ.2 ⟨?_,rfl⟩) (.cons _ _ _ _ _ r1 _ _ _ hj2 (eQ.2 ⟨?_,rfl⟩) ?_)
 ·rw[rZ,hfpd,fpi]
  exact⟨oki.1,λe he=>oki.2 e (d9v _ he)⟩
 ·rw[rZ,hfpd,hfpd,fpj,fpi]
  refine⟨okj.1,λe he=>?_⟩
  rcases e0b.1 he with rfl|he
  ·have:iX ops.toList oi oj=true:=by
    rw[<-hol]
    simp only[iX,e0d,wP]
    refine⟨⟨⟨⟨a3,a4⟩,a1⟩,a2⟩,λt h1 h2=>?_⟩
    have h2:oj.dst=some t:=by simpa using h2
    exact a5 t h2 (by rw[h1];simp)
   simp only[pr,this,Bool.true_and,pV.2 hd1,pV.2 hd2,Bool.and_self,Bool.or_true,Bool.true_or]
  ·exact okj.2 e he
 ·rw[hs2,hfpd,hfpd,fpj,fpi]
  refine Run.perm ?_ hl
  intro e he
  simp only[e0b]at he⊢
  rcases he with h|h|h
  ·exact .inr (.inl h)
  ·exact .inl h
  ·exact .inr (.inr h)
theorem tQ {i:Nat}{oi:Oper}(hol:ol=ops.toList)(hi:ops[i]?=some oi):∀{p q:List (Nat×Oper)} {tr:List Tr} {st st':St},(∀x,x∈p->¬Rch ops i x.1)->
  Run P T (some (xZ ops)) ol base (p++(i,oi)::q) tr st st'->Run P T (some (xZ ops)) ol base ((i,oi)::(p++q)) tr st st'
 |[],q,tr,st,st',_,h=>h
 |(j,oj)::p,q,tr,st,st',hp,h=>by
  cases h with
  |cons _ _ _ _ _ r s _ tr1 h1 h2 h3=>
   have:=tQ hol hi (λx hx=>hp x (d9v _ hx)) h3
   exact d9e hol hi (hp _ (d9y ..)) (.cons _ _ _ _ _ r s _ tr1 h1 h2 this)
theorem Run.down:∀{l:List (Nat×Oper)} {tr:List Tr} {st st':St},Run P T (some (xZ ops)) ol base l tr st st'->∀p,p∈l->qW p.2 p.1=true
 |[],_,_,_,_,p,hp=>by cases hp
 |(i,o)::l,tr,st,st',h,p,hp=>by
  cases h with
  |cons _ _ _ _ _ r s _ tr1 h1 h2 h3=>
   obtain⟨ok,_⟩:=eQ.1 h2
   rcases e0b.1 hp with rfl|hp
   ·exact(rZ.1 ok).1
   ·exact Run.down h3 p hp
theorem qL (hT:bQ P T){B:Base}{ro:Option Nat}{n:Nat}{Q:Exit->Act->World->Prop}{d0:List Deferred}(hol:ol=ops.toList){st':St}(hend:∀done E' a' W',(∀k,k<ops.size->k∈done)->(∀k∈done,k<ops.size)->Sat B (frd base done) E' st' a' W'->a'.defers=d0->Q .normal a' W'):
  ∀(bH:Nat) (aQ:Array Bool) (done:List Nat) (l:List (Nat×Oper)) (tr:List Tr) (st:St) (E:Env) (a:Act) (W:World),l.length<=bH->aQ.size=ops.size->(∀k,k<ops.size->(aQ.getD k true=true↔k∈done))->(∀k∈done,k<ops.size)->
   (∀k,k<ops.size->(k∈done↔k∉l.map (·.1)))->(∀p,p∈l->ops[p.1]?=some p.2)->l.Pairwise (λp q=>p.1<q.1)->(∀k o,k∈done->ops[k]?=some o->∀e,e∈o.after->Region.binds .any e=true->e.on∈done)->
   Run P T (some (xZ ops)) ol base l tr st st'->Sat B (frd base done) E st a W->a.defers=d0->wpAnyIn (Fr0 ro) n P .any ops Q bH aQ a W:=by
 have key:∀(aQ:Array Bool) (done:List Nat) (l:List (Nat×Oper)) (tr:List Tr) (st:St) (E:Env) (a:Act) (W:World),aQ.size=ops.size->(∀k,k<ops.size->(aQ.getD k true=true↔k∈done))->(∀k∈done,k<ops.size)->
   (∀k,k<ops.size->(k∈done↔k∉l.map (·.1)))->(∀p,p∈l->ops[p.1]?=some p.2)->l.Pairwise (λp q=>p.1<q.1)->Run P T (some (xZ ops)) ol base l tr st st'->Sat B (frd base done) E st a W->a.defers=d0->
   Region.ready .any ops aQ=[]->Q .normal a W:=by
  intro aQ done l tr st E a W hsz hl hdn hdl hops hpw hrun hs hd hr
  cases l with
  |nil=>
   cases hrun
   exact hend done E a W (λk hk=>(hdl k hk).2 (by simp)) hdn hs hd
  |cons p l=>
   exfalso
   obtain⟨i,o⟩:=p
   have hi:ops[i]?=some o:=hops (i,o) (d9y ..)
   have hisz:=(d9w.1 hi).1
   have:i∈Region.ready .any ops aQ:=by
    rw[e7z]
    refine⟨?_,o,hi,λe he hb=>?_⟩
    ·rw[<-e5e,hl i hisz,hdl i hisz];simp
    ·have hdown:=hrun.down (i,o) (d9y ..)
     unfold qW at hdown
     rw[e1d]at hdown
     have:=hdown e (e1p.2 he)
     simp only[hb,e4z,Bool.false_or]at this
     have hlt:=aG.1 this
     have hksz:e.on<ops.size:=by omega
     have hd:e.on∈done:=by
      rw[hdl e.on hksz]
      intro hm
      rcases e0b.1 hm with h1|h1
      ·simp only at h1;omega
      ·obtain⟨q,hq,h2⟩:=e0l.1 h1
       have:=(e3m.1 hpw).1 q hq
       simp only at this;omega
     have:=(hl e.on hksz).2 hd
     simp only[Array.getD,hsz,hksz,e8c]at this⊢
     exact this
   rw[hr]at this;cases this
 intro bH
 induction bH with
 |zero=>
  intro aQ done l tr st E a W hlen hsz hl hdn hdl hops hpw hcl hrun hs hd
  have hl0:l=[]:=e3e.1 (by omega)
  have hready:Region.ready .any ops aQ=[]:=by
   subst hl0
   refine e6j.2 λi hi=>?_
   obtain⟨h1,o,h2,_⟩:=e7z.1 hi
   have hisz:=(d9w.1 h2).1
   have:=(hl i hisz).2 ((hdl i hisz).2 (by simp))
   rw[h1]at this;cases this
  exact⟨hready,key aQ done l tr st E a W hsz hl hdn hdl hops hpw hrun hs hd hready⟩
 |succ bH ih=>
  intro aQ done l tr st E a W hlen hsz hl hdn hdl hops hpw hcl hrun hs hd
  refine⟨key aQ done l tr st E a W hsz hl hdn hdl hops hpw hrun hs hd,λi hi=>?_⟩
  obtain⟨h1,o,h2,h3⟩:=e7z.1 hi
  have hisz:=(d9w.1 h2).1
  have hnd:i∉done:=λh=>by have:=(hl i hisz).2 h;rw[h1]at this;cases this
  have hil:i∈l.map (·.1):=by
   apply e3q
   intro h;exact hnd ((hdl i hisz).2 h)
  obtain⟨⟨i',o'⟩,hmem,rfl⟩:=e0l.1 hil
  obtain⟨p,q,rfl⟩:=e5w hmem
  have ho:o'=o:=by have:=hops _ hmem;simp only at this h2;rw[h2]at this;exact(e4p this).symm
  subst ho
  simp only at h1 h2 hisz hnd hi hil
  have hdeps:∀e,e∈o'.after->Region.binds .any e=true->e.on∈done:=by
   intro e he hb
   have h4:=h3 e he hb
   by_cases hk:e.on<ops.size
   ·rw[<-hl e.on hk]
    simp only[Array.getD,hsz,hk,e8c]at h4⊢
    exact h4
   ·simp only[Array.getD,hsz,hk,dif_neg,not_false_eq_true]at h4;cases h4
  have hrchd:∀{k j},Rch ops k j->k∈done->j∈done:=by
   intro k j h
   induction h with
   |one h1 h2 h3=>exactλhk=>hcl _ _ hk h1 _ h2 h3
   |step h1 h2 h3 _ ih=>exactλhk=>ih (hcl _ _ hk h1 _ h2 h3)
  have hrch:∀{j},Rch ops i' j->j∈done:=by
   intro j h
   cases h with
   |one h4 h5 h6=>rw[h2]at h4;cases h4;exact hdeps _ h5 h6
   |step h4 h5 h6 h7=>rw[h2]at h4;cases h4;exact hrchd h7 (hdeps _ h5 h6)
  have hb:=tQ hol h2 (λx hx hr=>by
   have hxm:x∈p++(i',o')::q:=e0p _ hx
   have hxs:=(d9w.1 (hops x hxm)).1
   exact(hdl x.1 hxs).1 (hrch hr) (e0l.2 ⟨x,hxm,rfl⟩)) hrun
  cases hb with
  |cons _ _ _ _ _ r s _ tr1 hone hchk hrun2=>
   refine zM hT hs hol h2 hnd hone λE' a' W' hs' hd'=>?_
   have hnodup:∀x,x∈p++q->x.1≠i':=by
    intro x hx e
    rw[e3s]at hpw
    rcases e0x.1 hx with hx|hx
    ·have:=hpw.2.2 x hx (i',o') (d9y ..);simp only at this;omega
    ·have:=(e3m.1 hpw.2.1).1 x hx;simp only at this;omega
   refine ih _ (i'::done) (p++q) tr1 s E' a' W' ?_ (by simpa using hsz) (λk hk=>?_) (λk hk=>?_) (λk hk=>?_) (λx hx=>hops x ?_) ?_ ?_ hrun2 hs' (hd'.trans hd)
   ·simp only[e1f,e0r]at hlen⊢;omega
   ·by_cases e:k=i'
    ·subst e
     simp only[e0b,true_or,iff_true]
     simp[Array.getD,hsz,hk]
    ·rw[getD_set_ne true (λh=>e h.symm),hl k hk];simp[e]
   ·rcases e0b.1 hk with rfl|hk
    ·exact hisz
    ·exact hdn k hk
   ·have:=hdl k hk
    simp only[e0b,e1z,e0o,e0x]at this⊢
    constructor
    ·rintro(rfl|h)
     ·rintro(h|h)
      ·obtain⟨x,hx,e⟩:=e0l.1 h;exact hnodup x (e0p _ hx) e
      ·obtain⟨x,hx,e⟩:=e0l.1 h;exact hnodup x (e0n _ hx) e
     ·have:=this.1 h
      rintro(h|h)
      ·exact this (.inl h)
      ·exact this (.inr (.inr h))
    ·intro h
     by_cases e:k=i'
     ·exact .inl e
     ·refine .inr (this.2 ?_)
      rintro(h1|h1|h1)
      ·exact h (.inl h1)
      ·exact e h1
      ·exact h (.inr h1)
   ·rcases e0x.1 hx with hx|hx
    ·exact e0p _ hx
    ·exact e0n _ (d9v _ hx)
   ·exact hpw.sublist (e7i (e4x _) (e5o ..))
   ·intro k o2 hk h4 e he hb
    rcases e0b.1 hk with rfl|hk
    ·rw[h2]at h4;cases h4;exact d9v _ (hdeps e he hb)
    ·exact d9v _ (hcl k o2 hk h4 e he hb)
theorem a7j {F:Fence}{n:Nat}{Q:Exit->Act->World->Prop}{aQ:Array Bool}{a:Act}{W:World}(hl:∀k,k<ops.size->aQ.getD k true=true)(h:Q .normal a W):∀bH,wpAnyIn F n P .any ops Q bH aQ a W:=by
 have hr:Region.ready .any ops aQ=[]:=by
  refine e6j.2 λi hi=>?_
  obtain⟨h1,o,h2,_⟩:=e7z.1 hi
  have:=hl i (d9w.1 h2).1
  rw[h1]at this;cases this
 intro bH
 cases bH with
 |zero=>exact⟨hr,h⟩
 |succ bH=>exact⟨λ_=>h,λi hi=>by rw[hr]at hi;cases hi⟩
theorem a7k (hT:bQ P T){B:Base}{ro:Option Nat}{n:Nat}{Q:Exit->Act->World->Prop}{d0:List Deferred}(hol:ol=ops.toList){M:Nat}{oM:Oper}(hM:ops[M]?=some oM)(hMs:ops.size=M+1)(hMd:qW oM M=true)(hMr:∀k,k<M->Rch ops M k){st':St}
  (hend:∀done E' a' W' (K:Act->World->Prop),(∀k∈done,k<M)->Sat B (frd base done) E' st' a' W'->a'.defers=d0->(∀a2 W2,Q .normal a2 W2->K a2 W2)->wpOpIn (Fr0 ro) n P ops Q M K a' W'):
  ∀(bH:Nat) (aQ:Array Bool) (done:List Nat) (l:List (Nat×Oper)) (tr:List Tr) (st:St) (E:Env) (a:Act) (W:World),l.length+1<=bH->aQ.size=ops.size->(∀k,k<ops.size->(aQ.getD k true=true↔k∈done))->(∀k∈done,k<M)->
   (∀k,k<M->(k∈done↔k∉l.map (·.1)))->(∀p,p∈l->ops[p.1]?=some p.2/\p.1<M)->l.Pairwise (λp q=>p.1<q.1)->(∀k o,k∈done->ops[k]?=some o->∀e,e∈o.after->Region.binds .any e=true->e.on∈done)->
   Run P T (some (xZ ops)) ol base l tr st st'->Sat B (frd base done) E st a W->a.defers=d0->wpAnyIn (Fr0 ro) n P .any ops Q bH aQ a W:=by
 intro bH
 induction bH with
 |zero=>intro aQ done l tr st E a W hlen;omega
 |succ bH ih=>
  intro aQ done l tr st E a W hlen hsz hl hdn hdl hops hpw hcl hrun hs hd
  have hMn:M∉done:=λh=>by have:=hdn M h;omega
  have hgd:∀k,k<ops.size->aQ.getD k true=(aQ[k]?).getD true:=λk _=>by rw[d9x]
  refine⟨λhr=>?_,λi hi=>?_⟩
  ·exfalso
   have hex:∃i o,ops[i]?=some o/\i∉done/\∀e∈o.after,Region.binds .any e=true->e.on<ops.size->e.on∈done:=by
    cases l with
    |nil=>
     refine⟨M,oM,hM,hMn,λe he hb _=>?_⟩
     unfold qW at hMd
     rw[e1d]at hMd
     have:=hMd e (e1p.2 he)
     simp only[hb,e4z,Bool.false_or]at this
     exact(hdl _ (aG.1 this)).2 (by simp)
    |cons p l=>
     obtain⟨i,o⟩:=p
     obtain⟨hi,hiM⟩:=hops (i,o) (d9y ..)
     refine⟨i,o,hi,λh=>(hdl i hiM).1 h (by simp),λe he hb hk=>?_⟩
     have hdown:=hrun.down (i,o) (d9y ..)
     unfold qW at hdown
     rw[e1d]at hdown
     have:=hdown e (e1p.2 he)
     simp only[hb,e4z,Bool.false_or]at this
     have hlt:=aG.1 this
     have hiM:i<M:=hiM
     refine(hdl e.on (by omega)).2 λhm=>?_
     rcases e0b.1 hm with h1|h1
     ·simp only at h1;omega
     ·obtain⟨q,hq,h2⟩:=e0l.1 h1
      have:=(e3m.1 hpw).1 q hq
      simp only at this;omega
   obtain⟨i,o,hi,hnd,hde⟩:=hex
   have hisz:=(d9w.1 hi).1
   have:i∈Region.ready .any ops aQ:=by
    rw[e7z]
    refine⟨?_,o,hi,λe he hb=>?_⟩
    ·rw[<-e5e,hl i hisz];exact hnd
    ·by_cases hk:e.on<ops.size
     ·have:=(hl e.on hk).2 (hde e he hb hk)
      simp only[Array.getD,hsz,hk,e8c]at this⊢
      exact this
     ·exfalso
      by_cases e1:i=M
      ·subst e1
       rw[hM]at hi;cases hi
       unfold qW at hMd
       rw[e1d]at hMd
       have:=hMd e (e1p.2 he)
       simp only[hb,e4z,Bool.false_or]at this
       have:=aG.1 this
       omega
      ·have hil:i∈l.map (·.1):=e3q λh=>hnd ((hdl i (by omega)).2 h)
       obtain⟨⟨i',o'⟩,hmem,rfl⟩:=e0l.1 hil
       have ho:o'=o:=by have:=(hops _ hmem).1;simp only at this hi;rw[hi]at this;exact(e4p this).symm
       subst ho
       have hdown:=hrun.down _ hmem
       unfold qW at hdown
       rw[e1d]at hdown
       have:=hdown e (e1p.2 he)
       simp only[hb,e4z,Bool.false_or]at this
       have:=aG.1 this
       simp only at hisz
       omega
   rw[hr]at this;cases this
  obtain⟨h1,o,h2,h3⟩:=e7z.1 hi
  have hisz:=(d9w.1 h2).1
  have hnd:i∉done:=λh=>by have:=(hl i hisz).2 h;rw[h1]at this;cases this
  have hdeps:∀e,e∈o.after->Region.binds .any e=true->e.on∈done:=by
   intro e he hb
   have h4:=h3 e he hb
   by_cases hk:e.on<ops.size
   ·rw[<-hl e.on hk]
    simp only[Array.getD,hsz,hk,e8c]at h4⊢
    exact h4
   ·simp only[Array.getD,hsz,hk,dif_neg,not_false_eq_true]at h4;cases h4
  have hrchd:∀{k j},Rch ops k j->k∈done->j∈done:=by
   intro k j h
   induction h with
   |one h1 h2 h3=>exactλhk=>hcl _ _ hk h1 _ h2 h3
   |step h1 h2 h3 _ ih=>exactλhk=>ih (hcl _ _ hk h1 _ h2 h3)
  have hrch:∀{j},Rch ops i j->j∈done:=by
   intro j h
   cases h with
   |one h4 h5 h6=>rw[h2]at h4;cases h4;exact hdeps _ h5 h6
   |step h4 h5 h6 h7=>rw[h2]at h4;cases h4;exact hrchd h7 (hdeps _ h5 h6)
  by_cases eM:i=M
  ·subst eM
   have hl0:l=[]:=by
    cases l with
    |nil=>rfl
    |cons p l=>
     exfalso
     have hp:=(hops p (d9y ..)).2
     exact(hdl p.1 hp).1 (hrch (hMr p.1 hp)) (by simp)
   subst hl0
   cases hrun
   refine hend done E a W _ hdn hs hd λa2 W2 hq=>a7j (λk hk=>?_) hq bH
   by_cases e:k=i
   ·subst e
    simp[Array.getD,hsz,hk]
   ·rw[getD_set_ne true (λh=>e h.symm),hl k hk]
    exact(hdl k (by omega)).2 (by simp)
  have hiM:i<M:=by omega
  have hil:i∈l.map (·.1):=by
   apply e3q
   intro h;exact hnd ((hdl i hiM).2 h)
  obtain⟨⟨i',o'⟩,hmem,rfl⟩:=e0l.1 hil
  obtain⟨p,q,rfl⟩:=e5w hmem
  have ho:o'=o:=by have:=(hops _ hmem).1;simp only at this h2;rw[h2]at this;exact(e4p this).symm
  subst ho
  simp only at h1 h2 hisz hnd hi hil hiM
  have hb:=tQ hol h2 (λx hx hr=>by
   have hxm:x∈p++(i',o')::q:=e0p _ hx
   exact(hdl x.1 (hops x hxm).2).1 (hrch hr) (e0l.2 ⟨x,hxm,rfl⟩)) hrun
  cases hb with
  |cons _ _ _ _ _ r s _ tr1 hone hchk hrun2=>
   refine zM hT hs hol h2 hnd hone λE' a' W' hs' hd'=>?_
   have hnodup:∀x,x∈p++q->x.1≠i':=by
    intro x hx e
    rw[e3s]at hpw
    rcases e0x.1 hx with hx|hx
    ·have:=hpw.2.2 x hx (i',o') (d9y ..);simp only at this;omega
    ·have:=(e3m.1 hpw.2.1).1 x hx;simp only at this;omega
   refine ih _ (i'::done) (p++q) tr1 s E' a' W' ?_ (by simpa using hsz) (λk hk=>?_) (λk hk=>?_) (λk hk=>?_) (λx hx=>hops x ?_) ?_ ?_ hrun2 hs' (hd'.trans hd)
   ·simp only[e1f,e0r]at hlen⊢;omega
   ·by_cases e:k=i'
    ·subst e
     simp only[e0b,true_or,iff_true]
     simp[Array.getD,hsz,hk]
    ·rw[getD_set_ne true (λh=>e h.symm),hl k hk];simp[e]
   ·rcases e0b.1 hk with rfl|hk
    ·exact hiM
    ·exact hdn k hk
   ·have:=hdl k hk
    simp only[e0b,e1z,e0o,e0x]at this⊢
    constructor
    ·rintro(rfl|h)
     ·rintro(h|h)
      ·obtain⟨x,hx,e⟩:=e0l.1 h;exact hnodup x (e0p _ hx) e
      ·obtain⟨x,hx,e⟩:=e0l.1 h;exact hnodup x (e0n _ hx) e
     ·have:=this.1 h
      rintro(h|h)
      ·exact this (.inl h)
      ·exact this (.inr (.inr h))
    ·intro h
     by_cases e:k=i'
     ·exact .inl e
     ·refine .inr (this.2 ?_)
      rintro(h1|h1|h1)
      ·exact h (.inl h1)
      ·exact e h1
      ·exact h (.inr h1)
   ·rcases e0x.1 hx with hx|hx
    ·exact e0p _ hx
    ·exact e0n _ (d9v _ hx)
   ·exact hpw.sublist (e7i (e4x _) (e5o ..))
   ·intro k o2 hk h4 e he hb
    rcases e0b.1 hk with rfl|hk
    ·rw[h2]at h4;cases h4;exact d9v _ (hdeps e he hb)
    ·exact d9v _ (hcl k o2 hk h4 e he hb)
theorem a7u (hT:bQ P T)(hm:P.follows .mixedOrders=true){B:Base}{ops:Array Oper}{st st':St}{E:Env}{a:Act}{W:World}{ro:Option Nat}{n id:Nat}{Q:Exit->Act->World->Prop}{base:Nat}(hrun:Run P T (some (xZ ops)) ops.toList base (vA 0 ops.toList) [] st st')
  (hs:Sat B (frd base []) E st a W) (hq:∀E' a' W',Sat B (frd base (List.range ops.size)) E' st' a' W'->a'.defers=a.defers->Q .normal a' W'):(Code.region id ops true).wpIn (Fr0 ro) n P Q a W:=by
 refine wpIn_region_any hm ?_
 have hz:(vA 0 ops.toList).map (·.1)=List.range ops.size:=by rw[qH,e6b,e1c]
 refine qL hT rfl (d0:=a.defers) (λdone E' a' W' h1 h2 h3 h4=>?_) ops.size _ [] _ [] st E a _ ?_ (by simp) (λk hk=>?_) (by simp) (λk hk=>?_) (λp hp=>?_) ?_ (by simp) hrun hs.drew rfl
 ·refine hq E' a' W' (h3.weak λj hj=>⟨hj.1,λk hk=>hj.2 k (e1e.2 (h2 k hk))⟩) h4
 ·have:=e2r List.length hz
  simp only[e0z,e2o]at this
  omega
 ·simp[Array.getD,hk]
 ·rw[hz];simp[hk]
 ·have:=(kU _ _ _ hp).2
  simpa using this
 ·have:∀(l:List Oper) (i:Nat),(vA i l).Pairwise λp q=>p.1<q.1:=by
   intro l
   induction l with
   |nil=>intro i;exact List.Pairwise.nil
   |cons o l ih=>intro i;exact e3m.2 ⟨λp hp=>by have:=(kU l (i+1) p hp).1;simp only;omega,ih (i+1)⟩
  exact this _ _
theorem a1z (hT:bQ P T)(hm:P.follows .mixedOrders=true){B:Base}{ops:Array Oper}{st st':St}{E:Env}{a:Act}{W:World}{ro:Option Nat}{n id:Nat}{Q:Exit->Act->World->Prop}{base:Nat}{p:List (Nat×Oper)}{M:Nat}{oM:Oper}(hp:vA 0 ops.toList=p++[(M,oM)])(hrun:Run P T (some (xZ ops)) ops.toList base p [] st st')(hlast:a2p ops.toList M oM=true)
  (hs:Sat B (frd base []) E st a W) (hend:∀done E' a' W' (K:Act->World->Prop),ops[M]?=some oM->(∀k∈done,k<M)->Sat B (frd base done) E' st' a' W'->a'.defers=a.defers->(∀a2 W2,Q .normal a2 W2->K a2 W2)->wpOpIn (Fr0 ro) n P ops Q M K a' W'):(Code.region id ops true).wpIn (Fr0 ro) n P Q a W:=by
 refine wpIn_region_any hm ?_
 unfold a2p at hlast
 simp only[e0d,e1d,e1e]at hlast
 obtain⟨hsz,hdown,hdep⟩:=hlast
 have hsz:=d9s hsz
 rw[e1c]at hsz
 have hpw:(vA 0 ops.toList).Pairwise λp q=>p.1<q.1:=by
  have:∀(l:List Oper) (i:Nat),(vA i l).Pairwise λp q=>p.1<q.1:=by
   intro l
   induction l with
   |nil=>intro i;exact List.Pairwise.nil
   |cons o l ih=>intro i;exact e3m.2 ⟨λp hp=>by have:=(kU l (i+1) p hp).1;simp only;omega,ih (i+1)⟩
  exact this _ _
 have hz:(vA 0 ops.toList).map (·.1)=List.range ops.size:=by rw[qH,e6b,e1c]
 have hget:∀q,q∈p++[(M,oM)]->ops[q.1]?=some q.2:=λq hq=>by
  rw[<-hp]at hq
  have:=(kU _ _ _ hq).2
  simpa using this
 have hM:ops[M]?=some oM:=hget (M,oM) (by simp)
 rw[hp]at hpw hz
 have hplt:∀q,q∈p->q.1<M:=λq hq=>(e3s.1 hpw).2.2 q hq (M,oM) (by simp)
 have hmem:∀k,k<M->k∈p.map (·.1):=by
  intro k hk
  have:k∈(p++[(M,oM)]).map (·.1):=by rw[hz];exact e1e.2 (by omega)
  rw[e1z]at this
  rcases e0x.1 this with h|h
  ·exact h
  ·simp at h;omega
 have hplen:p.length=M:=by
  have:=e2r List.length hz
  simp only[e0z,e1f,e0r,List.length_nil,e2o]at this
  omega
 refine a7k hT rfl (d0:=a.defers) hM (by omega) hdown (λk hk=>vO (hdep k hk)) (λdone E' a' W' K h1 h2 h3 h4=>hend done E' a' W' K hM h1 h2 h3 h4) ops.size _ [] _ [] st E a _ (by omega) (by simp) (λk hk=>?_) (λ_ h=>by cases h) (λk hk=>?_) (λq hq=>⟨hget q (e0p _ hq),hplt q hq⟩) ((e3s.1 hpw).1) (by simp) hrun hs.drew rfl
 ·simp[Array.getD,hk]
 ·have:=hmem k hk
  simp only[e0m,false_iff]
  exactλh=>h this
theorem a3p {o:Oper}{i:Nat}{st:St}{r:CR}{c:Prop}{x:AV}{s:St}(h:nD P T i o.op o.type st r=some (c,x,s)):s.gh=st.gh:=by
 obtain⟨_,_,h2⟩:=oA (st2:=st) h (λ_ _=>rfl) (λ_ _=>rfl)
 exact h2.t.2.2.2
theorem b5a {o:Oper}{i:Nat}{st:St}{r:CR}{c:Prop}{x:AV}{s:St}(h:nD P T i o.op o.type st r=some (c,x,s)):s.next=st.next:=by
 obtain⟨_,_,h2⟩:=oA (st2:=st) h (λ_ _=>rfl) (λ_ _=>rfl)
 exact h2.t.2.2.1
theorem One.next {i:Nat}{o:Oper}{st:St}{r:CR}{s:St}(h:One P T ol base i o st r s):s.next=st.next:=by
 cases h with
 |skip _=>exact e3a ..
 |run _ c x s0 _ hs _ _=>rw[e3a];exact b5a hs
theorem Run.next {C0:Chk}:∀{l:List (Nat×Oper)} {tr:List Tr} {st st':St},Run P T (some C0) ol base l tr st st'->st'.next=st.next
 |[],_,_,_,h=>by cases h;rfl
 |(i,o)::l,_,_,_,h=>by
  cases h with
  |cons _ _ _ _ _ r s _ tr1 h1 h2 h3=>exact(Run.next h3).trans h1.next
theorem Run.gh {C0:Chk}:∀{l:List (Nat×Oper)} {tr:List Tr} {st st':St},Run P T (some C0) ol base l tr st st'->st'.gh=st.gh
 |[],_,_,_,h=>by cases h;rfl
 |(i,o)::l,_,_,_,h=>by
  cases h with
  |cons _ _ _ _ _ r s _ tr1 h1 h2 h3=>
   refine(Run.gh h3).trans ?_
   cases h1 with
   |skip _=>exact cM ..
   |run _ c x s0 _ hs _ _=>rw[cM];exact a3p hs
end
structure Fam (P:Program)(y:Option Yp)(np:Nat) where
  f:Option Nat->Base->Prop
  pin:∀g B,f g B->∀j,B.ρ0 j≠ .un->j<np
  yld:∀yp,y=some yp->∀k B,f (some k) B->k<yp.N->∀Fr E st a W us,Sat B Fr E st a W->gI E.S W (yp.Y k) us->
    ∃fn tmps as body,(Instr.yield yp.l us.toArray).run P W= .ok (.round yp.l fn tmps as body) W/\
      RoundIn Fence.wide 0 P yp.l fn tmps as body W λe W'=>∃b B',e= .returned (.bool b)/\f (bif b then some (k+1)else none) B'/\Sat B' Fr E st a W'
def xK {P:Program}{y:Option Yp}{np:Nat}(F:Fam P y np)(st:St)(a:Act)(W:World):Prop:=∃B E,F.f st.gh B/\Sat B (λj=>st.next<=j) E st a W
theorem Edge.sat {P:Program}{y:Option Yp}{np:Nat}{F:Fam P y np}{st:St}{s:LS}{a:Act}{W:World}(h:Edge np st s)(hlt:∀p∈s.tm,p.1<st.n)(hs:xK F st a W):xK F (s.st st.n) a W:=by
 obtain⟨B,E,hf,hs⟩:=hs
 obtain⟨m,h1,h2,h⟩:=h.ex
 exact⟨B,_,(show F.f s.gh B from h.2.2.2.2▸hf),h.sat0 h1 h2 (F.pin _ B hf) hlt hs⟩
structure Lp (np:Nat)(st:St)(body:St->(Exit->St->Prop)->Prop)(Q:Exit->St->Prop):Prop where
  ex:∃(ι:Type) (S:ι->LS) (μ:ι->Nat) (i0:ι),(∀i,∀p∈(S i).tm,p.1<st.n)/\Edge np st (S i0)/\∀i,body ((S i).st st.n) λe st'=>match e with
    | .normal=>st'.n=st.n/\∃i',Edge np st' (S i')/\μ i'<μ i
    |e=>Q e st'
structure Ct (np:Nat)(st:St)(body:(Exit->St->Prop)->Prop)(rest:St->Prop)(Q:Exit->St->Prop):Prop where
  ex:∃(ι:Type) (S:ι->LS),(∀i,∀p∈(S i).tm,p.1<st.n)/\(body λe st'=>match e with
    | .normal=>st'.n=st.n/\∃i',Edge np st' (S i')
    |e=>Q e st')/\∀i,rest ((S i).st st.n)
def yH:Code->Option Nat
  | .region id _ _=>some id
  | .seq x _=>yH x
  | .block _ c=>yH c
  | .loop c=>yH c
  | .scope c=>yH c
  |_=>none
def c3i (cuts:List Nat)(c:Code):Bool:=match yH c with
  |some i=>cuts.any (Nat.beq i)
  |none=>false
def Seq (P:Program)(g:Nat)(A C:List DV)(N:Nat)(Y:Nat->List DV):Prop:=
  Ent P g/\∀(S:Nat->Prop) (w:World) (vs cs:List Value) (l:Nat) (F:Fam P (some ⟨l,N,Y⟩) 0) (B0:Base),(∀b,S b->b<w.heap.size)->gI S w A vs->gI S w C cs->
    F.f (some 0) B0->(∀b,B0.ow b↔w.heap.size<=b)->B0.S0=S->B0.G w->(∀id,B0.ρ0 id= .un)->
    CallsIn Fence.wide 0 P g (vs++[Value.func (.yield l) #[] #[]]++cs).toArray w λe w'=>∃v g' B,e= .returned v/\F.f g' B/\B.G w'/\(g'=none\/g'=some N)
def seqOf:AV->Option (Nat×List AV×List AV)
  | .fn g n m f c=>some (g,(List.range n).map f,(List.range m).map c)
  | .d (.fn g n m f c)=>some (g,(List.range n).map (λj=> .d (f j)),(List.range m).map λj=> .d (c j))
  |_=>none
def eJ (n:Nat):AV->Bool
  | .d _=>true
  | .ref i _=>Nat.blt i n
  | .el i _ _ _=>Nat.blt i n
  | .ms i _ _ _=>Nat.blt i n
  | .ag m f=>(List.range m).all λj=>eJ n (f j)
  | .fn _ a b f c=>((List.range a).all λj=>eJ n (f j))&&(List.range b).all λj=>eJ n (c j)
  | .mp i=>Nat.blt i n
  | .tp m f=>(List.range m).all λj=>eJ n (f j)
  | .sub i _ _=>Nat.blt i n
  | .stp i=>Nat.blt i n
def putAll (st:St):List Nat->List DV->St
  |p::ps,d::ds=>putAll (st.put (some p) (.d d)) ps ds
  |_,_=>st
structure Rg (P:Program)(np:Nat)(st:St)(f:AV)(ps:List Nat)(round:Nat->St->(Exit->St->Prop)->Prop)(Q:Exit->St->Prop):Prop where
  ex:∃(np':Nat) (tms:List (Nat×AV)) (g:Nat) (A C:List AV) (N:Nat) (Y:Nat->List DV) (ι:Type) (R:ι->Nat×List (Nat×Res)) (ix:ι->Nat) (i0:ι),
    seqOf f=some (g,A,C)/\gQ st (A++C)/\Seq P g (A.map (dX bH st.hp)) (C.map (dX bH st.hp)) N Y/\
    (∀p∈tms,p.1<st.n)/\(∀p∈tms,eJ np' p.2=true)/\np<=np'/\(∀k,k<N->(Y k).length=ps.length)/\(∀p∈ps,p<st.n)/\
    Edge np (st.frzs (bO st (A++C))) ⟨(R i0).1,tms,(R i0).2,st.gh⟩/\(∀i,np'<=(R i).1)/\ix i0=0/\
    (∀i,ix i<N->round np' (putAll ((⟨(R i).1,tms,(R i).2,some 0⟩:LS).st st.n) ps (Y (ix i))) λe st'=>match e with
      | .normal=>st'.gh=some 0/\∃i',ix i'=ix i+1/\Edge np' st' ⟨(R i').1,[],(R i').2,some 0⟩
      | .exit id=>∃r:Nat×List (Nat×Res),Edge np' st' ⟨r.1,[],r.2,some 0⟩/\Q (.exit id) ((⟨r.1,tms,r.2,st.gh⟩:LS).st st.n)
      | .ret=>∃r:Nat×List (Nat×Res),Edge np' st' ⟨r.1,[],r.2,some 0⟩/\Q .ret ((⟨r.1,tms,r.2,st.gh⟩:LS).st st.n)
      |_=>False)/\
    (∀i,ix i=N->Q .normal ((⟨(R i).1,tms,(R i).2,st.gh⟩:LS).st st.n))
section
variable (P:Program) (T:Nat->Option TI) (cuts:List Nat)
def ex:Bool->Option Yp->Nat->Code->St->(Exit->St->Prop)->Prop
  |_,_,_,.skip,st,Q=>Q .normal st
  |_,y,_,.region _ ops draw,st,Q=>cP P T y (match draw with|true=>some (xZ ops)|false=>none) ops.toList st.next (vA 0 ops.toList) [] {st with next:=st.next+ops.size} λst'=>cJ st' (Q .normal)
  |r,y,np,.seq c d,st,Q=>match c3i cuts d with
    |true=>Ct np st (λQ'=>ex r y np c st Q') (λst=>ex r y np d st Q) Q
    |false=>ex r y np c st λe st'=>match e with
      | .normal=>ex r y np d st' Q
      |e=>Q e st'
  |r,y,np,.cond c d e,st,Q=>match st.ev c with
    | .d (.v (.bool b))=>Sp b (ex r y np d st Q) (ex r y np e st Q)
    |_=>False
  |r,y,np,.block id c,st,Q=>ex r y np c st λe st'=>match e with
    | .exit i=>(match Nat.beq i id with
      |true=>Q .normal st'
      |false=>Q (.exit i) st')
    |e=>Q e st'
  |r,y,np,.loop c,st,Q=>Lp np st (λst Q'=>ex r y np c st Q') Q
  |false,_,np,.rangeFunc f ps as body,st,Q=>Rg P np st (st.ev f) ps.toList (λnp' st1 Q'=>ex true none np' as st1 λe st2=>match e with
    | .normal=>ex true none np' body st2 Q'
    |_=>False) Q
  |_,_,_,.exit id,st,Q=>Q (.exit id) st
  |_,_,_,.label _,st,Q=>Q .normal st
  |r,y,np,.scope c,st,Q=>ex r y np c st λe st'=>match e with
    | .goto _=>False
    |e=>Q e st'
  |_,_,_,.ret,st,Q=>Q .ret st
  |_,_,_,_,_,_=>False
end
section
variable {P:Program} {T:Nat->Option TI} {cuts:List Nat} {y:Option Yp} {np:Nat}
theorem oZ {F:Fence}{n:Nat}{P:Program}{Q:Exit->Act->World->Prop}{a:Act}{w:World}{c:Code}{ι:Type}(I:ι->Act->World->Prop)(μ:ι->Nat)(i0:ι)(h₀:I i0 a w)
  (round:∀i a w,I i a w->c.wpIn F n P (Exit.then (λa' w'=>∃i',I i' a' w'/\μ i'<μ i) Q) a w):(Code.loop c).wpIn F n P Q a w:=by
 intro b k cs hro hb hr
 have key:∀j i a w,μ i=j->I i a w->
   ∃e a' w',Q e a' w'/\ArrivesIn (Machine.fenced P F) P (lone (b.atR a (.code c:: .inLoop c::k)) cs w) b k cs e a' w':=by
  intro j
  induction j using Nat.strongRecOn with
  |_ j ih=>
   intro i a w hn hI
   obtain⟨e,a₁,w₁,hq,harr⟩:=round i a w hI b (.inLoop c::k) cs hro hb hr
   cases e with
   |normal=>
    obtain⟨i',hI₁,hlt⟩:=hq
    obtain⟨e₂,a₂,w₂,hq₂,harr₂⟩:=ih (μ i') (hn▸hlt) i' a₁ w₁ rfl hI₁
    exact⟨e₂,a₂,w₂,hq₂,.of_steps (StepsIn.trans harr (.one (e7j hb hr rfl) stepR_inLoop)) harr₂⟩
   |exit id=>exact⟨_,a₁,w₁,hq,.pass (x:= .inLoop c) rfl (λ_ _=> .inl (by simp)) harr⟩
   |goto l=>exact⟨_,a₁,w₁,hq,.pass (x:= .inLoop c) rfl (λ_ _=> .inl (by simp)) harr⟩
   |ret=>exact⟨_,a₁,w₁,hq,.pass (x:= .inLoop c) rfl (λ_ _=> .inl (by simp)) harr⟩
   |panic ch=>exact⟨_,a₁,w₁,hq,.pass (x:= .inLoop c) rfl (λ_ _=> .inl (by simp)) harr⟩
   |outgrown=>exact⟨_,a₁,w₁,hq,.pass (x:= .inLoop c) rfl (λ_ _=> .inl (by simp)) harr⟩
 obtain⟨e,a',w',hq,harr⟩:=key _ i0 a w rfl h₀
 exact⟨e,a',w',hq,.of_steps (.one (e7j hb hr rfl) stepR_loop) harr⟩
theorem Sat.gh {B:Base}{Fr:Nat->Prop}{E:Env}{st:St}{a:Act}{W:World}(h:Sat B Fr E st a W)(g:Option Nat):Sat B Fr E {st with gh:=g} a W:=
 ⟨h.size,h.tm,h.hp,h.dist,h.fr,h.sub,h.sup,h.s0,h.df,h.dn,h.dd,h.g,h.r0⟩
theorem Sat.next {B:Base}{Fr:Nat->Prop}{E:Env}{st:St}{a:Act}{W:World}(h:Sat B Fr E st a W)(n:Nat):Sat B Fr E {st with next:=n} a W:=
 ⟨h.size,h.tm,h.hp,h.dist,h.fr,h.sub,h.sup,h.s0,h.df,h.dn,h.dd,h.g,h.r0⟩
theorem a3m {ro:Option Nat}{n l fn:Nat}{tmps:Array Value}{as body:Code}{W:World}{R:Ending->World->Prop}(h:RoundIn Fence.wide 0 P l fn tmps as body W R):RoundIn (Fr0 ro) n P l fn tmps as body W R:=
 ⟨trivial,λc cs _=>h.2 c cs (room_wide _)⟩
theorem c3a (st:St):∀l:List Nat,(st.frzs l).gh=st.gh
 |[]=>rfl
 |id::l=>by
  show((st.frz id).frzs l).gh=_
  rw[c3a]
  unfold St.frz
  split<;>rfl
def frn (base N nx:Nat)(done:List Nat)(j:Nat):Prop:=frd base done j/\(base+N<=j->nx<=j)
theorem uB (st:St):∀l:List Nat,(st.frzs l).next=st.next
 |[]=>rfl
 |id::l=>by
  show((st.frz id).frzs l).next=_
  rw[uB]
  unfold St.frz
  split<;>rfl
theorem c4f {S:Nat->Prop}{W:World}:Rep S W nxE (.tuple #[.bool false]):=by
 refine⟨_,rfl,rfl,λj hj=>?_⟩
 obtain rfl:j=0:=by omega
 rfl
theorem c4e {S:Nat->Prop}{W:World}{kt:KT}{k:List Int}{x:Int}(h:k.length=kt.n):Rep S W (nxD kt k x) (.tuple #[.bool true,aJ kt k,jW kt x]):=by
 refine⟨_,rfl,rfl,λj hj=>?_⟩
 match j,hj with
 |0,_=>rfl
 |1,_=>exact a5e kt k h
 |2,_=>exact qF kt x
theorem oV (hT:bQ P T){F:Fam P y np}{ops:Array Oper}{ol:List Oper}(hol:ol=ops.toList){base:Nat}{ro:Option Nat}{n:Nat}{Q:Exit->Act->World->Prop}{K:St->Prop}:∀(l:List (Nat×Oper)) (tr:List Tr) (st:St) (done:List Nat) (B:Base) (E:Env) (a:Act) (W:World),
  cP P T y none ol base l tr st K->F.f st.gh B->base+ops.size<=st.next->(∀q∈done,q<ops.size)->Sat B (frn base ops.size st.next done) E st a W->(∀p∈l,ops[p.1]?=some p.2)->(l.map (·.1)).Nodup->(∀p∈l,p.1∉done)->
  (∀st' B' E' a' W',K st'->F.f st'.gh B'->base+ops.size<=st'.next->Sat B' (frn base ops.size st'.next ((l.map (·.1)).reverse++done)) E' st' a' W'->Q .normal a' W')->wpOpsIn (Fr0 ro) n P ops Q (l.map (·.1)) a W
 |[],tr,st,done,B,E,a,W,hr,hf,hnx,_,hs,_,_,_,hq=>hq st B E a W hr hf hnx hs
 |(i,o)::l,tr,st,done,B,E,a,W,hr,hf,hnx,hdn,hs,h1,h2,h3,hq=>by
  rw[e0o,wpOpsIn_cons]
  simp only[e0o,e2b]at h2
  have hi:ops[i]?=some o:=h1 (i,o) (d9y ..)
  have hd:i∉done:=h3 (i,o) (d9y ..)
  have hil:i<ops.size:=(d9w.1 hi).1
  have hX:¬base+ops.size<=base+i:=by omega
  have next:∀(tr':List Tr) (s:St) (B':Base) (E':Env) (a':Act) (W':World),cP P T y none ol base l tr' s K->F.f s.gh B'->base+ops.size<=s.next->Sat B' (frn base ops.size s.next (i::done)) E' s a' W'->wpOpsIn (Fr0 ro) n P ops Q (l.map (·.1)) a' W':=by
   intro tr' s B' E' a' W' hr' hf' hn' hs'
   refine oV hT hol l tr' s (i::done) B' E' a' W' hr' hf' hn' (λq hq=>(e0b.1 hq).elim (λe=>e▸hil) (hdn q)) hs' (λp hp=>h1 p (d9v _ hp)) h2.2 (λp hp=>?_) λst2 B2 E2 a2 W2 k1 k2 k4 k3=>hq st2 B2 E2 a2 W2 k1 k2 k4 (by simpa using k3)
   simp only[e0b,not_or]
   exact⟨λe=>h2.1 (e▸List.mem_map_of_mem (f:=(·.1)) hp),h3 p (d9v _ hp)⟩
  have step:∀{r s} (tr':List Tr),One P T ol base i o st r s->s.gh=st.gh->cP P T y none ol base l tr' s K->wpOpIn (Fr0 ro) n P ops Q i (wpOpsIn (Fr0 ro) n P ops Q (l.map (·.1))) a W:=by
   intro r s tr' hone hgh hr'
   have hsn:=hone.next
   exact uQ hT hs hol hi hd (λh=>absurd h hX) hone λE' a' W' hs' _=>next tr' s B E' a' W' hr' (hgh▸hf) (by rw[hsn];exact hnx) (by rw[hsn];exact hs')
  unfold cP at hr
  split at hr
  ·exact hr.elim
  ·rename_i hw
   simp only[chk]at hr
   exact step tr (.skip hw) (cM ..) ((aR ..).1 hr)
  ·rename_i hw
   split at hr
   ·split at hr
    ·rename_i u args hyo
     split at hr
     ·rename_i yp k hC hgh
      obtain⟨⟨rfl,hok,hk,him⟩,ht,hff⟩:=hr
      unfold wpOpIn
      rw[hi]
      simp only
      rw[cC hs hol hw]
      simp only[e4b]
      unfold a4a at hyo
      split at hyo
      ·rename_i fo cargs ctys ho
       split at hyo
       ·rename_i u' hu'
        cases hyo
        have hue:=hs.ev fo
        rw[hu']at hue
        have hue:a.eval fo= .func (.yield yp.l) #[] #[]:=hue
        obtain⟨E1,hs1,hev1,hr1,_,_⟩:=hs.frzs (bO st (cargs.toList.map st.ev))
        have hreps:gI E1.S W (yp.Y k) (cargs.toList.map a.eval):=gI.imp him.imps (eD hs hev1.s _ _ hok (λid hid b hb=>hr1 id hid (by
         obtain⟨x,_,hx⟩:=e1a.1 hid
         exact dV _ _ hx) b hb) (by simp) λj hj=>by
          simp only[e0z,e1c]at hj
          simp only[d9r,e0j,e0s,e0y hj,e1y,e2v]
          exact hs.ev _)
        rw[hgh]at hf
        obtain⟨fn,tmps,as,body,hy,hround⟩:=F.yld yp rfl k B hf hk _ E1 _ a W _ hs1 hreps
        refine⟨λ_ _=>trivial,?_⟩
        rw[e3x _ _ _ (by rw[ho];simp)]
        have hrun:(execOp a.eval o).run P W= .ok (.round yp.l fn tmps as body) W:=by
         simp only[execOp,ho,resolve,hue,Deferred.ofValue,invoke,d9t,d9u,d9q]
         have: #[]++cargs.map a.eval=(cargs.toList.map a.eval).toArray:=by rw[Array.empty_append,<-e4f,e6a]
         rw[this];exact hy
        rw[hrun]
        refine And.intro (λhd=>by cases hd) ?_
        refine(a3m hround).mono ?_
        rintro e W' ⟨b,B',rfl,hf',hs'⟩
        have hyn:((yst st (cargs.toList.map st.ev) (bif b then some (k+1)else none)).put o.dst (.d (.v (.bool b)))).next=st.next:=by rw[e3a];exact uB ..
        have hs2:Sat B' (frn base ops.size ((yst st (cargs.toList.map st.ev) (bif b then some (k+1)else none)).put o.dst (.d (.v (.bool b)))).next (i::done)) E1 ((yst st (cargs.toList.map st.ev) (bif b then some (k+1)else none)).put o.dst (.d (.v (.bool b)))) (a.put o.dst (.bool b)) W':=by
         rw[hyn]
         exact((hs'.weak λj hj=>(⟨⟨hj.1.1,λq hq=>hj.1.2 q (d9v _ hq)⟩,hj.2⟩:frn base ops.size st.next done j)).gh _).put o.dst rfl
        have hyx:base+ops.size<=((yst st (cargs.toList.map st.ev) (bif b then some (k+1)else none)).put o.dst (.d (.v (.bool b)))).next:=by rw[hyn];exact hnx
        have hf2:F.f ((yst st (cargs.toList.map st.ev) (bif b then some (k+1)else none)).put o.dst (.d (.v (.bool b)))).gh B':=by rw[cM];exact hf'
        cases b with
        |true=>exact next tr _ B' E1 _ W' ((aR ..).1 ht) hf2 hyx hs2
        |false=>exact next tr _ B' E1 _ W' ((aR ..).1 hff) hf2 hyx hs2
       ·cases hyo
      ·cases hyo
     ·exact hr.elim
    ·obtain⟨r,hr⟩:=hr.ex
     split at hr
     ·rename_i as ms N ι ms' z
      split at hr
      ·rename_i g l' _ hco
       unfold wpOpIn
       rw[hi]
       simp only
       rw[cC hs hol hw]
       simp only[e4b]
       refine yZ hs (⟨⟨e5r _ _,λq hq e=>hd ((show i=q by omega)▸hq)⟩,λh=>absurd h hX⟩:frn base ops.size st.next done (base+i)) (λj hj=>⟨⟨by omega,λq hq e=>?_⟩,λ_=>hj⟩) (by omega) hco hr λE' a' W' s k1 k2 k3 k4=>?_
       ·have:=hdn q hq
        omega
       ·exact next tr s B E' a' W' k1 (k2▸hf) (by omega) (k4.weak λj hj=>⟨⟨⟨hj.1.1,λq hq=>hj.1.2 q (d9v _ hq)⟩,λh=>e2h k3 (hj.2 h)⟩,hj.1.2 i (d9y ..),λh=>hj.2 (e2h hnx h)⟩)
      ·exact hr.elim
     unfold fin at hr
     split at hr
     ·exact hr.elim
     ·rename_i c x s hst
      have h5:=hr.r hr.c
      simp only[chk]at h5
      obtain⟨hb,h6⟩:=(vF ..).1 h5
      exact step tr (.run r c x s hw hst hr.c hb) (by rw[cM];exact a3p hst) ((aR ..).1 h6)
   ·split at hr
    ·rename_i id kt f seen hnx
     unfold b2x at hnx
     split at hnx
     ·rename_i yo ho
      split at hnx
      ·rename_i id' hyo
       split at hnx
       ·rename_i kt' f' seen' cur hid
        cases hnx
        have hrep:=hs.ev yo
        rw[hyo]at hrep
        have hweak:∀{s:St} {a':Act} {W':World},Sat B (frn base ops.size st.next done) E s a' W'->Sat B (frn base ops.size st.next (i::done)) E s a' W':=λh=>h.weak λj hj=>⟨⟨hj.1.1,λq hq=>hj.1.2 q (d9v _ hq)⟩,hj.2⟩
        unfold wpOpIn
        rw[hi]
        simp only
        rw[cC hs hol hw]
        simp only[e4b]
        rcases a8s (P:=P) hs hrep hid o.type with⟨h4,h5⟩|⟨k,x,W',h4,h5,h6,h7,h8⟩
        ·refine cE (by rw[ho];simp) (v:= .tuple #[.bool false]) (W':=W) (by simp only[execOp,ho,d9t,h4,d9q,d9u]) (.inl rfl) ?_
         refine next tr _ B E _ W ((aR ..).1 (hr.e h5)) (by rw[cM];exact hf) (by rw[e3a];exact hnx) (by rw[e3a];refine(hweak hs).put o.dst ?_;exact c4f)
        ·refine cE (by rw[ho];simp) (v:= .tuple #[.bool true,aJ kt k,jW kt x]) (W':=W') (by simp only[execOp,ho,d9t,h7,d9q,d9u]) (.inl rfl) ?_
         refine next tr _ B E _ W' ((aR ..).1 (a4d.1 hr.s k h6 x h4 h5)) (by rw[cM];exact hf) (by rw[e3a];exact hnx) (by rw[e3a];refine(hweak h8).put o.dst ?_;exact c4e h6)
       ·cases hnx
      ·cases hnx
     ·cases hnx
    ·split at hr
     ·rename_i m bb hnl
      unfold c3y at hnl
      split at hnl
      ·rename_i bop bt yo bt' ho
       split at hnl
       ·rename_i tt kk m' ff hyo
        split at hnl
        ·rename_i te tz ts tb tq tm ht
         have hrep:=hs.ev yo
         rw[hyo]at hrep
         obtain⟨aa,cap,hval,hcap,_,hnone,_⟩:=hrep
         have hweak:Sat B (frn base ops.size st.next (i::done)) E st a W:=hs.weak λj hj=>⟨⟨hj.1.1,λq hq=>hj.1.2 q (d9v _ hq)⟩,hj.2⟩
         have hk:=hT bt _ ht
         have heq:(Op.equal bt (a.eval yo) (.slice none 0 0)).run P W= .ok aa.isNone W:=by
          rw[hval,show Op.equal bt=Op.equalIn (9999+1) bt from rfl,Op.equalIn]
          simp only[d9t,hk.und,d9q]
          cases aa with
          |none=>simp only[e4m,Option.isNone_none,d9u]
          |some z=>simp only[e1y,Option.isNone_some,d9u]
         have hg:(eqGuard bop bt yo (.const (.slice none 0 0)) (a.eval yo) (.slice none 0 0)).run P W= .ok () W:=by
          rw[hval]
          unfold eqGuard
          split<;>rfl
         have hev:∀v,a.eval (.const v)=v:=λ_=>rfl
         have key:∀b:Bool,(binOp bop bt (a.eval yo) (.slice none 0 0)).run P W= .ok (.bool b) W->cP P T y none ol base l tr (st.put o.dst (.d (.v (.bool b)))) K->wpOpIn (Fr0 ro) n P ops Q i (wpOpsIn (Fr0 ro) n P ops Q (l.map (·.1))) a W:=by
          intro b hb hK
          unfold wpOpIn
          rw[hi]
          simp only
          rw[cC hs hol hw]
          simp only[e4b]
          refine cE (by rw[ho];simp) (v:= .bool b) (W':=W) (by simp only[execOp,ho,hev,d9t,hg,hb,d9q,d9u]) (.inl rfl) ?_
          exact next tr _ B E _ W hK (by rw[cM];exact hf) (by rw[e3a];exact hnx) (by rw[e3a];exact hweak.put o.dst rfl)
         have hn0:aa.isNone=true->m'=0:=by
          intro he
          have:=hnone (Option.isNone_iff_eq_none.1 he)
          omega
         split at hnl
         ·cases hnl
          have hb:(binOp .eql bt (a.eval yo) (.slice none 0 0)).run P W= .ok (.bool aa.isNone) W:=by
           rw[hval]at heq⊢
           simp only[binOp,heq,d9t,d9q,d9u]
          cases hA:aa.isNone with
          |true=>exact key true (by rw[hb,hA]) ((aR ..).1 (hr.t (hn0 hA)))
          |false=>exact key false (by rw[hb,hA]) ((aR ..).1 hr.f)
         ·cases hnl
          have hb:(binOp .neq bt (a.eval yo) (.slice none 0 0)).run P W= .ok (.bool (!aa.isNone)) W:=by
           rw[hval]at heq⊢
           simp only[binOp,heq,d9t,d9q,d9u]
          cases hA:aa.isNone with
          |true=>exact key false (by rw[hb,hA];rfl) ((aR ..).1 (hr.t (hn0 hA)))
          |false=>exact key true (by rw[hb,hA];rfl) ((aR ..).1 hr.f)
         ·cases hnl
        ·cases hnl
       ·cases hnl
      ·cases hnl
     ·split at hr
      ·rename_i id e k off m1 f1 c1 m2 g1 hap
       have hF:frn base ops.size st.next done (base+i):=⟨⟨e5r _ _,λq hq e=>hd ((show i=q by omega)▸hq)⟩,λh=>absurd h hX⟩
       have hfw:∀j,frn base ops.size st.next (i::done) j->frn base ops.size st.next done j/\j≠base+i:=λj hj=>⟨⟨⟨hj.1.1,λq hq=>hj.1.2 q (d9v _ hq)⟩,hj.2⟩,hj.1.2 i (d9y ..)⟩
       obtain⟨o',hh',ho',hmade⟩:=a9y (i:=base+i) hT hs hF (ρ:=a.eval) hs.ev o hap hr.ok
       have hK:cJ ((apS st (base+i) id e k o' m1 m2 hh').put o.dst (.ms (base+i) k o' (m1+m2))) λs=>cP P T y none ol base l tr s K:=by
        rcases ho' with⟨rfl,rfl⟩|⟨rfl,rfl⟩
        ·exact hr.z hr.ok
        ·exact hr.o hr.ok
       obtain⟨E',r',v,W',hrun,h1,h2,h3⟩:=hmade
       unfold wpOpIn
       rw[hi]
       simp only
       rw[cC hs hol hw]
       simp only[e4b]
       refine cE (b6k hap) hrun h1 ?_
       refine next tr _ B E' _ W' ((aR ..).1 hK) (by rw[cM];exact hf) (by rw[e3a];exact hnx) (by rw[e3a];exact(h2.weak hfw).put o.dst h3)
      ·unfold fin at hr
       split at hr
       ·exact hr.elim
       ·rename_i c x s hst
        obtain⟨hc,h5⟩:=(b3d λht=>yO ht hst).1 hr
        simp only[chk]at h5
        obtain⟨hb,h6⟩:=(vF ..).1 h5
        exact step tr (.run (.dv .top) c x s hw hst hc hb) (by rw[cM];exact a3p hst) ((aR ..).1 h6)
theorem zV (hT:bQ P T)(hm:P.follows .mixedOrders=true){F:Fam P y np}{ro:Option Nat}{n:Nat}{id:Nat}{ops:Array Oper}{draw:Bool}{st:St}{Q:Exit->St->Prop}{r:Bool}(h:ex P T cuts r y np (.region id ops draw) st Q)
  {R:Exit->Act->World->Prop} {a:Act} {W:World} (hs:xK F st a W) (hq:∀e st' a' W',Q e st'->xK F st' a' W'->R e a' W'):(Code.region id ops draw).wpIn (Fr0 ro) n P R a W:=by
 obtain⟨B,E,hf,hs⟩:=hs
 have hs0:Sat B (frd st.next []) E {st with next:=st.next+ops.size} a W:=(hs.weak λj hj=>hj.1).next _
 have hlast':∀(st':St) (B':Base) (done:List Nat) E' a' W',(∀k∈done,k<ops.size)->cJ st' (Q .normal)->F.f st'.gh B'->st.next+ops.size<=st'.next->Sat B' (frn st.next ops.size st'.next done) E' st' a' W'->R .normal a' W':=by
  intro st' B' done E' a' W' hdn hK hf' hnx h1
  refine hq .normal _ a' W' ((aR ..).1 hK) ⟨B',E',hf',?_⟩
  exact h1.weak (Fr':=λj=>st'.next<=j) λj hj=>⟨⟨by omega,λk hk=>by have:=hdn k hk;omega⟩,λ_=>hj⟩
 cases draw with
 |true=>
  rcases uS _ 0 _ _ _ rfl h with⟨st',hrun,hK⟩|⟨p,i,o,st',hp,hrun,as,ms,N,ι,ms',z,g,l',hw,hlast,hco,hls⟩
  ·have hnx:st'.next=st.next+ops.size:=hrun.next
   exact a7u hT hm hrun hs0 λE' a' W' h1 h2=>hlast' st' B _ E' a' W' (λk hk=>e1e.1 hk) hK (hrun.gh▸hf) (by omega) (h1.weak λj hj=>hj.1)
  ·have hnx:st'.next=st.next+ops.size:=hrun.next
   refine a1z hT hm hp hrun hlast hs0 λdone E' a' W' K hM hdn h1 _ hK=>?_
   have hMl:=(d9w.1 hM).1
   unfold wpOpIn
   rw[hM]
   simp only
   rw[cC h1 rfl hw]
   simp only[e4b]
   refine yZ h1 (⟨e5r _ _,λq hq e=>by have:=hdn q hq;omega⟩:frd st.next done (st.next+i)) (λj hj=>⟨by omega,λq hq e=>by have:=hdn q hq;omega⟩) (by omega) hco hls λE2 a2 W2 s2 k1 k2 k3 k4=>?_
   refine hK _ _ (hlast' s2 B (i::done) E2 a2 W2 (λk hk=>?_) ((aR ..).2 ((aR ..).1 k1)) (k2▸hrun.gh▸hf) (by omega) (k4.weak λj hj=>⟨⟨hj.1.1,λq hq=>hj.1.2 q (d9v _ hq)⟩,hj.1.2 i (d9y ..),λh=>hj.2 (by omega)⟩))
   rcases e0b.1 hk with rfl|hk
   ·exact hMl
   ·have:=hdn k hk;omega
 |false=>
  refine wpIn_region ?_
  have e:List.range ops.size=(vA 0 ops.toList).map (·.1):=by rw[qH,e6b,e1c]
  rw[e]
  refine oV hT rfl _ _ _ [] B E a W h hf (e0g _) (λ_ hq=>by cases hq) (hs0.weak λj hj=>hj.1) (λp hp=>?_) ?_ (λp hp=>by simp) λst' B' E' a' W' k1 k2 k4 k3=>hlast' st' B' _ E' a' W' ?_ k1 k2 k4 k3
  ·have:=(kU _ _ _ hp).2;simpa using this
  ·rw[<-e];exact List.nodup_range
  ·intro k hk;rw[<-e]at hk;simpa using hk
end
theorem Stp.weak {o o':Nat->Prop}{W W':World}(h:Stp o W W')(hw:∀b,b<W.heap.size->o b->o' b):Stp o' W W':=
 ⟨h.os,h.tape,h.output,h.size,λk hk hn=>h.block k hk λho=>hn (hw k hk ho),h.sh⟩
theorem Stp.put {o:Nat->Prop}{W:World}{p:Nat}{x:Obj}(ho:o p)(hnc:∀c T,W.heap[p]?≠some (Obj.cells c T (0,0))):Stp o W (W.putObj p x):=
 ⟨rfl,rfl,rfl,by rw[e2t];exact e0g _,λk _ hk=>e1x λe=>hk (e▸ho),λb c T hb=>⟨c,(e1x λe=>hnc c T (by rw[<-e];exact hb)).trans hb,rfl⟩⟩
theorem Ev.trans {E E1 E2:Env}{W W1 W2:World}(h:Ev E W E1 W1)(k:Ev E1 W1 E2 W2):Ev E W E2 W2:=
 ⟨λb hb=>k.s b (h.s b hb),λb hb=>(k.k b (h.s b hb)).trans (h.k b hb),λid hid=>(k.r id (by rw[h.r id hid];exact hid)).trans (h.r id hid),λb c T hb=>by
  obtain⟨c1,h1,h2⟩:=h.sh b c T hb
  obtain⟨c2,h3,h4⟩:=k.sh b c1 T h1
  exact⟨c2,h3,h4.trans h2⟩⟩
theorem Sat.putNC {B B':Base}{Fr:Nat->Prop}{E:Env}{st:St}{a:Act}{W:World}(hB:B'.ow=B.ow/\B'.S0=B.S0/\B'.ρ0=B.ρ0)(h:Sat B Fr E st a W){p:Nat}{x:Obj}
  (hnm:∀o,W.heap[p]?=some o->b2i o=false) (hD:p∉E.D) (hS:¬E.S p) (hg:B'.G (W.putObj p x)):Sat B' Fr E st a (W.putObj p x):=by
 obtain⟨b1,b2,b3⟩:=hB
 have hnc:∀c T,W.heap[p]?≠some (Obj.cells c T (0,0)):=λc T e=>by have:=hnm _ e;cases this
 have hoth:∀k,k≠p->(W.putObj p x).heap[k]?=W.heap[k]?:=λk hk=>e1x hk
 have hev:Ev E W E (W.putObj p x):=⟨λ_ h=>h,λb hb=>hoth b λe=>hS (e▸hb),λ_ _=>rfl,λb c T hb=>⟨c,(hoth b λe=>hnc c T (e▸hb)).trans hb,rfl⟩⟩
 have hown:∀mt b,Own B E mt b->Own B' E mt b:=by
  intro mt b ho
  unfold Own at*
  rw[b1];exact ho
 have hR:∀id r,SatR B E W id r->SatR B' E (W.putObj p x) id r:=by
  intro id r hr
  have hr':=hr.ev hev (λb hb=>hoth b λe=>by
   obtain⟨o,hc,hm⟩:=bY hr hb
   rw[hnm o (e▸hc)]at hm;cases hm) (λ_ _ _ hn=>hn)
  cases r with
  |cs mt n f=>obtain⟨b,c,T,k1,k2,k3,k4,k5⟩:=hr';exact⟨b,c,T,k1,k2,k3,hown _ _ k4,k5⟩
  |row mt T k n f=>
   rcases hr' with k|⟨b,c,k1,k2,k3,k4,k5⟩
   ·exact .inl k
   ·exact .inr ⟨b,c,k1,k2,k3,hown _ _ k4,k5⟩
  |mp mt kt m=>obtain⟨b,es,c,k1,k2,k4,k5⟩:=hr';exact⟨b,es,c,k1,k2,hown _ _ k4,k5⟩
  |it mt kt m seen cur=>obtain⟨b,r,es,c,sn,k1,k2,k4,k5⟩:=hr';exact⟨b,r,es,c,sn,k1,k2,hown _ _ k4,k5⟩
  |me mt kt m l born=>obtain⟨b,es,c,k1,k2,k4,k5⟩:=hr';exact⟨b,es,c,k1,k2,hown _ _ k4,k5⟩
 exact⟨h.size,λi hi=>(h.tm i hi).ev hev,λid r hid=>hR id r (h.hp id r hid),h.dist,h.fr,λb hb=>h.sub b (b2▸hb),λb hb=>by rw[e2t,b1,b2];exact h.sup b hb,
  λb hb=>by rw[e2t,b1];exact h.s0 b (b2▸hb),h.df,h.dn,λD hD'=>by
   obtain⟨d1,d2,d3⟩:=h.dd D hD'
   exact⟨b1▸d1,d2,(hoth D λe=>hD (e▸hD')).trans d3⟩,hg,λid hid=>by rw[b3]at hid⊢;exact h.r0 id hid⟩
theorem b1w (st:St):∀l:List Nat,(st.frzs l).n=st.n
 |[]=>rfl
 |id::l=>by
  show((st.frz id).frzs l).n=_
  rw[b1w]
  unfold St.frz
  split<;>rfl
theorem yK (st:St):∀l:List Nat,(st.frzs l).next=st.next
 |[]=>rfl
 |id::l=>by
  show((st.frz id).frzs l).next=_
  rw[yK]
  unfold St.frz
  split<;>rfl
theorem rY {st:St}:∀{x z:List AV},gQ st (x++z)->gQ st x/\gQ st z
 |[],_,h=>⟨trivial,h⟩
 |_::_,_,h=>⟨⟨h.1,(rY h.2).1⟩,(rY h.2).2⟩
theorem b4s {E:Env}{W:World}{f:AV}{u:Value}(hu:aK E W f u){g:Nat}{A C:List AV}(h:seqOf f=some (g,A,C)):∃fs cs:Array Value,u= .func (.func g) fs cs/\A.length=fs.toList.length/\C.length=cs.toList.length/\
  (∀j,j<A.length->aK E W (A.getD j (.d .top)) (fs.toList.getD j undef))/\∀j,j<C.length->aK E W (C.getD j (.d .top)) (cs.toList.getD j undef):=by
 unfold seqOf at h
 split at h
 ·rename_i n m f' c'
  cases h
  obtain⟨fs,cs,rfl,h1,h2,h3,h4⟩:=hu
  refine⟨fs,cs,rfl,by simp[h1],by simp[h2],λj hj=>?_,λj hj=>?_⟩
  ·simp only[e0z,e2o]at hj
   rw[cA _ _ _ _ hj]
   simpa[d9r,d9x]using h3 j hj
  ·simp only[e0z,e2o]at hj
   rw[cA _ _ _ _ hj]
   simpa[d9r,d9x]using h4 j hj
 ·rename_i n m f' c'
  cases h
  obtain⟨fs,cs,rfl,h1,h2,h3,h4⟩:=hu
  refine⟨fs,cs,rfl,by simp[h1],by simp[h2],λj hj=>?_,λj hj=>?_⟩
  ·simp only[e0z,e2o]at hj
   rw[cA _ _ _ _ hj]
   have:=h3 j hj
   simpa[aK,Rep,d9r,d9x]using this
  ·simp only[e0z,e2o]at hj
   rw[cA _ _ _ _ hj]
   have:=h4 j hj
   simpa[aK,Rep,d9r,d9x]using this
 ·cases h
theorem a2z {E:Env}{W:World}{n:Nat}{ρ:Nat->Loc}(hρ:∀j,j<n->ρ j=E.ρ j):∀{x:AV} {u:Value},eJ n x=true->aK E W x u->aK {E with ρ:=ρ} W x u:=by
 intro x
 induction x with
 |d y=>exactλ_ h=>h
 |ref i o=>rintro u h ⟨b,hb,rfl⟩;exact⟨b,(hρ i (aG.1 h)).trans hb,rfl⟩
 |el i k j o=>rintro u h ⟨b,hb,rfl⟩;exact⟨b,(hρ i (aG.1 h)).trans hb,rfl⟩
 |ms i k o m=>
  rintro u h (⟨hb,h1⟩|⟨b,o',cap,c,T,hb,h1⟩)
  ·exact .inl ⟨(hρ i (aG.1 h)).trans hb,h1⟩
  ·exact .inr ⟨b,o',cap,c,T,(hρ i (aG.1 h)).trans hb,h1⟩
 |mp i=>rintro u h ⟨b,hb,rfl⟩;exact⟨b,(hρ i (aG.1 h)).trans hb,rfl⟩
 |sub i k j=>rintro u h ⟨b,hb,rfl⟩;exact⟨b,(hρ i (aG.1 h)).trans hb,rfl⟩
 |stp i=>rintro u h ⟨b,hb,rfl⟩;exact⟨b,(hρ i (aG.1 h)).trans hb,rfl⟩
 |tp m f ih=>
  rintro u h ⟨cs,rfl,hs,hc⟩
  have h:((List.range m).all λj=>eJ n (f j))=true:=h
  rw[e1d]at h
  exact⟨cs,rfl,hs,λj hj=>ih j (h j (e1e.2 hj)) (hc j hj)⟩
 |ag m f ih=>
  rintro u h ⟨cs,rfl,hs,hc⟩
  have h:((List.range m).all λj=>eJ n (f j))=true:=h
  rw[e1d]at h
  exact⟨cs,rfl,hs,λj hj=>⟨ih j (h j (e1e.2 hj)) (hc j hj).1,(hc j hj).2⟩⟩
 |fn g a b f c ih1 ih2=>
  rintro u h ⟨fs,cs,rfl,h1,h2,h3,h4⟩
  have h:(((List.range a).all λj=>eJ n (f j))&&(List.range b).all λj=>eJ n (c j))=true:=h
  rw[e0d,e1d,e1d]at h
  exact⟨fs,cs,rfl,h1,h2,λj hj=>ih1 j (h.1 j (e1e.2 hj)) (h3 j hj),λj hj=>ih2 j (h.2 j (e1e.2 hj)) (h4 j hj)⟩
theorem gI.length {S:Nat->Prop}{w:World}:∀{xs:List DV} {us:List Value},gI S w xs us->xs.length=us.length
 |[],[],_=>rfl
 |_::_,_::_,h=>by simp[gI.length h.2]
theorem b9d:∀(st:St) (ps:List Nat) (ds:List DV),(putAll st ps ds).n=st.n
 |st,[],ds=>by cases ds<;>rfl
 |st,p::ps,[]=>rfl
 |st,p::ps,d::ds=>by rw[putAll,b9d];rfl
theorem zP:∀(st:St) (ps:List Nat) (ds:List DV),(putAll st ps ds).hp=st.hp/\(putAll st ps ds).next=st.next/\(putAll st ps ds).gh=st.gh
 |st,[],ds=>by cases ds<;>exact⟨rfl,rfl,rfl⟩
 |st,p::ps,[]=>⟨rfl,rfl,rfl⟩
 |st,p::ps,d::ds=>by rw[putAll];exact zP _ ps ds
theorem Sat.putAll {B:Base}{Fr:Nat->Prop}{E:Env}{W:World}:∀{ps:List Nat} {ds:List DV} {us:List Value} {st:St} {tmps:Array Value} {df:List Deferred},Sat B Fr E st ⟨tmps,df⟩ W->gI E.S W ds us->
  Sat B Fr E (putAll st ps ds) ⟨(ps.zip us).foldl (λt p=>t.setIfInBounds p.1 p.2) tmps,df⟩ W
 |[],ds,us,st,tmps,df,h,_=>by cases ds<;>exact h
 |p::ps,[],[],st,tmps,df,h,_=>h
 |p::ps,d::ds,u::us,st,tmps,df,h,hr=>by
  have:=h.put (some p) (x:= .d d) (u:=u) hr.1
  exact Sat.putAll (ps:=ps) this hr.2
section
variable {P:Program} {T:Nat->Option TI} {cuts:List Nat} {y:Option Yp} {np:Nat}
structure Lc where
  P:Program
  B:Base
  W:World
  W1:World
  E1:Env
  Ec:Env
  D0:List Nat
  n:Nat
  np':Nat
  tms:List (Nat×AV)
  gh:Option Nat
  a1:Act
  l:Nat
  D:Nat
def Lc.st (X:Lc)(r:Nat×List (Nat×Res)):St:=(⟨r.1,X.tms,r.2,X.gh⟩:LS).st X.n
structure Inv0 (X:Lc)(r:Nat×List (Nat×Res))(E':Env)(fo:Nat->Prop)(w:World):Prop where
  sat:Sat X.B (λj=>r.1<=j) E' (X.st r) X.a1 w
  dD:E'.D=X.D::X.D0
  ev:Ev X.Ec X.W E' w
  fob:∀b,fo b->X.W1.heap.size<=b/\b<w.heap.size
  sz:X.W1.heap.size<=w.heap.size
  sS:∀b,E'.S b->b<X.W.heap.size\/fo b
  sl:∀id b,(X.st r).hp id≠none->E'.ρ id= .at b->b<X.W.heap.size\/fo b
structure LcOk (X:Lc):Prop where
  hl:X.l=X.W.heap.size+1
  hD:X.D=X.W.heap.size
  hW1:X.W1.heap.size=X.W.heap.size+2
  how:∀b,X.W.heap.size<=b->X.B.ow b
  hS1:∀b,X.E1.S b->b<X.W.heap.size
  hEc:X.Ec.S=X.E1.S
  hD0:∀d,d∈X.D0->d<X.W.heap.size
  hsup:∀b,X.E1.S b->X.B.S0 b\/X.B.ow b
  tm:∀i,i<X.n->aK X.Ec X.W (pL (.d .top) X.tms i) (X.a1.tmps.getD i undef)
  sz:X.a1.tmps.size=X.n
  df:X.a1.defers=(X.D::X.D0).map mark
  dn:(X.D::X.D0).Nodup
  dow:∀d,d∈X.D0->X.B.ow d
  r0:∀id,X.B.ρ0 id≠ .un->X.Ec.ρ id=X.B.ρ0 id
theorem Inv0.stp {X:Lc}(hX:LcOk X){r:Nat×List (Nat×Res)}{E':Env}{fo:Nat->Prop}{w w':World}(h:Inv0 X r E' fo w)(hs:Stp (λb=>X.W1.heap.size<=b/\¬fo b) w w'):Inv0 X r E' fo w':=by
 have hno:∀b,(b<X.W.heap.size\/fo b)->¬(X.W1.heap.size<=b/\¬fo b):=by
  rintro b (h1|h1) ⟨h2,h3⟩
  ·have:=hX.hW1;omega
  ·exact h3 h1
 have hS:∀b,E'.S b->w'.heap[b]?=w.heap[b]?:=λb hb=>hs.block b (h.sat.S_lt b hb) (hno b (h.sS b hb))
 have hev:Ev E' w E' w':=⟨λ_ h=>h,hS,λ_ _=>rfl,hs.sh⟩
 have hDlt:∀d,d∈E'.D->d<X.W.heap.size+1:=λd hd=>by
  rw[h.dD]at hd
  rcases e0b.1 hd with rfl|hd
  ·rw[hX.hD];omega
  ·have:=hX.hD0 d hd;omega
 have hDsame:∀d,d∈E'.D->w'.heap[d]?=w.heap[d]?:=λd hd=>hs.block d (d9w.1 (h.sat.dd d hd).2.2).1 (λho=>by
  have:=hDlt d hd;have:=hX.hW1;omega)
 refine⟨h.sat.go hev (λid b hi hb=>hs.block b (h.sat.at_lt hi hb) (hno b (h.sl id b hi hb))) (λ_ _ _ _ _ hn=>hn) (λ_=>rfl) (λb hb=>(h.sat.sup b hb).imp id λx=>⟨x.1,e1g x.2 hs.size⟩) rfl
  (λd hd=>⟨hDsame d hd,(h.sat.dd d hd).2.1⟩) (hs.weak λb _ ho=>hX.how b (by have:=hX.hW1;omega)),h.dD,h.ev.trans hev,λb hb=>⟨(h.fob b hb).1,e1g (h.fob b hb).2 hs.size⟩,e2h h.sz hs.size,h.sS,h.sl⟩
def b9f (X:Lc)(w:World)(S:Nat->Prop)(ow:Nat->Prop)(hw:∀b,w.heap.size<=b->ow b)(hl:¬ow X.l)(hll:X.l<w.heap.size)(L:Obj):Base:=
  ⟨ow,S,X.Ec.ρ,λw'=>Stp (λb=>ow b\/b=X.l) w w'/\w'.heap[X.l]?=some L,
    λw1 w2 h1 h2=>⟨h1.1.trans (h2.weak λ_ _ h=> .inl h),(h2.block X.l (e1g hll h1.1.size) hl).trans h1.2⟩,λw1 h1 b hb=>hw b (e2h h1.1.size hb)⟩
theorem a9b {X:Lc}(hX:LcOk X){r r':Nat×List (Nat×Res)}{E' Ei Er:Env}{fo S0:Nat->Prop}{w w3:World}(h:Inv0 X r E' fo w){L L':Obj}(hLw:∀o,w.heap[X.l]?=some o->b2i o=false)(hL:b2i L=false)(hLd:L≠ .deferred (some []))(hLwd:w.heap[X.l]?≠some (.deferred (some [])))
  {ow:Nat->Prop} (how:∀b,ow b↔((∃id,(X.st r).hp id≠none/\E'.ρ id= .at b/\¬E'.S b)\/w.heap.size<=b)) {hw:∀b,w.heap.size<=b->ow b} {hl:¬ow X.l} {hll:X.l<w.heap.size}
  {Bi Bi':Base} {Fri:Nat->Prop} {sti:St} {ai:Act} (hBi:(∀b,Bi.ow b↔(X.W1.heap.size<=b/\¬fo b))/\Bi.S0=S0/\∀id,Bi.ρ0 id= .un) (hS0:∀b,S0 b->X.E1.S b\/fo b)
  (hsi:Sat Bi Fri Ei sti ai w) {st':St} {a':Act} (hs':Sat (b9f X w (λb=>E'.S b\/Ei.S b) ow hw hl hll L) (λj=>st'.next<=j) Er st' a' w3) (hedge:Edge X.np' st' ⟨r'.1,[],r'.2,some 0⟩)
  (hnp:∀j,X.Ec.ρ j≠ .un->j<X.np')
  (hBi':(∀b,Bi'.ow b↔(X.W1.heap.size<=b/\¬(fo b\/(w.heap.size<=b/\b<w3.heap.size)\/(Ei.S b/\X.W1.heap.size<=b))))/\Bi'.S0=Ei.S/\∀id,Bi'.ρ0 id= .un)
  (hg:∀E'',Inv0 X r' E'' (λb=>fo b\/(w.heap.size<=b/\b<w3.heap.size)\/(Ei.S b/\X.W1.heap.size<=b)) (w3.putObj X.l L')->(∀b,Ei.S b->E''.S b)->Bi'.G (w3.putObj X.l L')):
  Sat Bi' Fri Ei sti ai (w3.putObj X.l L'):=by
 have hsz:=hX.hW1
 have hll':=hX.hl
 have hstp:Stp (λb=>ow b\/b=X.l) w w3:=hs'.g.1
 have hheapl:w3.heap[X.l]?=some L:=hs'.g.2
 have hL3:∀c T,w3.heap[X.l]?≠some (Obj.cells c T (0,0)):=λc T e=>by rw[hheapl]at e;cases e;cases hL
 have hstp4:Stp (λb=>ow b\/b=X.l) w (w3.putObj X.l L'):=hstp.trans (Stp.put (.inr rfl) hL3)
 have h4sz:(w3.putObj X.l L').heap.size=w3.heap.size:=e2t
 have howlive:∀b,ow b->b<w.heap.size->(b<X.W.heap.size\/fo b)/\X.B.ow b/\(∃o,w.heap[b]?=some o/\b2i o=true)/\¬E'.S b:=by
  intro b hb hlt
  rcases(how b).1 hb with⟨id,h1,h2,h3⟩|h1
  ·refine⟨h.sl id b h1 h2,?_,?_,h3⟩
   ·cases hr:(X.st r).hp id with
    |none=>exact absurd hr h1
    |some rr=>
     obtain⟨mt,ho⟩:=a4m (h.sat.hp id rr hr) h2
     cases mt with
     |true=>exact ho.2
     |false=>exact absurd ho h3
   ·cases hr:(X.st r).hp id with
    |none=>exact absurd hr h1
    |some rr=>exact bY (h.sat.hp id rr hr) h2
  ·omega
 have hEiS:∀b,Ei.S b->(X.E1.S b\/fo b)\/(X.W1.heap.size<=b/\¬fo b):=by
  intro b hb
  rcases hsi.sup b hb with h1|h1
  ·rw[hBi.2.1]at h1;exact .inl (hS0 b h1)
  ·exact .inr ((hBi.1 b).1 h1.1)
 have hE1S:∀b,X.E1.S b->E'.S b:=λb hb=>h.ev.s b (by rw[hX.hEc];exact hb)
 have hSr:∀b,(E'.S b\/Ei.S b)->¬ow b/\b<w.heap.size/\b≠X.l:=by
  intro b hb
  have hlt:b<w.heap.size:=hb.elim (h.sat.S_lt b) (hsi.S_lt b)
  refine⟨λho=>?_,hlt,λe=>?_⟩
  ·obtain⟨k1,_,_,k4⟩:=howlive b ho hlt
   rcases hb with hb|hb
   ·exact k4 hb
   ·rcases hEiS b hb with(k|k)|k
    ·exact k4 (hE1S b k)
    ·have:=hsi.s0
     have k5:=(hs'.s0 b (show E'.S b\/Ei.S b from .inr hb)).1
     exact k5 ho
    ·rcases k1 with k1|k1
     ·omega
     ·exact k.2 k1
  ·subst e
   rcases hb with hb|hb
   ·rcases h.sS _ hb with k|k
    ·omega
    ·have:=(h.fob _ k).1;omega
   ·rcases hEiS _ hb with(k|k)|k
    ·have:=hX.hS1 _ k;omega
    ·have:=(h.fob _ k).1;omega
    ·omega
 have hkeep:∀b,(E'.S b\/Ei.S b)->(w3.putObj X.l L').heap[b]?=w.heap[b]?:=λb hb=>by
  obtain⟨k1,k2,k3⟩:=hSr b hb
  exact hstp4.block b k2 λk=>k.elim k1 k3
 obtain⟨mE,hm1,hm2,hedge⟩:=hedge.ex
 have hsE:=hedge.sat0 hm1 hm2 (B:=b9f X w (λb=>E'.S b\/Ei.S b) ow hw hl hll L) (λj hj=>hnp j hj) (λp hp=>by cases hp) hs'
 let E'':Env:=⟨Er.S,(Er.ren mE).ρ,X.D::X.D0⟩
 have hErS:∀b,(E'.S b\/Ei.S b)->Er.S b:=λb hb=>hsE.sub b hb
 have hErsup:∀b,Er.S b->(E'.S b\/Ei.S b)\/(ow b/\b<w3.heap.size):=λb hb=>hsE.sup b hb
 have hEr_l:¬Er.S X.l:=λhb=>by
  rcases hErsup _ hb with k|k
  ·exact(hSr _ k).2.2 rfl
  ·exact hl k.1
 have hDw:∀d,d∈X.D::X.D0->X.B.ow d/\¬E'.S d/\w.heap[d]?=some (.deferred (some [])):=λd hd=>h.sat.dd d (by rw[h.dD];exact hd)
 have hDlt:∀d,d∈X.D::X.D0->d<X.W1.heap.size/\d≠X.l:=λd hd=>by
  rcases e0b.1 hd with rfl|hd
  ·rw[hX.hD];constructor<;>omega
  ·have:=hX.hD0 d hd;constructor<;>omega
 have hDnow:∀d,d∈X.D::X.D0->¬ow d:=λd hd ho=>by
  obtain⟨_,_,⟨o,hc,hm⟩,_⟩:=howlive d ho (by have:=(hDlt d hd).1;have:=h.sz;omega)
  rw[(hDw d hd).2.2]at hc;cases hc;cases hm
 have hev34:Ev (Er.ren mE) w3 E'' (w3.putObj X.l L'):=⟨λ_ h=>h,λb hb=>e1x λe=>hEr_l (e▸hb),λ_ _=>rfl,(Stp.put (o:=λb=>b=X.l) rfl hL3).sh⟩
 have howB:∀b,ow b->X.B.ow b:=λb hb=>by
  rcases e4r b w.heap.size with k|k
  ·exact(howlive b hb k).2.1
  ·exact hX.how b (by have:=h.sz;omega)
 have hEv:Ev X.Ec X.W E'' (w3.putObj X.l L'):=by
  refine⟨λb hb=>hErS b (.inl (h.ev.s b hb)),λb hb=>(hkeep b (.inl (h.ev.s b hb))).trans (h.ev.k b hb),λid hid=>hsE.r0 id hid,λb c T hb=>?_⟩
  obtain⟨c1,k1,k2⟩:=h.ev.sh b c T hb
  obtain⟨c2,k3,k4⟩:=hstp4.sh b c1 T k1
  exact⟨c2,k3,k4.trans k2⟩
 have hinv:Inv0 X r' E'' (λb=>fo b\/(w.heap.size<=b/\b<w3.heap.size)\/(Ei.S b/\X.W1.heap.size<=b)) (w3.putObj X.l L'):=by
  have hsS:∀b,Er.S b->b<X.W.heap.size\/(fo b\/(w.heap.size<=b/\b<w3.heap.size)\/(Ei.S b/\X.W1.heap.size<=b)):=by
   intro b hb
   rcases hErsup b hb with(k|k)|k
   ·exact(h.sS b k).imp id .inl
   ·rcases hEiS b k with(k1|k1)|k1
    ·exact .inl (hX.hS1 b k1)
    ·exact .inr (.inl k1)
    ·exact .inr (.inr (.inr ⟨k,k1.1⟩))
   ·rcases e4r b w.heap.size with k1|k1
    ·exact(howlive b k.1 k1).1.imp id .inl
    ·exact .inr (.inr (.inl ⟨k1,k.2⟩))
  have hsat:Sat X.B (λj=>r'.1<=j) E'' (X.st r') X.a1 (w3.putObj X.l L'):=by
   refine⟨hX.sz,λi hi=>(hX.tm i hi).ev hEv,λid rr hid=>?_,hsE.dist,hsE.fr,λb hb=>hErS b (.inl (h.sat.sub b hb)),λb hb=>?_,λb hb=>⟨(h.sat.s0 b hb).1,by rw[h4sz];exact e1g (h.sat.s0 b hb).2 hstp.size⟩,hX.df,hX.dn,λd hd=>?_,?_,λid hid=>?_⟩
   ·have hr0:=(hsE.hp id rr hid).ev hev34 (λb hb=>e1x λe=>by
     obtain⟨o,hc,hm⟩:=bY (hsE.hp id rr hid) hb
     rw[e,hheapl]at hc;cases hc;rw[hL]at hm;cases hm) (λ_ _ _ hn=>hn)
    have hown:∀mt b,Own (b9f X w (λb=>E'.S b\/Ei.S b) ow hw hl hll L) E'' mt b->Own X.B E'' mt b:=by
     intro mt b ho
     cases mt with
     |true=>exact⟨ho.1,howB b ho.2⟩
     |false=>exact ho
    cases rr with
    |cs mt n f=>obtain⟨b,c,T,k1,k2,k3,k4,k5⟩:=hr0;exact⟨b,c,T,k1,k2,k3,hown _ _ k4,k5⟩
    |row mt T k n f=>
     rcases hr0 with k|⟨b,c,k1,k2,k3,k4,k5⟩
     ·exact .inl k
     ·exact .inr ⟨b,c,k1,k2,k3,hown _ _ k4,k5⟩
    |mp mt kt m=>obtain⟨b,es,c,k1,k2,k4,k5⟩:=hr0;exact⟨b,es,c,k1,k2,hown _ _ k4,k5⟩
    |it mt kt m seen cur=>obtain⟨b,r,es,c,sn,k1,k2,k4,k5⟩:=hr0;exact⟨b,r,es,c,sn,k1,k2,hown _ _ k4,k5⟩
    |me mt kt m l born=>obtain⟨b,es,c,k1,k2,k4,k5⟩:=hr0;exact⟨b,es,c,k1,k2,hown _ _ k4,k5⟩
   ·rw[h4sz]
    have hlt:b<w3.heap.size:=hsE.S_lt b hb
    rcases hErsup b hb with(k|k)|k
    ·exact(h.sat.sup b k).imp id λx=>⟨x.1,hlt⟩
    ·rcases hEiS b k with(k1|k1)|k1
     ·exact(hX.hsup b k1).imp id λx=>⟨x,hlt⟩
     ·exact .inr ⟨hX.how b (by have:=(h.fob b k1).1;omega),hlt⟩
     ·exact .inr ⟨hX.how b (by omega),hlt⟩
    ·exact .inr ⟨howB b k.1,hlt⟩
   ·obtain⟨k1,k2,k3⟩:=hDw d hd
    refine⟨k1,λhb=>?_,(hstp4.block d (d9w.1 k3).1 λk=>k.elim (hDnow d hd) (hDlt d hd).2).trans k3⟩
    rcases hErsup d hb with(k|k)|k
    ·exact k2 k
    ·rcases hEiS d k with(k4|k4)|k4
     ·exact k2 (hE1S d k4)
     ·have:=(h.fob d k4).1;have:=(hDlt d hd).1;omega
     ·have:=(hDlt d hd).1;omega
    ·exact hDnow d hd k.1
   ·exact X.B.hG _ _ h.sat.g (hstp4.weak λb _ k=>k.elim (howB b) λe=>e▸hX.how _ (by omega))
   ·have h1:=hX.r0 id hid
    have h2:X.Ec.ρ id≠ .un:=by rw[h1];exact hid
    exact(hsE.r0 id h2).trans h1
  refine⟨hsat,rfl,hEv,λb hb=>?_,by rw[h4sz];exact e2h h.sz hstp.size,hsS,λid b hid hb=>?_⟩
  ·rw[h4sz]
   have:=h.sz
   have:=hstp.size
   rcases hb with k|k|k
   ·have:=h.fob b k;omega
   ·omega
   ·have:=hsi.S_lt b k.1;omega
  ·cases hr:cB r'.2 id with
   |none=>exact absurd hr hid
   |some rr=>
    obtain⟨mt,ho⟩:=a4m (hsE.hp id rr hr) hb
    have hlt:=hsE.at_lt hid hb
    cases mt with
    |true=>
     rcases e4r b w.heap.size with k1|k1
     ·exact(howlive b ho.2 k1).1.imp (λx=>x) .inl
     ·exact .inr (.inr (.inl ⟨k1,hlt⟩))
    |false=>exact hsS b ho
 have hblk:∀b,Bi.ow b->b<w.heap.size->(w3.putObj X.l L').heap[b]?=w.heap[b]?:=λb hb hlt=>by
  have k:=(hBi.1 b).1 hb
  refine hstp4.block b hlt λk1=>?_
  rcases k1 with k1|k1
  ·rcases(howlive b k1 hlt).1 with k2|k2
   ·omega
   ·exact k.2 k2
  ·omega
 have how'':∀b,Bi.ow b->b<w.heap.size->¬Ei.S b->Bi'.ow b:=λb hb hlt hS=>by
  have k:=(hBi.1 b).1 hb
  rw[hBi'.1]
  refine⟨k.1,?_⟩
  rintro(k1|k1|k1)
  ·exact k.2 k1
  ·omega
  ·exact hS k1.1
 have hevi:Ev Ei w Ei (w3.putObj X.l L'):=⟨λ_ h=>h,λb hb=>hkeep b (.inr hb),λ_ _=>rfl,hstp4.sh⟩
 refine⟨hsi.size,λi hi=>(hsi.tm i hi).ev hevi,λid rr hid=>?_,hsi.dist,hsi.fr,λb hb=>by rw[hBi'.2.1]at hb;exact hb,λb hb=> .inl (by rw[hBi'.2.1];exact hb),λb hb=>?_,hsi.df,hsi.dn,λd hd=>?_,hg E'' hinv (λb hb=>hErS b (.inr hb)),λid hid=>absurd (hBi'.2.2 id) hid⟩
 ·have hr:=hsi.hp id rr hid
  have hr0:=hr.ev hevi (λb hb=>by
   obtain⟨mt,ho⟩:=a4m hr hb
   have hlt:=hsi.at_lt (by rw[hid];simp) hb
   cases mt with
   |true=>exact hblk b ho.2 hlt
   |false=>exact hkeep b (.inr ho)) (λ_ _ _ hn=>hn)
  have hown:∀mt b,b<w.heap.size->Own Bi Ei mt b->Own Bi' Ei mt b:=by
   intro mt b hlt ho
   cases mt with
   |true=>exact⟨ho.1,how'' b ho.2 hlt ho.1⟩
   |false=>exact ho
  cases rr with
  |cs mt n f=>
   obtain⟨b,c,T,k1,k2,k3,k4,k5⟩:=hr0
   exact⟨b,c,T,k1,k2,k3,hown _ _ (hsi.at_lt (by rw[hid];simp) k1) k4,k5⟩
  |row mt T k n f=>
   rcases hr0 with k|⟨b,c,k1,k2,k3,k4,k5⟩
   ·exact .inl k
   ·exact .inr ⟨b,c,k1,k2,k3,hown _ _ (hsi.at_lt (by rw[hid];simp) k1) k4,k5⟩
  |mp mt kt m=>obtain⟨b,es,c,k1,k2,k4,k5⟩:=hr0;exact⟨b,es,c,k1,k2,hown _ _ (hsi.at_lt (by rw[hid];simp) k1) k4,k5⟩
  |it mt kt m seen cur=>obtain⟨b,r,es,c,sn,k1,k2,k4,k5⟩:=hr0;exact⟨b,r,es,c,sn,k1,k2,hown _ _ (hsi.at_lt (by rw[hid];simp) k1) k4,k5⟩
  |me mt kt m l born=>obtain⟨b,es,c,k1,k2,k4,k5⟩:=hr0;exact⟨b,es,c,k1,k2,hown _ _ (hsi.at_lt (by rw[hid];simp) k1) k4,k5⟩
 ·rw[hBi'.2.1]at hb
  have hlt:=hsi.S_lt b hb
  refine⟨λho=>?_,by rw[h4sz];exact e1g hlt hstp.size⟩
  have k:=(hBi'.1 b).1 ho
  exact k.2 (.inr (.inr ⟨hb,k.1⟩))
 ·obtain⟨d1,d2,d3⟩:=hsi.dd d hd
  have hlt:=(d9w.1 d3).1
  exact⟨how'' d d1 hlt d2,d2,(hblk d d1 hlt).trans d3⟩
def J (X:Lc)(Q:Exit->St->Prop){ι:Type}(R0:ι->Nat×List (Nat×Res))(ix:ι->Nat)(L0:Loop):Option Nat->Nat×List (Nat×Res)->Loop->Prop
  |some k,r,L=>(∃i,ix i=k/\r=R0 i)/\L={L0 with state:= .ready,pending:=none}
  |none,r,L=>(∃id,Q (.exit id) (X.st r)/\L={L0 with state:= .done,pending:=some (.exit id)})\/(Q .ret (X.st r)/\L={L0 with state:= .done,pending:=some .ret})
def d6n (X:Lc)(J:Option Nat->Nat×List (Nat×Res)->Loop->Prop)(g:Option Nat)(fo S0:Nat->Prop)(w:World):Prop:=
  ∃r E' L,Inv0 X r E' fo w/\J g r L/\w.heap[X.l]?=some (.loop L)/\∀b,S0 b->E'.S b
def b2f (X:Lc)(hX:LcOk X)(J:Option Nat->Nat×List (Nat×Res)->Loop->Prop)(fo S0:Nat->Prop)(g:Option Nat):Base:=
  ⟨λb=>X.W1.heap.size<=b/\¬fo b,S0,λ_=> .un,d6n X J g fo S0,λw w' ⟨r,E',L,h0,hJ,hl,hS⟩ hs=>
    ⟨r,E',L,h0.stp hX hs,hJ,(hs.block X.l (d9w.1 hl).1 (λhk=>by have:=hX.hl;have:=hX.hW1;omega)).trans hl,hS⟩,
   λw ⟨_,_,_,h0,_⟩ b hb=>⟨e2h h0.sz hb,λhf=>by have:=(h0.fob b hf).2;omega⟩⟩
theorem b4j {X:Lc}(hX:LcOk X){r:Nat×List (Nat×Res)}{E' Ei:Env}{fo S0:Nat->Prop}{w:World}(h:Inv0 X r E' fo w)(hS0:∀b,S0 b->E'.S b){Bi:Base}{Fri:Nat->Prop}{sti:St}{ai:Act}
  (hBi:(∀b,Bi.ow b↔(X.W1.heap.size<=b/\¬fo b))/\Bi.S0=S0) (hsi:Sat Bi Fri Ei sti ai w) (b:Nat) (hb:E'.S b\/Ei.S b):
  ¬((∃id,(X.st r).hp id≠none/\E'.ρ id= .at b/\¬E'.S b)\/w.heap.size<=b)/\b<w.heap.size:=by
 have hlt:b<w.heap.size:=hb.elim (h.sat.S_lt b) (hsi.S_lt b)
 refine⟨?_,hlt⟩
 rintro(⟨id,h1,h2,h3⟩|h1)
 ·rcases hb with hb|hb
  ·exact h3 hb
  ·rcases hsi.sup b hb with k|k
   ·rw[hBi.2]at k;exact h3 (hS0 b k)
   ·have k:=(hBi.1 b).1 k.1
    have:=hX.hW1
    rcases h.sl id b h1 h2 with k1|k1
    ·omega
    ·exact k.2 k1
 ·omega
theorem xJ (ps:Array Nat)(us:List Value)(t:Array Value):(ps.zip us.toArray).foldl (λtmps (p:Nat×Value)=>match p with|(t,a)=>tmps.setIfInBounds t a) t=(ps.toList.zip us).foldl (λt p=>t.setIfInBounds p.1 p.2) t:=by
 rw[<-e6r,Array.toList_zip]
theorem b9i {F:Fam P y np}{f:Operand}{ps:Array Nat}{as body:Code}{st:St}{Q:Exit->St->Prop}
  (ih1:∀(np':Nat) (F':Fam P none np') (l:Nat) (st:St) (Q:Exit->St->Prop),ex P T cuts true none np' as st Q->∀(R:Exit->Act->World->Prop) (a:Act) (W:World),xK F' st a W->(∀e st' a' W',Q e st'->xK F' st' a' W'->R e a' W')->as.wpIn (Fr0 (some l)) 0 P R a W)
  (ih2:∀(np':Nat) (F':Fam P none np') (l:Nat) (st:St) (Q:Exit->St->Prop),ex P T cuts true none np' body st Q->∀(R:Exit->Act->World->Prop) (a:Act) (W:World),xK F' st a W->(∀e st' a' W',Q e st'->xK F' st' a' W'->R e a' W')->body.wpIn (Fr0 (some l)) 0 P R a W)
  (h:ex P T cuts false y np (.rangeFunc f ps as body) st Q) {R:Exit->Act->World->Prop} {a:Act} {W:World} {n:Nat} (hs:xK F st a W) (hq:∀e st' a' W',Q e st'->xK F st' a' W'->R e a' W'):(Code.rangeFunc f ps as body).wpIn (Fr0 none) n P R a W:=by
 obtain⟨np',tms,g,A,C,N,Y,ι,R0,ix,i0,hseq,hok,hSeq,htl,hnl,hnp,hYl,hpl,hedge,hRn,hix0,hround,hend⟩:=h.ex
 obtain⟨B,E,hf,hs⟩:=hs
 obtain⟨E1,hs1,hev1,hr1,hρ1,_⟩:=hs.frzs (bO st (A++C))
 obtain⟨mE,hm1,hm2,hedge⟩:=hedge.ex
 have hs2:=hedge.sat0 hm1 hm2 (F.pin _ B hf) (λp hp=>by rw[b1w];exact htl p hp) (by rw[yK];exact hs1)
 rw[b1w]at hs2
 obtain⟨fs,cs,hfun,hAl,hCl,hAr,hCr⟩:=b4s (hs.ev f) hseq
 obtain⟨hokA,hokC⟩:=rY hok
 have hrA:gI E1.S W (A.map (dX bH st.hp)) fs.toList:=eD hs hev1.s A _ hokA (λid hid b hb=>hr1 id (by rw[bO,List.flatMap_append];exact e0p _ hid) (by
  obtain⟨x,_,hx⟩:=e1a.1 hid
  exact dV _ _ hx) b hb) hAl hAr
 have hrC:gI E1.S W (C.map (dX bH st.hp)) cs.toList:=eD hs hev1.s C _ hokC (λid hid b hb=>hr1 id (by rw[bO,List.flatMap_append];exact e0n _ hid) (by
  obtain⟨x,_,hx⟩:=e1a.1 hid
  exact dV _ _ hx) b hb) hCl hCr
 refine wpIn_rangeFunc λfn _=>?_
 let L0:Loop:={state:= .ready,pending:=none,fn,tmps:=a.tmps,params:=ps,assign:=as,body,defers:=W.heap.size}
 let W1:World:=(W.alloc (.deferred (some []))).alloc (.loop L0)
 have hW1:W1.heap.size=W.heap.size+2:=by simp[W1,e4g]
 have hbel:Below W.heap.size W W1:=((e5p _ W).alloc (e0g _) _).alloc (by rw[e4g];omega) _
 let E2:Env:=E1.ren mE
 let Ec:Env:={E2 with ρ:=λj=>bif Nat.blt j np' then E2.ρ j else .un}
 let X:Lc:=⟨P,B,W,W1,E1,Ec,E.D,st.n,np',tms,st.gh,{a with defers:=mark W.heap.size::a.defers},W.heap.size+1,W.heap.size⟩
 have hE1D:E1.D.map mark=E.D.map mark:=hs1.df.symm.trans hs.df
 have hmk:∀{x z:List Nat},x.map mark=z.map mark->x=z:=by
  intro x
  induction x with
  |nil=>intro z h;cases z<;>first|rfl|cases h
  |cons i x ih=>intro z h;cases z with
   |nil=>cases h
   |cons j z=>
    simp only[e0o,e5c,mark,Deferred.mk.injEq,Target.collected.injEq,and_true]at h
    rw[h.1,ih h.2]
 have hE1D:E1.D=E.D:=hmk hE1D
 have hX:LcOk X:=by
  refine⟨rfl,rfl,hW1,λb hb=>B.how W hs.g b hb,hs1.S_lt,rfl,λd hd=>(d9w.1 (hs.dd d hd).2.2).1,λb hb=>(hs1.sup b hb).imp (λx=>x) λx=>x.1,λi hi=>?_,hs.size,?_,?_,λd hd=>(hs.dd d hd).1,λid hid=>?_⟩
  ·have:=hs2.tm i hi
   have hnm:eJ np' (pL (.d .top) tms i)=true:=by
    rcases rO (d:=AV.d .top) tms i with e|e
    ·rw[e];rfl
    ·exact hnl _ e
   exact a2z (E:=E2) (ρ:=Ec.ρ) (λj hj=>by show(bif Nat.blt j np' then E2.ρ j else .un)=_;rw[aG.2 hj];rfl) hnm this
  ·show mark W.heap.size::a.defers=_
   rw[hs.df];rfl
  ·refine e2b.2 ⟨λhd=>?_,hs.dn⟩
   exact absurd (d9w.1 (hs.dd _ hd).2.2).1 (e5g _)
  ·have hj:=F.pin _ B hf id hid
   show(bif Nat.blt id np' then E2.ρ id else .un)=_
   rw[aG.2 (e1g hj hnp)]
   exact hs2.r0 id hid
 let JJ:=J X Q R0 ix L0
 have hnpE:∀j,X.Ec.ρ j≠ .un->j<np':=λj hj=>by
  have hj:(bif Nat.blt j np' then E2.ρ j else Loc.un)≠ .un:=hj
  cases hb:Nat.blt j np' with
  |true=>exact aG.1 hb
  |false=>rw[hb]at hj;exact absurd rfl hj
 have hEcE2:∀j,Ec.ρ j≠ .un->Ec.ρ j=E2.ρ j:=λj hj=>by
  show(bif Nat.blt j np' then E2.ρ j else .un)=_
  rw[aG.2 (hnpE j hj)];rfl
 have hl1:W1.heap[W.heap.size+1]?=some (.loop L0):=by
  have:=e6c (W.alloc (.deferred (some []))) (.loop L0)
  rwa[e4g]at this
 have hD1:W1.heap[W.heap.size]?=some (.deferred (some [])):=by
  have h1:=e6c W (.deferred (some []))
  have h2:Below (W.heap.size+1) (W.alloc (.deferred (some []))) W1:=(e5p _ _).alloc (by rw[e4g];exact e0g _) _
  exact(h2.block _ (by omega)).trans h1
 have hstart:d6n X JJ (some 0) (λ_=>False) E1.S W1:=by
  have hsb:Sat B (λj=>(R0 i0).1<=j) E2 ((⟨(R0 i0).1,tms,(R0 i0).2,st.gh⟩:LS).st st.n) a W1:=hs2.below hbel
  have hev:Ev E2 W1 {E2 with D:=W.heap.size::E.D} W1:=⟨λ_ h=>h,λ_ _=>rfl,λ_ _=>rfl,λ_ c _ h=>⟨c,h,rfl⟩⟩
  refine⟨R0 i0,{E2 with D:=W.heap.size::E.D},_,⟨⟨hsb.size,λi hi=>(hsb.tm i hi).ev hev,λid r hid=>(hsb.hp id r hid).ev hev (λ_ _=>rfl) (λ_ _ _ hn=>hn),hsb.dist,hsb.fr,hsb.sub,hsb.sup,hsb.s0,hX.df,hX.dn,λd hd=>?_,hsb.g,hsb.r0⟩,rfl,?_,λb hb=>hb.elim,e0g _,λb hb=> .inl (hs1.S_lt b hb),λid b hid hb=> .inl (hs2.at_lt hid hb)⟩,⟨⟨i0,hix0,rfl⟩,rfl⟩,hl1,λb hb=>hb⟩
  ·rcases e0b.1 hd with rfl|hd
   ·exact⟨hX.how _ (e0g _),λhS=>absurd (hs1.S_lt _ hS) (e5g _),hD1⟩
   ·have hd1:d∈E2.D:=by show d∈E1.D;rw[hE1D];exact hd
    exact hsb.dd d hd1
  ·exact⟨λb hb=>hb,λb hb=>hbel.block b (hs1.S_lt b hb),λid hid=>(hEcE2 id hid).symm,λb c T hb=>⟨c,(hbel.block b (d9w.1 hb).1).trans hb,rfl⟩⟩
 let fam:Option Nat->Base->Prop:=λg' B'=>∃fo S0,B'=b2f X hX JJ fo S0 g'/\∀b,S0 b->E1.S b\/fo b
 let Fi:Fam P (some ⟨W.heap.size+1,N,Y⟩) 0:=⟨fam,λg' B' hB' j hj=>by
  obtain⟨fo,S0,rfl,_⟩:=hB'
  exact absurd rfl hj,by
  rintro yp hyp k B' ⟨fo,S0,rfl,hS0⟩ hk Fri Ei sti ai w us hsi hus
  cases hyp
  simp only at hk hus
  obtain⟨r,E',L,h0,⟨⟨i,hix,rfl⟩,rfl⟩,hlw,hS0'⟩:=hsi.g
  have hlw:w.heap[W.heap.size+1]?=some (.loop L0):=hlw
  have hlen:us.length=ps.size:=by rw[<-hus.length,hYl k hk];simp
  have hll:X.l<w.heap.size:=(d9w.1 hlw).1
  have hsep:=b4j hX h0 hS0' (Bi:=b2f X hX JJ fo S0 (some k)) ⟨λ_=>e6i,rfl⟩ hsi
  have hLnc:∀(L:Loop) c T,some (Obj.loop L)≠some (Obj.cells c T (0,0)):=λ_ _ _ e=>by cases e
  have hlow:¬((∃id,(X.st (R0 i)).hp id≠none/\E'.ρ id= .at X.l/\¬E'.S X.l)\/w.heap.size<=X.l):=by
   rintro(⟨id,k1,k2,_⟩|k1)
   ·cases hr:(X.st (R0 i)).hp id with
    |none=>exact k1 hr
    |some rr=>
     obtain⟨o,hc,hm⟩:=bY (h0.sat.hp id rr hr) k2
     have hlw':w.heap[X.l]?=some (.loop L0):=hlw
     rw[hlw']at hc;cases hc;cases hm
   ·omega
  let ow:Nat->Prop:=λb=>(∃id,(X.st (R0 i)).hp id≠none/\E'.ρ id= .at b/\¬E'.S b)\/w.heap.size<=b
  have how:∀b,w.heap.size<=b->ow b:=λb hb=> .inr hb
  let rb:Obj->Base:=λL=>b9f X w (λb=>E'.S b\/Ei.S b) ow how hlow hll L
  let Fr:Obj->Fam P none np':=λL=>⟨λ_ B=>B=rb L,λ_ B e j hj=>by subst e;exact hnpE j hj,λ_ e=>by cases e⟩
  refine⟨fn,_,as,body,run_yield hlw (by simpa using hlen),roundIn_of_wpIn trivial ?_⟩
  let Er:Env:=⟨λb=>E'.S b\/Ei.S b,E'.ρ,[]⟩
  have hevr:Ev E' w Er w:=⟨λ_ h=> .inl h,λ_ _=>rfl,λ_ _=>rfl,λ_ c _ h=>⟨c,h,rfl⟩⟩
  have hsr0:Sat (rb (.loop L0)) (λj=>(R0 i).1<=j) Er ((⟨(R0 i).1,tms,(R0 i).2,some 0⟩:LS).st st.n) ⟨a.tmps,[]⟩ w:=by
   refine⟨hs.size,λq hq=>(h0.sat.tm q hq).ev hevr,λid rr hid=>?_,h0.sat.dist,h0.sat.fr,λb hb=>hb,λb hb=> .inl hb,λb hb=>hsep b hb,rfl,e4k,λd hd=>(by cases hd),⟨Stp.refl _ _,hlw⟩,λid hid=>h0.ev.r id hid⟩
   have hr:=h0.sat.hp id rr hid
   have hne:(X.st (R0 i)).hp id≠none:=by rw[show(X.st (R0 i)).hp id=some rr from hid];simp
   have hr0:=hr.ev hevr (λ_ _=>rfl) (λb hb hlt hn hS=>(hsep b hS).1 (.inl ⟨id,hne,hb,hn⟩))
   have hown:∀mt b,E'.ρ id= .at b->Own X.B Er mt b->Own (rb (.loop L0)) Er mt b:=by
    intro mt b hb ho
    cases mt with
    |true=>exact⟨ho.1,.inl ⟨id,hne,hb,λhS=>ho.1 (.inl hS)⟩⟩
    |false=>exact ho
   cases rr with
   |cs mt n f=>obtain⟨b,c,T,k1,k2,k3,k4,k5⟩:=hr0;exact⟨b,c,T,k1,k2,k3,hown _ _ k1 k4,k5⟩
   |row mt T k n f=>
    rcases hr0 with k|⟨b,c,k1,k2,k3,k4,k5⟩
    ·exact .inl k
    ·exact .inr ⟨b,c,k1,k2,k3,hown _ _ k1 k4,k5⟩
   |mp mt kt m=>obtain⟨b,es,c,k1,k2,k4,k5⟩:=hr0;exact⟨b,es,c,k1,k2,hown _ _ k1 k4,k5⟩
   |it mt kt m seen cur=>obtain⟨b,r,es,c,sn,k1,k2,k4,k5⟩:=hr0;exact⟨b,r,es,c,sn,k1,k2,hown _ _ k1 k4,k5⟩
   |me mt kt m l born=>obtain⟨b,es,c,k1,k2,k4,k5⟩:=hr0;exact⟨b,es,c,k1,k2,hown _ _ k1 k4,k5⟩
  have husr:gI Er.S w (Y k) us:=gI.mono (λb hb=> .inr hb) (λ_ _=>rfl) hus
  have hsr:=Sat.putAll (ps:=ps.toList) hsr0 husr
  rw[<-xJ]at hsr
  have hSl:∀{Bx:Base} {Frx:Nat->Prop} {Ex:Env} {stx:St} {ax:Act} {wx:World} {L:Obj},Bx=rb L->Sat Bx Frx Ex stx ax wx->¬Ex.S X.l:=by
   intro Bx Frx Ex stx ax wx L hBx hsx hS
   subst hBx
   rcases hsx.sup _ hS with k1|k1
   ·have k2:=hsep _ k1
    rcases k1 with k1|k1
    ·rcases h0.sS _ k1 with k3|k3
     ·have:X.l=X.W.heap.size+1:=rfl;omega
     ·have:=(h0.fob _ k3).1;have:X.l=X.W.heap.size+1:=rfl;have:=hX.hW1;omega
    ·rcases hsi.sup _ k1 with k3|k3
     ·rcases hS0 _ k3 with k4|k4
      ·have:=hs1.S_lt _ k4;have:X.l=W.heap.size+1:=rfl;omega
      ·have:=(h0.fob _ k4).1;have:X.l=X.W.heap.size+1:=rfl;have:=hX.hW1;omega
     ·have k4:X.W1.heap.size<=X.l/\¬fo X.l:=k3.1
      have:X.l=X.W.heap.size+1:=rfl;have:=hX.hW1;omega
   ·exact hlow k1.1
  have hrd:=hround i (by rw[hix];exact hk)
  rw[hix]at hrd
  refine ih1 np' (Fr (.loop L0)) (W.heap.size+1) _ _ hrd _ _ _ ⟨rb (.loop L0),Er,rfl,hsr.weak λj hj=>by rw[(zP _ _ _).2.1]at hj;exact hj⟩ ?_
  intro e st1 a1 w1 hq1 hsat1
  cases e<;>first|exact hq1.elim|skip
  obtain⟨B1,Ea,hB1,hsa⟩:=hsat1
  have hB1:B1=rb (.loop L0):=hB1
  have hSl1:=hSl hB1 hsa
  subst hB1
  have hl1w:w1.heap[W.heap.size+1]?=some (.loop L0):=hsa.g.2
  refine⟨_,run_beginRound hl1w rfl,?_⟩
  have hsb:Sat (rb (.loop {L0 with state:= .busy})) (λj=>st1.next<=j) Ea st1 a1 (w1.putObj (W.heap.size+1) (.loop {L0 with state:= .busy})):=by
   refine Sat.putNC (B:=rb (.loop L0)) (B':=rb (.loop {L0 with state:= .busy})) (p:=W.heap.size+1) (x:= .loop {L0 with state:= .busy}) ⟨rfl,rfl,rfl⟩ hsa (λo e=>by rw[hl1w]at e;cases e;rfl) (λhd=>?_) hSl1 ⟨hsa.g.1.trans (Stp.put (.inr rfl) λc T e=>by rw[hl1w]at e;cases e),e2z (d9w.1 hl1w).1⟩
   have:=(hsa.dd _ hd).2.2
   rw[hl1w]at this;cases this
  refine ih2 np' (Fr (.loop {L0 with state:= .busy})) (W.heap.size+1) _ _ hq1 _ _ _ ⟨_,Ea,rfl,hsb⟩ ?_
  intro e st3 a3 w3 hq3 hsat3
  obtain⟨B3,E3,hB3,hs3⟩:=hsat3
  have hB3:B3=rb (.loop {L0 with state:= .busy}):=hB3
  subst hB3
  have hl3w:w3.heap[W.heap.size+1]?=some (.loop {L0 with state:= .busy}):=hs3.g.2
  have back:∀(g':Option Nat) (r':Nat×List (Nat×Res)) (L':Loop),Edge np' st3 ⟨r'.1,[],r'.2,some 0⟩->JJ g' r' L'->
    ∃B'',fam g' B''/\Sat B'' Fri Ei sti ai (w3.putObj (W.heap.size+1) (.loop L')):=by
   intro g' r' L' hed hJ
   refine⟨b2f X hX JJ (λb=>fo b\/(w.heap.size<=b/\b<w3.heap.size)\/(Ei.S b/\X.W1.heap.size<=b)) Ei.S g',⟨_,_,rfl,λb hb=>?_⟩,?_⟩
   ·rcases hsi.sup b hb with k1|k1
    ·exact(hS0 b k1).imp (λx=>x) .inl
    ·exact .inr (.inr (.inr ⟨hb,k1.1.1⟩))
   ·exact a9b hX h0 (L:= .loop {L0 with state:= .busy}) (L':= .loop L') (S0:=S0) (ow:=ow) (hw:=how) (hl:=hlow) (hll:=hll) (λo e=>by
      have hlw':w.heap[X.l]?=some (.loop L0):=hlw
      rw[hlw']at e;cases e;rfl) rfl (λe=>by cases e) (λe=>by
      have hlw':w.heap[X.l]?=some (.loop L0):=hlw
      rw[hlw']at e;cases e) (λ_=>e6i) (Bi:=b2f X hX JJ fo S0 (some k)) ⟨λ_=>e6i,rfl,λ_=>rfl⟩ hS0 hsi hs3 hed hnpE ⟨λ_=>e6i,rfl,λ_=>rfl⟩
     λE'' hinv hS=>⟨r',E'',L',hinv,hJ,e2z (d9w.1 hl3w).1,hS⟩
  cases e with
  |normal=>
   obtain⟨_,i',hix',hed⟩:=hq3
   obtain⟨B'',k1,k2⟩:=back (some (k+1)) (R0 i') {L0 with state:= .ready,pending:=none} hed ⟨⟨i',hix',rfl⟩,rfl⟩
   exact⟨_,_,run_endRound none hl3w,true,B'',rfl,k1,k2⟩
  |exit id=>
   obtain⟨r',hed,hQ⟩:=hq3
   obtain⟨B'',k1,k2⟩:=back none r' {L0 with state:= .done,pending:=some (.exit id)} hed (.inl ⟨id,hQ,rfl⟩)
   exact⟨_,_,run_endRound (some (.exit id)) hl3w,false,B'',rfl,k1,k2⟩
  |ret=>
   obtain⟨r',hed,hQ⟩:=hq3
   obtain⟨B'',k1,k2⟩:=back none r' {L0 with state:= .done,pending:=some .ret} hed (.inr ⟨hQ,rfl⟩)
   exact⟨_,_,run_endRound (some .ret) hl3w,false,B'',rfl,k1,k2⟩
  |goto l=>exact hq3.elim
  |panic ch=>exact hq3.elim
  |outgrown=>exact hq3.elim⟩
 have hcall:=hSeq.2 E1.S W1 fs.toList cs.toList (W.heap.size+1) Fi (b2f X hX JJ (λ_=>False) E1.S (some 0)) (λb hb=>by have:=hs1.S_lt b hb;omega)
  (hrA.mono (λ_ h=>h) λb hb=>hbel.block b (hs1.S_lt b hb)) (hrC.mono (λ_ h=>h) λb hb=>hbel.block b (hs1.S_lt b hb)) ⟨_,_,rfl,λb hb=> .inl hb⟩ (λb=>⟨λh=>h.1,λh=>⟨h,λh=>h⟩⟩) rfl hstart (λ_=>rfl)
 refine⟨W.heap.size+1,[mark W.heap.size],W1,{target:= .fn (.func g) cs,args:=fs++ #[.func (.yield (W.heap.size+1)) #[] #[]]},W1,g,(fs.toList++[Value.func (.yield (W.heap.size+1)) #[] #[]]++cs.toList).toArray,W1,
  run_enterLoop_outer fn a.tmps ps as body,?_,λ_ _=>trivial,?_,λhd=>(by cases hd),?_⟩
 ·simp only[resolve,rangeCall,hfun,Deferred.ofValue,d9u,e3h,e0o,e3c]
  rfl
 ·have e:(fs.toList++[Value.func (.yield (W.heap.size+1)) #[] #[]]++cs.toList).toArray=fs++ #[.func (.yield (W.heap.size+1)) #[] #[]]++cs:=by simp
  rw[e]
  exact hSeq.1 _ _
 ·have hin:CallsIn (Fr0 none) (n-1) P g _ W1 _:=hcall.more (e4t _)
  refine hin.mono ?_
  rintro e w3 ⟨v,g',B',rfl,⟨fo,S0,rfl,_⟩,⟨r,E',L,h0,hJ,hl3,_⟩,hg'⟩
  have hl3:w3.heap[W.heap.size+1]?=some (.loop L):=hl3
  have hsx:∀L':Loop,xK F (X.st r) X.a1 (w3.putObj (W.heap.size+1) (.loop L')):=λL'=>by
   have hnS:¬E'.S (W.heap.size+1):=λhS=>by
    rcases h0.sS _ hS with k1|k1
    ·have:X.W.heap.size=W.heap.size:=rfl;omega
    ·have:=(h0.fob _ k1).1;have:=hX.hW1;have:X.W.heap.size=W.heap.size:=rfl;omega
   refine⟨B,E',hf,h0.sat.putNC ⟨rfl,rfl,rfl⟩ (λo e=>by rw[hl3]at e;cases e;rfl) (λhd=>?_) hnS ?_⟩
   ·have:=(h0.sat.dd _ hd).2.2
    rw[hl3]at this;cases this
   ·exact B.hG _ _ h0.sat.g (Stp.put (hX.how _ (Nat.le_succ _)) λc T e=>by rw[hl3]at e;cases e)
  rcases hg' with rfl|rfl
  ·rcases hJ with⟨id,hQ,rfl⟩|⟨hQ,rfl⟩
   ·exact⟨_,_,run_endLoop hl3 (by simp),wpIn_exit (hq _ _ _ _ hQ (hsx _))⟩
   ·exact⟨_,_,run_endLoop hl3 (by simp),wpIn_ret (hq _ _ _ _ hQ (hsx _))⟩
  ·obtain⟨⟨i,hix,rfl⟩,rfl⟩:=hJ
   exact⟨_,_,run_endLoop hl3 (by simp),hq _ _ _ _ (hend i hix) (hsx _)⟩
end
section
variable {P:Program} {T:Nat->Option TI} {cuts:List Nat}
theorem a9h {F:Fence}{n:Nat}{P:Program}{Q:Exit->Act->World->Prop}{a:Act}{w:World}{c:Code}(h:c.wpIn F n P (Exit.noGoto Q) a w):(Code.scope c).wpIn F n P Q a w:=by
 intro b k cs hro hb hr
 have h0:(lone (b.atR a (.code (.scope c)::k)) cs w).fenced P F:=e7j hb hr rfl
 have st1:step P (lone (b.atR a (.code (.scope c)::k)) cs w)= .next (lone (b.atR a (.code c:: .inScope c::k)) cs w):=step_lone_go (by simp[stepG,stepG.exec,Frame.atR])
 obtain⟨e,a₁,w₁,hq,harr⟩:=h b (.inScope c::k) cs hro hb hr
 cases e with
 |normal=>exact⟨.normal,a₁,w₁,hq,.head h0 st1 (StepsIn.trans harr (.one (e7j hb hr rfl) (step_lone_go (by simp[stepG,stepG.exec,Frame.atR]))))⟩
 |exit id'=>
  have hx:exitTo id' (.inScope c::k)=exitTo id' k:=by simp[exitTo]
  exact⟨.exit id',a₁,w₁,hq,λk' hk=> .head h0 st1 (harr.1 k' (by rw[hx];exact hk)),
   λhr' hk=>let⟨k₁,h1,h2⟩:=harr.2 hr' (by rw[hx];exact hk);⟨k₁,h1,.head h0 st1 h2⟩⟩
 |goto l=>exact hq.elim
 |ret=>exact⟨_,a₁,w₁,hq,.of_steps (.one h0 st1) harr⟩
 |panic ch=>exact⟨_,a₁,w₁,hq,.of_steps (.one h0 st1) harr⟩
 |outgrown=>exact⟨_,a₁,w₁,hq,.of_steps (.one h0 st1) harr⟩
theorem iE (hT:bQ P T)(hm:P.follows .mixedOrders=true):∀(c:Code) (r:Bool) (y:Option Yp) (np:Nat) (F:Fam P y np) (ro:Option Nat) (n:Nat) (st:St) (Q:Exit->St->Prop),(r=false->ro=none)->ex P T cuts r y np c st Q->
  ∀(R:Exit->Act->World->Prop) (a:Act) (W:World),xK F st a W->(∀e st' a' W',Q e st'->xK F st' a' W'->R e a' W')->c.wpIn (Fr0 ro) n P R a W:=by
 intro c
 induction c with
 |skip=>intro r y np F ro n st Q _ h R a W hs hq;exact wpIn_skip (hq _ _ _ _ h hs)
 |region id ops draw=>intro r y np F ro n st Q _ h R a W hs hq;exact zV (cuts:=cuts) (r:=r) hT hm h hs hq
 |seq c d ihx ihy=>
  intro r y np F ro n st Q hro h R a W hs hq
  refine e6d ?_
  unfold ex at h
  split at h
  ·obtain⟨ι,S,hlt,h1,h2⟩:=h.ex
   refine ihx r y np F ro n st _ hro h1 _ a W hs ?_
   intro e st' a' W' h3 h4
   cases e with
   |normal=>
    obtain⟨hn,i',h5⟩:=h3
    have:=h5.sat (λp hp=>hn▸hlt i' p hp) h4
    rw[hn]at this
    exact ihy r y np F ro n _ Q hro (h2 i') R a' W' this hq
   |exit id=>exact hq _ _ _ _ h3 h4
   |goto l=>exact hq _ _ _ _ h3 h4
   |ret=>exact hq _ _ _ _ h3 h4
   |panic ch=>exact hq _ _ _ _ h3 h4
   |outgrown=>exact hq _ _ _ _ h3 h4
  ·refine ihx r y np F ro n st _ hro h _ a W hs ?_
   intro e st' a' W' h3 h4
   cases e with
   |normal=>exact ihy r y np F ro n st' Q hro h3 R a' W' h4 hq
   |exit id=>exact hq _ _ _ _ h3 h4
   |goto l=>exact hq _ _ _ _ h3 h4
   |ret=>exact hq _ _ _ _ h3 h4
   |panic ch=>exact hq _ _ _ _ h3 h4
   |outgrown=>exact hq _ _ _ _ h3 h4
 |cond c d e ihx ihy=>
  intro r y np F ro n st Q hro h R a W hs hq
  unfold ex at h
  split at h
  ·rename_i b hb
   obtain⟨B,E,hf,hs'⟩:=hs
   have hr:=hs'.ev c
   rw[hb]at hr
   have hr:a.eval c= .bool b:=hr
   exact wpIn_cond_split hr (λe=>ihx r y np F ro n st Q hro (h.t e) R a W ⟨B,E,hf,hs'⟩ hq) (λe=>ihy r y np F ro n st Q hro (h.f e) R a W ⟨B,E,hf,hs'⟩ hq)
  ·exact h.elim
 |block id c ih=>
  intro r y np F ro n st Q hro h R a W hs hq
  refine wpIn_block (ih r y np F ro n st _ hro h _ a W hs ?_)
  intro e st' a' W' h3 h4
  cases e with
  |normal=>exact hq _ _ _ _ h3 h4
  |exit i=>
   simp only[Exit.inBlock]
   simp only at h3
   split at h3
   ·rename_i hb;rw[e0c (d9s hb)];exact hq _ _ _ _ h3 h4
   ·rename_i hb;rw[d9z (λe=>by subst e;rw[e3k]at hb;cases hb)];exact hq _ _ _ _ h3 h4
  |goto l=>exact hq _ _ _ _ h3 h4
  |ret=>exact hq _ _ _ _ h3 h4
  |panic ch=>exact hq _ _ _ _ h3 h4
  |outgrown=>exact hq _ _ _ _ h3 h4
 |loop c ih=>
  intro r y np F ro n st Q hro h R a W hs hq
  obtain⟨ι,S,μ,i0,hlt,h0,h1⟩:=h.ex
  refine oZ (λi a w=>xK F ((S i).st st.n) a w) μ i0 (h0.sat (hlt i0) hs) λi a w hI=>?_
  refine ih r y np F ro n _ _ hro (h1 i) _ a w hI ?_
  intro e st' a' W' h3 h4
  cases e with
  |normal=>
   obtain⟨hn,i',h5,h6⟩:=h3
   have:=h5.sat (λp hp=>hn▸hlt i' p hp) h4
   rw[hn]at this
   exact⟨i',this,h6⟩
  |exit id=>exact hq _ _ _ _ h3 h4
  |goto l=>exact hq _ _ _ _ h3 h4
  |ret=>exact hq _ _ _ _ h3 h4
  |panic ch=>exact hq _ _ _ _ h3 h4
  |outgrown=>exact hq _ _ _ _ h3 h4
 |rangeFunc f params assign body ih1 ih2=>
  intro r y np F ro n st Q hro h R a W hs hq
  cases r with
  |true=>exact h.elim
  |false=>
   rw[hro rfl]
   exact b9i (λnp' F' l st Q h=>ih1 true none np' F' (some l) 0 st Q nofun h) (λnp' F' l st Q h=>ih2 true none np' F' (some l) 0 st Q nofun h) h hs hq
 |exit id=>intro r y np F ro n st Q _ h R a W hs hq;exact wpIn_exit (hq _ _ _ _ h hs)
 |scope c ih=>
  intro r y np F ro n st Q hro h R a W hs hq
  refine a9h ?_
  refine ih r y np F ro n _ _ hro h _ a W hs ?_
  intro e st' a' W' h3 h4
  cases e with
  |goto l=>exact h3.elim
  |_=>exact hq _ _ _ _ h3 h4
 |label l=>intro r y np F ro n st Q _ h R a W hs hq;exact wpIn_label (hq _ _ _ _ h hs)
 |goto l=>intro r y np F ro n st Q _ h;exact h.elim
 |ret=>intro r y np F ro n st Q _ h R a W hs hq;exact wpIn_ret (hq _ _ _ _ h hs)
 |refuse why=>intro r y np F ro n st Q _ h;exact h.elim
end
section
variable (P:Program) (T:Nat->Option TI) (y:Option Yp) (C:Option Chk) (ol:List Oper) (base:Nat)
def d7j (ih:Nat->List Tr->St->(St->Prop)->Prop)(o:Oper)(i:Nat)(tr:List Tr)(st:St)(K:St->Prop):Prop:=
  match gG ol o st with
  |none=>False
  |some false=>chk C base i o st (.dv .top) tr λtr=>cJ (st.put o.dst (.d (.v undef))) λs=>ih (i+1) tr s K
  |some true=>match a5b o.op with
    |true=>match a4a o.op st with
      |some (u,args)=>(match C,y,st.gh with
        |none,some y,some k=>Yl (u= .func (.yield y.l) #[] #[]/\gQ st args/\k<y.N/\sR (args.map (dX bH st.hp)) (y.Y k))
            (cJ ((yst st args (some (k+1))).put o.dst (.d (.v (.bool true)))) λs=>ih (i+1) tr s K) (cJ ((yst st args none).put o.dst (.d (.v (.bool false)))) λs=>ih (i+1) tr s K)
        |_,_,_=>False)
      |none=>Cl λr=>match r with
        | .ls as ms N _ ms' z=>(match(match C with|none=>true|some _=>a2p ol i o),xV o.op st with
          |true,some (g,l')=>lsK P (base+i) o g l' as ms N ms' z st λs=>ih (i+1) tr s K
          |_,_=>False)
        |r=>fin (nD P T (base+i) o.op o.type st r) λc x s=>Ob c (chk C base i o st r tr λtr=>alt (yL ol i) x λz=>cJ (s.put o.dst z) λs=>ih (i+1) tr s K)
    |false=>match b2x o.op st with
      |some (id,kt,f,seen)=>(match C with
        |none=>Nx kt.n f seen (λk x=>cJ ((nxS st id kt f seen k x).put o.dst (.d (nxD kt k x))) λs=>ih (i+1) tr s K) (cJ (st.put o.dst (.d nxE)) λs=>ih (i+1) tr s K)
        |some _=>False)
      |none=>match c3y T o.op st with
        |some (n,b)=>(match C with
          |none=>Uk b (n=0) λb=>cJ (st.put o.dst (.d (.v (.bool b)))) λs=>ih (i+1) tr s K
          |some _=>False)
        |none=>match apO T o.op st with
          |some (id,e,k,off,n,f,c,m,g)=>(match C with
            |none=>Ap c off n f g λo' h=>cJ ((apS st (base+i) id e k o' n m h).put o.dst (.ms (base+i) k o' (n+m))) λs=>ih (i+1) tr s K
            |some _=>False)
          |none=>fin (nD P T (base+i) o.op o.type st (.dv .top)) λc x s=>obl (isT o.op) c (chk C base i o st (.dv .top) tr λtr=>alt (yL ol i) x λz=>cJ (s.put o.dst z) λs=>ih (i+1) tr s K)
def b4o (l:List Oper):Nat->List Tr->St->(St->Prop)->Prop:=
  List.rec (motive:=λ_=>Nat->List Tr->St->(St->Prop)->Prop) (λ_ _ st K=>K st) (λo _ ih=>d7j P T y C ol base ih o) l
theorem c5d:∀(l:List Oper) (i:Nat) (tr:List Tr) (st:St) (K:St->Prop),b4o P T y C ol base l i tr st K=cP P T y C ol base (vA i l) tr st K:=by
 intro l
 induction l with
 |nil=>intro i tr st K;rfl
 |cons o l ih=>
  intro i tr st K
  have e:b4o P T y C ol base l=λi tr st K=>cP P T y C ol base (vA i l) tr st K:=by
   funext i tr st K;exact ih i tr st K
  show d7j P T y C ol base (b4o P T y C ol base l) o i tr st K=_
  rw[e,vA]
  conv=>rhs;unfold cP
  rfl
end
section
variable (P:Program) (T:Nat->Option TI) (cuts:List Nat)
def exC (c:Code):Bool->Option Yp->Nat->St->(Exit->St->Prop)->Prop:=
  Code.rec (motive:=λ_=>Bool->Option Yp->Nat->St->(Exit->St->Prop)->Prop)
    (λ_ _ _ st Q=>Q .normal st)
    (λ_ ops draw _ y _ st Q=>St.rec (motive:=λ_=>Prop) (λn nx tm hp gh=>cL (nx+ops.size) λnx0=>b4o P T y (match draw with|true=>some (xZ ops)|false=>none) ops.toList nx ops.toList 0 [] ⟨n,nx0,tm,hp,gh⟩ λst'=>St.rec (motive:=λ_=>Prop) (λn' nx1 tm' hp' gh'=>cL nx1 λnx'=>Q .normal ⟨n',nx',tm',hp',gh'⟩) st') st)
    (λ_ d ihc ihd r y np st Q=>match c3i cuts d with
      |true=>Ct np st (λQ'=>ihc r y np st Q') (λst=>ihd r y np st Q) Q
      |false=>ihc r y np st λe st'=>match e with
        | .normal=>ihd r y np st' Q
        |e=>Q e st')
    (λc _ _ ihd ihe r y np st Q=>match st.ev c with
      | .d (.v (.bool b))=>Sp b (ihd r y np st Q) (ihe r y np st Q)
      |_=>False)
    (λid _ ih r y np st Q=>ih r y np st λe st'=>match e with
      | .exit i=>(match Nat.beq i id with
        |true=>Q .normal st'
        |false=>Q (.exit i) st')
      |e=>Q e st')
    (λ_ ih r y np st Q=>Lp np st (λst Q'=>ih r y np st Q') Q)
    (λf ps _ _ ih1 ih2 r _ np st Q=>match r with
      |false=>Rg P np st (st.ev f) ps.toList (λnp' st1 Q'=>ih1 true none np' st1 λe st2=>match e with
        | .normal=>ih2 true none np' st2 Q'
        |_=>False) Q
      |true=>False)
    (λid _ _ _ st Q=>Q (.exit id) st)
    (λ_ ih r y np st Q=>ih r y np st λe st'=>match e with
      | .goto _=>False
      |e=>Q e st')
    (λ_ _ _ _ st Q=>Q .normal st)
    (λ_ _ _ _ _ _=>False)
    (λ_ _ _ st Q=>Q .ret st)
    (λ_ _ _ _ _ _=>False) c
theorem qZ:∀(c:Code) (r:Bool) (y:Option Yp) (np:Nat) (st:St) (Q:Exit->St->Prop),exC P T cuts c r y np st Q=ex P T cuts r y np c st Q:=by
 intro c
 induction c with
 |region id ops draw=>
  intro r y np st Q
  obtain⟨n,nx,tm,hp,gh⟩:=st
  refine Eq.trans (?_:_=b4o P T y (match draw with|true=>some (xZ ops)|false=>none) ops.toList nx ops.toList 0 [] ⟨n,nx+ops.size,tm,hp,gh⟩ λst'=>cJ st' (Q .normal)) (c5d ..)
  show(cL (nx+ops.size) λnx0=>b4o P T y _ ops.toList nx ops.toList 0 [] ⟨n,nx0,tm,hp,gh⟩ _)=_
  refine(propext (bC ..)).trans ?_
  congr 1
  funext st'
  obtain⟨n',nx',tm',hp',gh'⟩:=st'
  refine propext ?_
  exact(bC nx' λnx'=>Q .normal ⟨n',nx',tm',hp',gh'⟩).trans (aR ⟨n',nx',tm',hp',gh'⟩ (Q .normal)).symm
 |seq c d ihc ihd=>
  intro r y np st Q
  have ec:exC P T cuts c=λr y np st Q=>ex P T cuts r y np c st Q:=by funext r y np st Q;exact ihc ..
  have ed:exC P T cuts d=λr y np st Q=>ex P T cuts r y np d st Q:=by funext r y np st Q;exact ihd ..
  show(match c3i cuts d with
   |true=>Ct np st (λQ'=>exC P T cuts c r y np st Q') (λst=>exC P T cuts d r y np st Q) Q
   |false=>exC P T cuts c r y np st λe st'=>match e with
    | .normal=>exC P T cuts d r y np st' Q
    |e=>Q e st')=_
  rw[ec,ed,ex]
  try rfl
 |cond c d e ihd ihe=>
  intro r y np st Q
  have ec:exC P T cuts d=λr y np st Q=>ex P T cuts r y np d st Q:=by funext r y np st Q;exact ihd ..
  have ed:exC P T cuts e=λr y np st Q=>ex P T cuts r y np e st Q:=by funext r y np st Q;exact ihe ..
  show(match st.ev c with
   | .d (.v (.bool b))=>Sp b (exC P T cuts d r y np st Q) (exC P T cuts e r y np st Q)
   |_=>False)=_
  rw[ec,ed,ex]
  try rfl
 |block id c ih=>
  intro r y np st Q
  exact ih ..
 |scope c ih=>
  intro r y np st Q
  rw[ex,<-ih]
  rfl
 |loop c ih=>
  intro r y np st Q
  have ec:exC P T cuts c=λr y np st Q=>ex P T cuts r y np c st Q:=by funext r y np st Q;exact ih ..
  show Lp np st (λst Q'=>exC P T cuts c r y np st Q') Q=_
  rw[ec,ex]
 |rangeFunc f ps as body ih1 ih2=>
  intro r y np st Q
  have ec:exC P T cuts as=λr y np st Q=>ex P T cuts r y np as st Q:=by funext r y np st Q;exact ih1 ..
  have ed:exC P T cuts body=λr y np st Q=>ex P T cuts r y np body st Q:=by funext r y np st Q;exact ih2 ..
  cases r with
  |true=>rfl
  |false=>
   show Rg P np st (st.ev f) ps.toList (λnp' st1 Q'=>exC P T cuts as true none np' st1 λe st2=>match e with
    | .normal=>exC P T cuts body true none np' st2 Q'
    |_=>False) Q=_
   rw[ec,ed,ex]
   try rfl
 |_=>intros;rfl
end
def a2s:List DV->Nat->AV
  |[],_=> .d (.v undef)
  |x::l,j=>match j with
    |0=> .d x
    |j+1=>a2s l j
def entry (n:Nat)(args:List DV):St:=⟨n,0,a2s args,λ_=>none,some 0⟩
def a9a (T:Nat->Option TI)(st:St):ResultVar->Option (Prop×AV)
  | .tmp t=>some (True,st.ev (.tmp t))
  | .cell a t=>match T t with
    |some ti=>a2q ti st.hp (st.ev (.tmp a))
    |none=>none
def tI (T:Nat->Option TI)(st:St):List ResultVar->Option (Prop×List AV)
  |[]=>some (True,[])
  |r::rs=>match a9a T st r,tI T st rs with
    |some (c,x),some (c',xs)=>some (c/\c',x::xs)
    |_,_=>none
structure Fi (p q:Prop):Prop where
  ok:p
  im:q
def c7u (T:Nat->Option TI)(rs:List ResultVar)(res:DV)(st:St):Prop:=
  match tI T st rs with
  |some (c,xs)=>Ob c (Fi (gQ st xs) (match xs with
    |[x]=>bS (dX bH st.hp x) res
    |xs=>bS (.tp xs.length λj=>dX bH st.hp (a1c xs j)) res))
  |none=>False
def cH (T:Nat->Option TI)(rs:List ResultVar)(res:DV):Exit->St->Prop
  | .normal,st=>c7u T rs res st
  | .ret,st=>c7u T rs res st
  |_,_=>False
section
variable {P:Program} {T:Nat->Option TI} {cuts:List Nat}
theorem mB {S:Nat->Prop}{w:World}{B:Base}(hB:(∀b,B.ow b↔w.heap.size<=b)/\B.S0=S/\B.G w/\∀id,B.ρ0 id= .un)(hS:∀b,S b->b<w.heap.size){args:List DV}{vals:List Value}(h:gI S w args vals){n:Nat}(hn:args.length<=n):
  Sat B
   (λ_=>True) ⟨S,λ_=> .un,[]⟩ (entry n args) {tmps:=vals.toArray++Array.replicate (n-vals.toArray.size) undef,defers:=[]} w:=by
 have hlen:∀{args:List DV} {vals:List Value},gI S w args vals->args.length=vals.length:=by
  intro args
  induction args with
  |nil=>intro vals h;cases vals<;>first|rfl|exact h.elim
  |cons x l ih=>intro vals h;cases vals with
   |nil=>exact h.elim
   |cons u us=>simp[ih h.2]
 have hl:=hlen h
 have hget:∀{args:List DV} {vals:List Value},gI S w args vals->∀i,aK ⟨S,λ_=> .un,[]⟩ w (a2s args i) (vals.getD i undef):=by
  intro args
  induction args with
  |nil=>intro vals h i;cases vals<;>first|(simp[a2s];rfl)|exact h.elim
  |cons x l ih=>intro vals h i;cases vals with
   |nil=>exact h.elim
   |cons u us=>cases i with
    |zero=>exact h.1
    |succ i=>simpa[a2s]using ih h.2 i
 refine⟨?_,λi hi=>?_,λid r h=>(by cases h),λi j b hi=>absurd rfl hi,λ_ _=>rfl,λb h=>(by rw[hB.2.1]at h;exact h),λ_ h=> .inl (by rw[hB.2.1];exact h),λb hb=>⟨λho=>by
  have:=hS b (by rw[hB.2.1]at hb;exact hb)
  have:=(hB.1 b).1 ho
  omega,hS b (by rw[hB.2.1]at hb;exact hb)⟩,rfl,e4k,λD hD=>(by cases hD),hB.2.2.1,λid hid=>absurd (hB.2.2.2 id) hid⟩
 ·show(vals.toArray++Array.replicate (n-vals.toArray.size) undef).size=n
  simp;omega
 ·show aK _ _ (a2s args i) ((vals.toArray++Array.replicate (n-vals.toArray.size) undef).getD i undef)
  have e:(vals.toArray++Array.replicate (n-vals.toArray.size) undef).getD i undef=vals.getD i undef:=by
   rw[d9x,d9r]
   by_cases hi':i<vals.length
   ·rw[e4s (by simpa using hi')];simp
   ·rw[e5k (by simpa using hi'),e1w (by omega),Array.getElem?_replicate]
    split<;>rfl
  rw[e];exact hget h i
def a6c (tmps : Array Value) (r : ResultVar) : Sem Value :=
  match r with
  | .tmp t => pure (tmps.getD t undef)
  | .cell a t => do loadVar t (← asAddr (tmps.getD a undef))
theorem wV (hT:bQ P T){B:Base}{Fr:Nat->Prop}{E:Env}{st:St}{a:Act}{W:World}(h:Sat B Fr E st a W){r:ResultVar}{c:Prop}{x:AV}(hv:a9a T st r=some (c,x))(hc:c):
  ∃v,(a6c a.tmps r).run P W= .ok v W/\aK E W x v:=by
 cases r with
 |tmp t=>cases hv;exact⟨_,rfl,h.ev (.tmp t)⟩
 |cell ad t=>
  simp only[a9a]at hv
  split at hv
  ·rename_i ti ht
   obtain⟨v,h1,h2⟩:=uG hT h ht (h.ev (.tmp ad)) hv hc
   refine⟨v,?_,h2⟩
   have e:a.eval (.tmp ad)=a.tmps.getD ad undef:=rfl
   rw[e]at h1
   simp only[a6c]
   generalize a.tmps.getD ad undef=u at h1⊢
   cases u
   case pointer p=>
    cases p with
    |some p=>exact h1
    |none=>simp[Instr.loadAt,Instr.sureAddr,d9t]at h1
   all_goals(simp[Instr.loadAt,Instr.sureAddr,d9t]at h1;done)
  ·cases hv
theorem mX (hT:bQ P T){B:Base}{Fr:Nat->Prop}{E:Env}{st:St}{a:Act}{W:World}(h:Sat B Fr E st a W):∀{rs:List ResultVar} {c:Prop} {xs:List AV},tI T st rs=some (c,xs)->c->
  ∃vs:List Value,(rs.mapM (a6c a.tmps)).run P W= .ok vs W/\xs.length=vs.length/\∀j,j<xs.length->aK E W (xs.getD j (.d .top)) (vs.getD j undef)
 |[],c,xs,hv,hc=>by cases hv;exact⟨[],rfl,rfl,by simp⟩
 |r::rs,c,xs,hv,hc=>by
  unfold tI at hv
  split at hv
  ·rename_i c1 x c2 xs' h1 h2
   cases hv
   obtain⟨v,hr,hx⟩:=wV hT h h1 hc.1
   obtain⟨vs,hrs,hl,hxs⟩:=mX hT h h2 hc.2
   refine⟨v::vs,?_,by simp[hl],λj hj=>?_⟩
   ·rw[e6p]
    simp only[d9t,hr,d9q,hrs,d9u]
   ·cases j with
    |zero=>simpa using hx
    |succ j=>simpa using hxs j (by simpa using hj)
  ·cases hv
theorem zL {st:St}:∀{xs:List AV},gQ st xs->∀j,j<xs.length->qB bH st.hp (xs.getD j (.d .top))
 |[],_,j,hj=>by simp at hj
 |x::l,h,0,_=>by simpa using h.1
 |x::l,h,j+1,hj=>by simpa using zL h.2 j (by simpa using hj)
theorem b1l (hT:bQ P T){B:Base}{fn:Func}{res:DV}{st:St}{a:Act}{W:World}{Fr:Nat->Prop}{E:Env}(h:c7u T fn.results.toList res st)(hs:Sat B Fr E st a W):
  ∃v S',(results fn a.tmps).run P W= .ok v W/\Rep S' W res v/\(∀b,B.S0 b->S' b)/\∀b,S' b->B.S0 b\/(B.ow b/\b<W.heap.size):=by
 unfold c7u at h
 split at h
 ·rename_i c xs hv
  obtain⟨vs,hrun,hlen,hx⟩:=mX hT hs hv h.c
  have h1:=h.r h.c
  have hok:=h1.ok
  have himp:=h1.im
  obtain⟨E1,hs1,hev1,hr1,_,_⟩:=hs.frzs (bO st xs)
  have hrep:∀j,j<xs.length->Rep E1.S W (dX bH st.hp (xs.getD j (.d .top))) (vs.getD j undef):=λj hj=>
   kS hs hev1.s bH _ _ (zL hok j hj) (λid hid b hb=>hr1 id (by
    rw[d9r,e0e hj]at hid
    exact e1a.2 ⟨_,e5s hj,hid⟩) (dV _ _ hid) b hb) (hx j hj)
  have hres:∀(vs:List Value),(fn.results.toList.mapM (a6c a.tmps)).run P W= .ok vs W->(results fn a.tmps).run P W= .ok (if h:vs.toArray.size=1 then vs.toArray[0]else .tuple vs.toArray) W:=by
   intro vs hrun
   have e:results fn a.tmps=(do let vs <-fn.results.mapM (a6c a.tmps);pure (if h:vs.size=1 then vs[0]else .tuple vs)):=rfl
   rw[e,d9t,e3o,e7g,hrun]
   rfl
  refine⟨_,E1.S,hres vs hrun,?_,hs1.sub,hs1.sup⟩
  split at himp
  ·rename_i x
   have hv1:vs.length=1:=by simpa using hlen.symm
   obtain⟨v,rfl⟩:=e2q.1 hv1
   have:=hrep 0 (by simp)
   simp only[e7f]at this
   exact(himp.imp E1.S W).1 _ this
  ·rename_i hne
   have hv1:vs.toArray.size≠1:=by
    intro e
    have:xs.length=1:=by rw[hlen];simpa using e
    obtain⟨x,rfl⟩:=e2q.1 this
    exact hne x rfl
   rw[dif_neg hv1]
   refine(himp.imp E1.S W).1 _ ⟨vs.toArray,rfl,by simp[hlen],λj hj=>?_⟩
   have:=hrep j hj
   show Rep E1.S W (dX bH st.hp (a1c xs j)) _
   rw[jL]
   simpa[d9x,d9r]using this
 ·exact h.elim
theorem Sat.shut {B:Base}{Fr:Nat->Prop}{E:Env}{st:St}{a:Act}{W:World}(h:Sat B Fr E st a W){D:Nat}{ds:List Nat}(hD:E.D=D::ds):
  Sat B Fr {E with D:=ds} st {a with defers:=ds.map mark} (W.putObj D (.deferred none)):=by
 obtain⟨d1,d2,d3⟩:=h.dd D (by rw[hD];exact d9y ..)
 have hn:=h.dn
 rw[hD,e2b]at hn
 have hoth:∀k,k≠D->(W.putObj D (.deferred none)).heap[k]?=W.heap[k]?:=λk hk=>e1x hk
 have hcell:∀{b:Nat} {c:Array Value} {T:TypeId},W.heap[b]?=some (Obj.cells c T (0,0))->b≠D:=λhb e=>by rw[e,d3]at hb;cases hb
 have hev:Ev E W {E with D:=ds} (W.putObj D (.deferred none)):=⟨λ_ h=>h,λb hb=>hoth b λe=>d2 (e▸hb),λ_ _=>rfl,λb c T hb=>⟨c,(hoth b (hcell hb)).trans hb,rfl⟩⟩
 have hlive:∀id b,st.hp id≠none->E.ρ id= .at b->b≠D:=by
  intro id b hi hb
  cases hr:st.hp id with
  |none=>exact absurd hr hi
  |some r=>
   obtain⟨o,hc,hnd⟩:=bY (h.hp id r hr) hb
   intro e
   rw[e,d3]at hc;cases hc;cases hnd
 refine⟨h.size,λi hi=>(h.tm i hi).ev hev,λid r hid=>(h.hp id r hid).ev hev (λb hb=>hoth b (hlive id b (by rw[hid];simp) hb)) (λ_ _ _ hn=>hn),h.dist,h.fr,h.sub,λb hb=>by rw[e2t];exact h.sup b hb,λb hb=>by rw[e2t];exact h.s0 b hb,rfl,hn.2,λD' hD'=>?_,?_,h.r0⟩
 ·obtain⟨e1,e2,e3⟩:=h.dd D' (by rw[hD];exact d9v _ hD')
  exact⟨e1,e2,(hoth D' λe=>hn.1 (e▸hD')).trans e3⟩
 ·exact B.hG _ _ h.g ⟨rfl,rfl,rfl,by rw[e2t];exact e0g _,λk _ hk=>hoth k λe=>hk (e▸d1),hev.sh⟩
theorem cZ {B:Base}{Fr:Nat->Prop}{fn:Func}{tmps:Array Value}{st:St}{R:Ending->World->Prop}:∀(Ds:List Nat) (E:Env) (W:World),Sat B Fr E st {tmps,defers:=Ds.map mark} W->E.D=Ds->
  (∀E' W',Sat B Fr E' st {tmps,defers:=[]} W'->∃v,(results fn tmps).run P W'= .ok v W'/\R (.returned v) W')->LeavesInM Fence.wide 0 P fn tmps R (Ds.map mark) .returning W
 |[],E,W,hs,_,hq=>hq E W hs
 |D::ds,E,W,hs,hD,hq=>by
  obtain⟨d1,d2,d3⟩:=hs.dd D (by rw[hD];exact d9y ..)
  exact⟨by simp,.inl ⟨D,_,rfl,run_takeDeferred d3,cZ ds {E with D:=ds} _ (hs.shut hD) rfl hq⟩⟩
theorem Fn.of_ex (hT:bQ P T)(hm:P.follows .mixedOrders=true){f:Nat}{fn:Func}{c:Code}{args:List DV}{res:DV}(hf:P.funcs[f]?=some fn)(hb:fn.body=some c)(hent:Ent P f)(hn:Nat.ble args.length fn.ntmps=true)
  (h:exC P T cuts c false none 0 (entry fn.ntmps args) (cH T fn.results.toList res)):Fn P f args res:=by
 refine⟨hent,λS w vals hS hv=>?_⟩
 rw[<-e7m (n:=0)]
 refine e5m hf hb trivial ?_
 have hB:(∀b,(eI S w).ow b↔w.heap.size<=b)/\(eI S w).S0=S/\(eI S w).G w/\∀id,(eI S w).ρ0 id= .un:=⟨λ_=>e6i,rfl,e5p _ _,λ_=>rfl⟩
 have hs:=mB hB hS hv (e1n hn)
 let F:Fam P none 0:=⟨λ_ B=>B=eI S w,λ_ B e j hj=>by subst e;exact absurd rfl hj,λ_ e=>by cases e⟩
 have hend:∀(st':St) (a':Act) (W':World),c7u T fn.results.toList res st'->xK F st' a' W'->LeavesInM Fence.wide 0 P fn a'.tmps (d6p S w res) a'.defers .returning W':=by
  rintro st' ⟨tmps,defers⟩ W' hq ⟨B,E,hB',hs'⟩
  have hB':B=eI S w:=hB'
  subst hB'
  have hdf:=hs'.df
  simp only at hdf
  subst hdf
  refine cZ E.D E W' hs' rfl λE2 W2 hs2=>?_
  obtain⟨v,S',h1,h2,h3,h4⟩:=b1l hT hq hs2
  exact⟨v,h1,v,S',rfl,h2,h3,λb hb=>h4 b hb,hs2.g⟩
 refine iE hT hm c false none 0 F none 0 _ _ (λ_=>rfl) (by rw[<-qZ];exact h) _ _ _ ⟨eI S w,_,rfl,hs.weak λ_ _=>trivial⟩ ?_
 intro e st' a' W' hq hs'
 cases e with
 |normal=>exact hend st' a' W' hq hs'
 |ret=>exact hend st' a' W' hq hs'
 |exit id=>exact hq.elim
 |goto l=>exact hq.elim
 |panic ch=>exact hq.elim
 |outgrown=>exact hq.elim
abbrev _root_.e1t:=@Fn.of_ex
def d2t (N:Nat):Exit->St->Prop
  | .normal,st=>st.gh=none\/st.gh=some N
  | .ret,st=>st.gh=none\/st.gh=some N
  |_,_=>False
theorem gI.app {S:Nat->Prop}{w:World}:∀{xs:List DV} {us:List Value} {ys:List DV} {vs:List Value},gI S w xs us->gI S w ys vs->gI S w (xs++ys) (us++vs)
 |[],[],_,_,_,h=>h
 |_::_,_::_,_,_,h,k=>⟨h.1,h.2.app k⟩
theorem Seq.of_ex (hT:bQ P T)(hm:P.follows .mixedOrders=true){f:Nat}{fn:Func}{c:Code}{A C:List DV}{N:Nat}{Y:Nat->List DV}(hf:P.funcs[f]?=some fn)(hb:fn.body=some c)(hent:Ent P f)(hn:Nat.ble (A.length+1+C.length) fn.ntmps=true)(hr:fn.results= #[])
  (h:∀l,exC P T cuts c false (some ⟨l,N,Y⟩) 0 (entry fn.ntmps (A++[.v (.func (.yield l) #[] #[])]++C)) (d2t N)):Seq P f A C N Y:=by
 refine⟨hent,λS w vs cs l F B0 hS hA hC hf0 how hS0 hg hρ=>?_⟩
 refine e5m hf hb trivial ?_
 have hreps:gI S w (A++[.v (.func (.yield l) #[] #[])]++C) (vs++[Value.func (.yield l) #[] #[]]++cs):=(hA.app (show gI S w [.v (.func (.yield l) #[] #[])] [Value.func (.yield l) #[] #[]]from⟨rfl,trivial⟩)).app hC
 have hs:=mB ⟨how,hS0,hg,hρ⟩ hS hreps (n:=fn.ntmps) (by have:=e1n hn;simp;omega)
 have hend:∀(st':St) (a':Act) (W':World),(st'.gh=none\/st'.gh=some N)->xK F st' a' W'->LeavesInM Fence.wide 0 P fn a'.tmps (λe w'=>∃v g' B,e= .returned v/\F.f g' B/\B.G w'/\(g'=none\/g'=some N)) a'.defers .returning W':=by
  rintro st' ⟨tmps,defers⟩ W' hq ⟨B,E,hB',hs'⟩
  have hdf:=hs'.df
  simp only at hdf
  subst hdf
  refine cZ E.D E W' hs' rfl λE2 W2 hs2=>?_
  exact⟨.tuple #[],results_none hr tmps P W2,_,st'.gh,B,rfl,hB',hs2.g,hq⟩
 refine iE hT hm c false _ 0 F none 0 _ _ (λ_=>rfl) (by rw[<-qZ];exact h l) _ _ _ ⟨B0,_,hf0,hs.weak λ_ _=>trivial⟩ ?_
 intro e st' a' W' hq hs'
 cases e with
 |normal=>exact hend st' a' W' hq hs'
 |ret=>exact hend st' a' W' hq hs'
 |exit id=>exact hq.elim
 |goto l=>exact hq.elim
 |panic ch=>exact hq.elim
 |outgrown=>exact hq.elim
end
def d8o (k n:Nat)(args:List DV)(j:Nat):AV:=match j with
  |0=> .ms 0 k 0 n
  |j+1=>a2s args j
def b1j (T:Nat->Option TI)(np:Nat)(rs:List ResultVar)(r:Res)(y:AV)(st:St):Prop:=
  match rs with
  |[]=>Edge np st ⟨1,[],[(0,r)],st.gh⟩/\y= .d .top
  |[v]=>match a9a T st v with
    |some (c,x)=>c/\Edge np (st.put (some 0) x) ⟨1,[(0,y)],[(0,r)],st.gh⟩/\Nat.blt 0 st.n=true
    |none=>False
  |rs=>match tI T st rs with
    |some (c,xs)=>c/\Edge np (st.put (some 0) (.tp xs.length (a1c xs))) ⟨1,[(0,y)],[(0,r)],st.gh⟩/\Nat.blt 0 st.n=true
    |none=>False
def d1p (T:Nat->Option TI)(np:Nat)(rs:List ResultVar)(r:Res)(y:AV):Exit->St->Prop
  | .normal,st=>b1j T np rs r y st
  | .ret,st=>b1j T np rs r y st
  |_,_=>False
section
variable {P:Program} {T:Nat->Option TI} {cuts:List Nat}
theorem a7w (hT:bQ P T){B:Base}{fn:Func}{np:Nat}{r:Res}{y:AV}{st:St}{a:Act}{W:World}{E:Env}(h:b1j T np fn.results.toList r y st)(hp:∀j,B.ρ0 j≠ .un->j<np)(hs:Sat B (λj=>st.next<=j) E st a W):
  ∃E' s' a' v,(∀j,j≠0->E'.ρ j= .un)/\Sat B (λj=>1<=j) E' s' a' W/\s'.hp 0=some r/\(results fn a.tmps).run P W= .ok v W/\aK E' W y v:=by
 have hun:∀{E':Env} {s':St} {a':Act},Sat B (λj=>1<=j) E' s' a' W->∀j,j≠0->E'.ρ j= .un:=λh j hj=>h.fr j (Nat.one_le_iff_ne_zero.2 hj)
 unfold b1j at h
 split at h
 ·rename_i hr
  obtain⟨hE,rfl⟩:=h
  obtain⟨m,h1,h2,hE⟩:=hE.ex
  have:=hE.sat0 h1 h2 hp (by simp) hs
  exact⟨_,_,_,.tuple #[],hun this,this,rfl,results_none (by rw[<-e2w];exact hr) a.tmps P W,trivial⟩
 ·rename_i rv hr
  split at h
  ·rename_i c x hv
   obtain⟨hc,hE,ht⟩:=h
   obtain⟨v,hrun,hx⟩:=wV hT hs hv hc
   obtain⟨m,h1,h2,hE⟩:=hE.ex
   have hs1:=hs.put (some 0) hx
   have hn0:0<st.n:=aG.1 ht
   have hn1:(st.put (some 0) x).n=st.n:=rfl
   have:=hE.sat0 h1 h2 hp (by rintro p hp;simp only[e1k]at hp;subst hp;exact hn0) hs1
   refine⟨_,_,_,v,hun this,this,rfl,?_,?_⟩
   ·have e:results fn a.tmps=(do let vs <-fn.results.mapM (a6c a.tmps);pure (if h:vs.size=1 then vs[0]else .tuple vs)):=rfl
    rw[e,d9t,e3o,e7g,hr]
    simp only[e6p,List.mapM_nil,d9t,hrun,d9q,d9u]
    rfl
   ·have h3:=this.tm 0 hn0
    have e:(LS.st (st.put (some 0) x).n ⟨1,[(0,y)],[(0,r)],st.gh⟩).tm 0=y:=rfl
    have e2:((a.put (some 0) v).tmps.getD 0 undef)=v:=by
     have:0<a.tmps.size:=by rw[hs.size];exact hn0
     show(a.tmps.setIfInBounds 0 v).getD 0 undef=v
     simp[Array.getD,this]
    rw[e,e2]at h3;exact h3
  ·exact h.elim
 ·rename_i hno hone
  split at h
  ·rename_i c xs hv
   obtain⟨hc,hE,ht⟩:=h
   obtain⟨vs,hrun,hlen,hx⟩:=mX hT hs hv hc
   obtain⟨m,h1,h2,hE⟩:=hE.ex
   have hlr:xs.length=fn.results.toList.length:=by
    have:∀(rs:List ResultVar) (c:Prop) (xs:List AV),tI T st rs=some (c,xs)->xs.length=rs.length:=by
     intro rs
     induction rs with
     |nil=>intro c xs h;cases h;rfl
     |cons r rs ih=>
      intro c xs h
      unfold tI at h
      split at h
      ·rename_i e1 e2
       cases h
       simp[ih _ _ e2]
      ·cases h
    exact this _ _ _ hv
   have hne1:vs.toArray.size≠1:=by
    intro e
    have h1:fn.results.toList.length=1:=by rw[<-hlr,hlen];simpa using e
    obtain⟨r,hr⟩:=e2q.1 h1
    exact hone r hr
   have hx':aK E W (.tp xs.length (a1c xs)) (.tuple vs.toArray):=by
    refine⟨vs.toArray,rfl,by simp[hlen],λj hj=>?_⟩
    have:=hx j hj
    rw[jL]
    simpa[d9x,d9r]using this
   have hs1:=hs.put (some 0) hx'
   have hn0:0<st.n:=aG.1 ht
   have:=hE.sat0 h1 h2 hp (by rintro p hp;simp only[e1k]at hp;subst hp;exact hn0) hs1
   refine⟨_,_,_,.tuple vs.toArray,hun this,this,rfl,?_,?_⟩
   ·have e:results fn a.tmps=(do let vs <-fn.results.mapM (a6c a.tmps);pure (if h:vs.size=1 then vs[0]else .tuple vs)):=rfl
    rw[e,d9t,e3o,e7g,hrun]
    show Result.ok (if h:vs.toArray.size=1 then vs.toArray[0]else .tuple vs.toArray) W=_
    rw[dif_neg hne1]
   ·have h3:=this.tm 0 hn0
    have e:(LS.st (st.put (some 0) (.tp xs.length (a1c xs))).n ⟨1,[(0,y)],[(0,r)],st.gh⟩).tm 0=y:=rfl
    have e2:((a.put (some 0) (.tuple vs.toArray)).tmps.getD 0 undef)= .tuple vs.toArray:=by
     have:0<a.tmps.size:=by rw[hs.size];exact hn0
     show(a.tmps.setIfInBounds 0 (.tuple vs.toArray)).getD 0 undef=_
     simp[Array.getD,this]
    rw[e,e2]at h3;exact h3
  ·exact h.elim
theorem FnN.of_ex (hT:bQ P T)(hm:P.follows .mixedOrders=true){f:Nat}{fn:Func}{c:Code}{args:List DV}{R:Res}{y:AV}(hf:P.funcs[f]?=some fn)(hb:fn.body=some c)(hent:Ent P f)(hn:Nat.ble args.length fn.ntmps=true)
  (h:exC P T cuts c false none 0 (entry fn.ntmps args) (d1p T 0 fn.results.toList R y)):FnN P f args R y:=by
 refine⟨hent,λS w vals hS hv=>?_⟩
 rw[<-e7m (n:=0)]
 refine e5m hf hb trivial ?_
 have hB:(∀b,(eI S w).ow b↔w.heap.size<=b)/\(eI S w).S0=S/\(eI S w).G w/\∀id,(eI S w).ρ0 id= .un:=⟨λ_=>e6i,rfl,e5p _ _,λ_=>rfl⟩
 have hs:=mB hB hS hv (e1n hn)
 let F:Fam P none 0:=⟨λ_ B=>B=eI S w,λ_ B e j hj=>by subst e;exact absurd rfl hj,λ_ e=>by cases e⟩
 have hend:∀(st':St) (a':Act) (W':World),b1j T 0 fn.results.toList R y st'->xK F st' a' W'->
   LeavesInM Fence.wide 0 P fn a'.tmps (λe w'=>∃u E',e= .returned u/\(∀j,j≠0->E'.ρ j= .un)/\(∀b,S b->E'.S b)/\(∀b,E'.S b->S b\/(w.heap.size<=b/\b<w'.heap.size))/\Below w.heap.size w w'/\SatR (eI S w) E' w' 0 R/\aK E' w' y u) a'.defers .returning W':=by
  rintro st' ⟨tmps,defers⟩ W' hq ⟨B,E1,hB',hs'⟩
  have hB':B=eI S w:=hB'
  subst hB'
  have hdf:=hs'.df
  simp only at hdf
  subst hdf
  refine cZ E1.D E1 W' hs' rfl λE2 W2 hs2=>?_
  obtain⟨E3,s3,a3,u,q1,q2,q3,r1,r2⟩:=a7w hT hq (λj hj=>absurd rfl hj) hs2
  exact⟨u,r1,u,E3,rfl,q1,q2.sub,q2.sup,q2.g,q2.hp 0 _ q3,r2⟩
 refine iE hT hm c false none 0 F none 0 _ _ (λ_=>rfl) (by rw[<-qZ];exact h) _ _ _ ⟨eI S w,_,rfl,hs.weak λ_ _=>trivial⟩ ?_
 intro e st' a' W' hq hs'
 cases e with
 |normal=>exact hend st' a' W' hq hs'
 |ret=>exact hend st' a' W' hq hs'
 |exit id=>exact hq.elim
 |goto l=>exact hq.elim
 |panic ch=>exact hq.elim
 |outgrown=>exact hq.elim
theorem FnF.of_ex (hT:bQ P T)(hm:P.follows .mixedOrders=true){f:Nat}{fn:Func}{c:Code}{args:List DV}{U k n:Nat}{x:Nat->DV}{y:AV}(hf:P.funcs[f]?=some fn)(hb:fn.body=some c)(hent:Ent P f)(hn:Nat.ble args.length fn.ntmps=true)
 (h:exC P T cuts c false none 0 (entry fn.ntmps args) (d1p T 0 fn.results.toList (.row true U k n x) y)):FnF P f args U k n x y:=FnN.of_ex hT hm hf hb hent hn h
theorem FnN.imp {f:Nat}{args args':List DV}{R:Res}{y:AV}(h:FnN P f args R y)(ha:c6i args' args):FnN P f args' R y:=
 ⟨h.ent,λS w vals hS hrep=>h.run S w vals hS (gI.imp ha hrep)⟩
theorem FnF.imp {f:Nat}{args args':List DV}{U k n:Nat}{x:Nat->DV}{y:AV}(h:FnF P f args U k n x y)(ha:c6i args' args):FnF P f args' U k n x y:=FnN.imp h ha
end
def c4d:List AV->Nat->AV
  |[],_=> .d (.v undef)
  |x::l,j=>match j with
    |0=>x
    |j+1=>c4d l j
def lA (N k:Nat)(args:List AV)(ms:List Res):St:=⟨N,k,c4d args,cB (num 0 ms),some 0⟩
def b1k (T:Nat->Option TI)(np:Nat)(rs:List ResultVar)(ms':List Res)(y:AV)(st:St):Prop:=
  match rs with
  |[]=>Edge np st ⟨ms'.length,[],num 0 ms',st.gh⟩/\y= .d .top
  |[v]=>match a9a T st v with
    |some (c,x)=>c/\Edge np (st.put (some 0) x) ⟨ms'.length,[(0,y)],num 0 ms',st.gh⟩/\Nat.blt 0 st.n=true
    |none=>False
  |rs=>match tI T st rs with
    |some (c,xs)=>c/\Edge np (st.put (some 0) (.tp xs.length (a1c xs))) ⟨ms'.length,[(0,y)],num 0 ms',st.gh⟩/\Nat.blt 0 st.n=true
    |none=>False
def b7o (T:Nat->Option TI)(np:Nat)(rs:List ResultVar){ι:Type}(ms':ι->List Res)(y:ι->AV):Exit->St->Prop
  | .normal,st=>∃z,b1k T np rs (ms' z) (y z) st
  | .ret,st=>∃z,b1k T np rs (ms' z) (y z) st
  |_,_=>False
section
variable {P:Program} {T:Nat->Option TI} {cuts:List Nat}
theorem b4d (T:Nat->Option TI)(st:St):∀(rs:List ResultVar) (c:Prop) (xs:List AV),tI T st rs=some (c,xs)->xs.length=rs.length:=by
 intro rs
 induction rs with
 |nil=>intro c xs h;cases h;rfl
 |cons r rs ih=>
  intro c xs h
  unfold tI at h
  split at h
  ·rename_i e1 e2
   cases h
   simp[ih _ _ e2]
  ·cases h
theorem Sat.told {B:Base}{Fr:Nat->Prop}{E:Env}{s:St}{a:Act}{W:World}{ms':List Res}{y:AV}{v:Value}(h:Sat B Fr E s a W)(hp:s.hp=cB (num 0 ms'))(hy:aK E W y v)(hd:a.defers=[]):Sat B Fr E (mSt [y] ms') ⟨#[v],[]⟩ W:=
 ⟨rfl,λi hi=>by
  have hi:i<1:=hi
  obtain rfl:i=0:=by omega
  exact hy,λid r hid=>h.hp id r (by rw[hp];exact hid),λi j b hi hj=>h.dist i j b (by rw[hp];exact hi) (by rw[hp];exact hj),h.fr,h.sub,h.sup,h.s0,by rw[<-h.df,hd],h.dn,h.dd,h.g,h.r0⟩
theorem a7x (hT:bQ P T){B:Base}{fn:Func}{np:Nat}{ms':List Res}{y:AV}{st:St}{a:Act}{W:World}{E:Env}(h:b1k T np fn.results.toList ms' y st)(hp:∀j,B.ρ0 j≠ .un->j<np)(hd:a.defers=[])(hs:Sat B (λj=>st.next<=j) E st a W):
  ∃E' v,Sat B (λj=>ms'.length<=j) E' (mSt [y] ms') ⟨#[v],[]⟩ W/\(results fn a.tmps).run P W= .ok v W:=by
 unfold b1k at h
 split at h
 ·rename_i hr
  obtain⟨hE,rfl⟩:=h
  obtain⟨m,h1,h2,hE⟩:=hE.ex
  have:=hE.sat0 h1 h2 hp (by simp) hs
  exact⟨_,.tuple #[],this.told rfl trivial hd,results_none (by rw[<-e2w];exact hr) a.tmps P W⟩
 ·rename_i rv hr
  split at h
  ·rename_i c x hv
   obtain⟨hc,hE,ht⟩:=h
   obtain⟨v,hrun,hx⟩:=wV hT hs hv hc
   obtain⟨m,h1,h2,hE⟩:=hE.ex
   have hs1:=hs.put (some 0) hx
   have hn0:0<st.n:=aG.1 ht
   have:=hE.sat0 h1 h2 hp (by rintro p hp;simp only[e1k]at hp;subst hp;exact hn0) hs1
   refine⟨_,v,this.told rfl ?_ (by rw[kO];exact hd),?_⟩
   ·have h3:=this.tm 0 hn0
    have e:(LS.st (st.put (some 0) x).n ⟨ms'.length,[(0,y)],num 0 ms',st.gh⟩).tm 0=y:=rfl
    have e2:((a.put (some 0) v).tmps.getD 0 undef)=v:=by
     have:0<a.tmps.size:=by rw[hs.size];exact hn0
     show(a.tmps.setIfInBounds 0 v).getD 0 undef=v
     simp[Array.getD,this]
    rw[e,e2]at h3;exact h3
   ·have e:results fn a.tmps=(do let vs <-fn.results.mapM (a6c a.tmps);pure (if h:vs.size=1 then vs[0]else .tuple vs)):=rfl
    rw[e,d9t,e3o,e7g,hr]
    simp only[e6p,List.mapM_nil,d9t,hrun,d9q,d9u]
    rfl
  ·exact h.elim
 ·rename_i hno hone
  split at h
  ·rename_i c xs hv
   obtain⟨hc,hE,ht⟩:=h
   obtain⟨vs,hrun,hlen,hx⟩:=mX hT hs hv hc
   obtain⟨m,h1,h2,hE⟩:=hE.ex
   have hlr:=b4d T st _ _ _ hv
   have hne1:vs.toArray.size≠1:=by
    intro e
    have h1:fn.results.toList.length=1:=by rw[<-hlr,hlen];simpa using e
    obtain⟨r,hr⟩:=e2q.1 h1
    exact hone r hr
   have hx':aK E W (.tp xs.length (a1c xs)) (.tuple vs.toArray):=by
    refine⟨vs.toArray,rfl,by simp[hlen],λj hj=>?_⟩
    have:=hx j hj
    rw[jL]
    simpa[d9x,d9r]using this
   have hs1:=hs.put (some 0) hx'
   have hn0:0<st.n:=aG.1 ht
   have:=hE.sat0 h1 h2 hp (by rintro p hp;simp only[e1k]at hp;subst hp;exact hn0) hs1
   refine⟨_,.tuple vs.toArray,this.told rfl ?_ (by rw[kO];exact hd),?_⟩
   ·have h3:=this.tm 0 hn0
    have e:(LS.st (st.put (some 0) (.tp xs.length (a1c xs))).n ⟨ms'.length,[(0,y)],num 0 ms',st.gh⟩).tm 0=y:=rfl
    have e2:((a.put (some 0) (.tuple vs.toArray)).tmps.getD 0 undef)= .tuple vs.toArray:=by
     have:0<a.tmps.size:=by rw[hs.size];exact hn0
     show(a.tmps.setIfInBounds 0 (.tuple vs.toArray)).getD 0 undef=_
     simp[Array.getD,this]
    rw[e,e2]at h3;exact h3
   ·have e:results fn a.tmps=(do let vs <-fn.results.mapM (a6c a.tmps);pure (if h:vs.size=1 then vs[0]else .tuple vs)):=rfl
    rw[e,d9t,e3o,e7g,hrun]
    show Result.ok (if h:vs.toArray.size=1 then vs.toArray[0]else .tuple vs.toArray) W=_
    rw[dif_neg hne1]
  ·exact h.elim
theorem zJ:∀(xs:List AV) (j:Nat),c4d xs j=xs.getD j (.d (.v undef))
 |[],j=>by simp[c4d]
 |x::l,0=>by simp[c4d]
 |x::l,j+1=>by simpa[c4d]using zJ l j
theorem FnL.of_ex (hT:bQ P T)(hm:P.follows .mixedOrders=true){f:Nat}{fn:Func}{c:Code}{args:List AV}{ms:List Res}{K:Nat}{ι:Type}{ms':ι->List Res}{y:ι->AV}(hf:P.funcs[f]?=some fn)(hb:fn.body=some c)(hent:Ent P f)(hn:Nat.ble args.length fn.ntmps=true)
  (hle:Nat.ble ms.length K=true) (hlen:∀z,(ms' z).length=K) (hnw:ms.all Res.nw=true) (hnw':∀z,(ms' z).all Res.nw=true)
  (h:exC P T cuts c false none ms.length (lA fn.ntmps ms.length args ms) (b7o T ms.length fn.results.toList ms' y)):FnL P f ms args K ms' y:=by
 refine⟨hent,e1n hle,hlen,λr hr=>e1d.1 hnw r hr,λz r hr=>e1d.1 (hnw' z) r hr,λE w vals hs0=>?_⟩
 rw[<-e7m (n:=0)]
 refine e5m hf hb trivial ?_
 have hvl:vals.length=args.length:=by
  have:=hs0.size
  rw[show(⟨vals.toArray,[]⟩:Act).tmps.size=vals.length by simp]at this
  exact this
 have hn:=e1n hn
 have hs:Sat (iD ms.length E w) (λj=>ms.length<=j) E (lA fn.ntmps ms.length args ms) {tmps:=vals.toArray++Array.replicate (fn.ntmps-vals.toArray.size) undef,defers:=[]} w:=by
  refine⟨?_,λi hi=>?_,hs0.hp,hs0.dist,hs0.fr,hs0.sub,hs0.sup,hs0.s0,hs0.df,hs0.dn,hs0.dd,hs0.g,hs0.r0⟩
  ·show(vals.toArray++Array.replicate (fn.ntmps-vals.toArray.size) undef).size=fn.ntmps
   simp;omega
  ·show aK _ _ (c4d args i) ((vals.toArray++Array.replicate (fn.ntmps-vals.toArray.size) undef).getD i undef)
   rw[zJ,d9x]
   by_cases hi':i<vals.length
   ·rw[e4s (by simpa using hi')]
    have h3:=hs0.tm i (show i<args.length by omega)
    have e1:(mSt args ms).tm i=args.getD i (.d (.v undef)):=by
     have:=rP (d:=AV.d .top) args 0 i
     rw[e0f]at this
     refine Eq.trans this ?_
     rw[d9r,d9r,e0e (by omega)];rfl
    rw[e1]at h3
    simpa[d9x]using h3
   ·rw[e5k (by simpa using hi'),d9r,e1w (by omega),Array.getElem?_replicate]
    split<;>rfl
 have hpin:∀j,(iD ms.length E w).ρ0 j≠ .un->j<ms.length:=λj hj=>e3z λe=>hj (hs0.fr j (Nat.le_of_not_lt e))
 let F:Fam P none ms.length:=⟨λ_ B=>B=iD ms.length E w,λ_ B e j hj=>by subst e;exact hpin j hj,λ_ e=>by cases e⟩
 have hend:∀(st':St) (a':Act) (W':World),(∃z,b1k T ms.length fn.results.toList (ms' z) (y z) st')->xK F st' a' W'->
   LeavesInM Fence.wide 0 P fn a'.tmps (λe w'=>∃z u E',e= .returned u/\Sat (iD ms.length E w) (λj=>K<=j) E' (mSt [y z] (ms' z)) ⟨#[u],[]⟩ w') a'.defers .returning W':=by
  rintro st' ⟨tmps,defers⟩ W' ⟨z,hq⟩ ⟨B,E1,hB',hs'⟩
  have hB':B=iD ms.length E w:=hB'
  subst hB'
  have hdf:=hs'.df
  simp only at hdf
  subst hdf
  refine cZ E1.D E1 W' hs' rfl λE2 W2 hs2=>?_
  obtain⟨E3,u,q1,r1⟩:=a7x hT hq hpin rfl hs2
  rw[hlen]at q1
  exact⟨u,r1,z,u,E3,rfl,q1⟩
 refine iE hT hm c false none ms.length F none 0 _ _ (λ_=>rfl) (by rw[<-qZ];exact h) _ _ _ ⟨iD ms.length E w,_,rfl,hs⟩ ?_
 intro e st' a' W' hq hs'
 cases e with
 |normal=>exact hend st' a' W' hq hs'
 |ret=>exact hend st' a' W' hq hs'
 |exit id=>exact hq.elim
 |goto l=>exact hq.elim
 |panic ch=>exact hq.elim
 |outgrown=>exact hq.elim
abbrev _root_.e8a:=@FnL.of_ex
end
theorem Sp.dec {p:Prop}[Decidable p]{X Y:Prop}(t:p->X)(f:¬p->Y):Sp (decide p) X Y:=⟨λh=>t (e2u h),λh=>f (of_decide_eq_false h)⟩
theorem Sp.ndec {p:Prop}[Decidable p]{X Y:Prop}(t:¬p->X)(f:p->Y):Sp (!decide p) X Y:=⟨λh=>t (λhp=>by rw[e1r hp]at h;cases h),λh=>f (by
 cases hd:decide p with
 |true=>exact e2u hd
 |false=>rw[hd]at h;cases h)⟩
theorem Sp.tt {X Y:Prop}(t:X):Sp true X Y:=⟨λ_=>t,nofun⟩
theorem Sp.ff {X Y:Prop}(f:Y):Sp false X Y:=⟨nofun,λ_=>f⟩
theorem Cl.go {f:CR->Prop}(r:DV)(h:f (.dv r)):Cl f:=⟨⟨.dv r,h⟩⟩
theorem Cl.nw {f:CR->Prop}(R:Res)(y:AV)(h:f (.nw R y)):Cl f:=⟨⟨.nw R y,h⟩⟩
theorem Cl.fr {f:CR->Prop}(U k n:Nat)(x:Nat->DV)(y:AV)(h:f (.fr U k n x y)):Cl f:=⟨⟨.fr U k n x y,h⟩⟩
theorem Ob.fn {A:Prop}{P:Program}{g:Nat}{args args':List DV}{r:DV}{rest:Prop}(k:rest)(im:sR args' args)(ok:A)(h:Fn P g args r):Ob (A/\Fn P g args' r) rest:=
 ⟨⟨ok,h.imp im.imps (e6y _)⟩,λ_=>k⟩
theorem Lp.go {np:Nat}{st:St}{body:St->(Exit->St->Prop)->Prop}{Q:Exit->St->Prop}(N:Nat)(ι:Type)(S:ι->LS)(μ:ι->Nat)(i0:ι)
  (h:∀i,body ((S i).st N) λe st'=>match e with
    | .normal=>st'.n=N/\∃i',Edge np st' (S i')/\μ i'<μ i
    |e=>Q e st') (h0:Edge np st (S i0)) (hN:st.n=N) (hl:∀i,(S i).tm.all (λp=>Nat.blt p.1 N)=true):Lp np st body Q:=by
 subst hN
 exact⟨⟨ι,S,μ,i0,λi p hp=>aG.1 (e1d.1 (hl i) p hp),h0,h⟩⟩
def bG {α:Type}(enc:α->DV)(d:α)(l:List α):Nat->DV:=λj=>enc (l.getD j d)
theorem a6d {α:Type}{enc:α->DV}{d:α}{l:List α}{x:α}{g:Nat->DV}(h:dI (g 0) (enc x))(he:∀y,dI (enc y) (enc y)):∀j,j<(l++[x]).length->dI (apd l.length (bG enc d l) g j) (enc ((l++[x]).getD j d)):=by
 intro j hj
 rw[e1f,e3n]at hj
 unfold apd
 by_cases h1:j<l.length
 ·have e:(l++[x]).getD j d=l.getD j d:=by rw[d9r,d9r,e1u h1]
  rw[e0c h1,e]
  exact he _
 ·have:j=l.length:=by omega
  subst this
  rw[d9z h1,e7w,d9r,e1m (e0g _)]
  simpa using h
theorem ImpS.refl (x:DV):ImpS x x:=⟨e6y x⟩
abbrev _root_.e0h:=@ImpS.refl
theorem ImpS.row {α:Type}{t:Bool}{k:Nat}{enc:α->DV}{d:α}{l l':List α}(h:l=l'):ImpS (.sl t k l.length λi=>bG enc d l (0+i)) (fQ k enc d l'):=by
 subst h
 exact⟨Imp.sl (λe=>by cases e) rfl λj _=>e7u (by rw[e0f];rfl)⟩
abbrev _root_.e2k:=@ImpS.row
theorem ImpS.nil {α:Type}{t:Bool}{k k':Nat}{f:Nat->DV}{enc:α->DV}{d:α}:ImpS (.sl t k 0 f) (fQ k' enc d []):=⟨Imp.sl0 (λe=>by cases e)⟩
theorem ImpS.nil_eq {α:Type}{t:Bool}{k k':Nat}{f:Nat->DV}{enc:α->DV}{d:α}{l:List α}(h:l=[]):ImpS (.sl t k 0 f) (fQ k' enc d l):=by subst h;exact ImpS.nil
abbrev _root_.e1q:=@ImpS.nil_eq
theorem ImpS.vnil_eq {α:Type}{k':Nat}{enc:α->DV}{d:α}{l:List α}(h:l=[]):ImpS (.v (.slice none 0 0)) (fQ k' enc d l):=by subst h;exact⟨Imp.nil⟩
abbrev _root_.e1i:=@ImpS.vnil_eq
theorem ImpS.sl_eq {α:Type}{k:Nat}{enc:α->DV}{d:α}{l l':List α}(h:l=l'):ImpS (fQ k enc d l) (fQ k enc d l'):=by subst h;exact e0h _
abbrev _root_.e1v:=@ImpS.sl_eq
theorem ImpS.rowN {α:Type}{t:Bool}{k n:Nat}{enc:α->DV}{d:α}{l l':List α}(hn:n=l.length)(h:l=l'):ImpS (.sl t k n λi=>bG enc d l (0+i)) (fQ k enc d l'):=by
 subst hn;exact e2k h
abbrev _root_.e2e:=@ImpS.rowN
theorem bS.refl:∀x:DV,bS x x:=by
 intro x
 induction x with
 |v u=>
  show bS (.v u) (.v u)
  unfold bS
  cases u<;>simp
 |top=>exact trivial
 |ag n f ih=>exact⟨rfl,aM.2 λj _=>ih j⟩
 |tp n f ih=>exact⟨rfl,aM.2 λj _=>ih j⟩
 |sl t k n f _=>exact e0h _
 |pt x o ih=>exact⟨rfl,ih⟩
 |fn g n m f c ih1 ih2=>exact⟨rfl,rfl,rfl,aM.2 λj _=>ih1 j,aM.2 λj _=>ih2 j⟩
 |mp kt m=>exact⟨rfl,λ_=>rfl⟩
theorem dI.refl:∀x:DV,dI x x:=by
 intro x
 cases x with
 |v u=>exact bS.refl _
 |top=>exact trivial
 |ag n f=>exact⟨rfl,aM.2 λj _=>bS.refl _⟩
 |tp n f=>exact bS.refl (.tp n f)
 |sl t k n f=>exact bS.refl (.sl t k n f)
 |pt x o=>exact bS.refl (.pt x o)
 |fn g n m f c=>exact bS.refl (.fn g n m f c)
 |mp kt m=>exact bS.refl (.mp kt m)
theorem aA {α:Type}{enc:α->DV}{d:α}{l:List α}{x:α}{g:Nat->DV}(h:dI (g 0) (enc x)):∀j,j<(l++[x]).length->dI (apd l.length (bG enc d l) g j) (bG enc d (l++[x]) j):=
 a6d h λy=>dI.refl _
theorem aC {n:Nat}{f:Nat->DV}:∀j,j<n->dI (f j) (f j):=λ_ _=>dI.refl _
theorem aB {f g:Nat->DV}:∀j,j<0->dI (f j) (g j):=λj hj=>absurd hj (e3i j)
structure Hid (p:Prop):Prop where
  h:p
theorem hide {α:Type}(a:α):∃r,Hid (a=r):=⟨a,⟨rfl⟩⟩
theorem Fn.hide {P:Program}{f:Nat}{args:List DV}{α:Type}{D:α->DV}{a:α}(h:∀r,Hid (a=r)->Fn P f args (D r)):Fn P f args (D a):=h a ⟨rfl⟩
abbrev _root_.e8b:=@Fn.hide
theorem bA {α:Type}{enc:α->DV}{d:α}{l l':List α}{i n:Nat}{v:DV}{x:α}(h:dI v (enc x))(hl:∀j,j<n->l'.getD j d=if j=i then x else l.getD j d):∀j,j<n->dI (upE i v (bG enc d l) j) (bG enc d l' j):=by
 intro j hj
 unfold upE bG
 rw[hl j hj]
 by_cases e:j=i
 ·rw[e0c e,e0c e];exact h
 ·rw[d9z e,d9z e];exact dI.refl _
theorem b9k {α:Type}{enc:α->DV}{d:α}{l l':List α}{i i' n:Nat}{v v':DV}{x x':α}(h:dI v (enc x))(h':dI v' (enc x'))(hl:∀j,j<n->l'.getD j d=if j=i then x else if j=i' then x' else l.getD j d):∀j,j<n->dI (upE i v (upE i' v' (bG enc d l)) j) (bG enc d l' j):=by
 intro j hj
 unfold upE bG
 rw[hl j hj]
 by_cases e:j=i
 ·rw[e0c e,e0c e];exact h
 ·rw[d9z e,d9z e]
  by_cases e':j=i'
  ·rw[e0c e',e0c e'];exact h'
  ·rw[d9z e',d9z e'];exact dI.refl _
def rowF (F:Nat->Int):Nat->DV:=λj=>int (F j)
theorem qD {F F':Nat->Int}{i n:Nat}{v:DV}{x:Int}(h:dI v (int x))(hl:∀j,j<n->F' j=if j=i then x else F j):∀j,j<n->dI (upE i v (rowF F) j) (rowF F' j):=by
 intro j hj
 unfold upE rowF
 rw[hl j hj]
 by_cases e:j=i
 ·rw[e0c e,e0c e];exact h
 ·rw[d9z e,d9z e];exact dI.refl _
theorem b4k {F F':Nat->Int}{n:Nat}(hl:∀j,j<n->F j=F' j):∀j,j<n->dI (rowF F j) (rowF F' j):=λj hj=>by
 unfold rowF;rw[hl j hj];exact dI.refl _
theorem ImpS.rowF {t:Bool}{n:Nat}{F:Nat->Int}{l:List Int}(hn:n=l.length)(h:∀j,j<n->F j=l.getD j 0):ImpS (.sl t 1 n λi=>Px.rowF F (0+i)) (Px.ints l):=
 ⟨Imp.sl (λe=>by cases e) hn λj hj=>e7u (by show Px.int (F (0+j))=_;rw[e0f,h j hj])⟩
theorem ImpS.expl {α:Type}{t:Bool}{k n:Nat}{f:Nat->DV}{enc:α->DV}{d:α}{l:List α}(hn:n=l.length)(h:jB n λi=>bS (f i) (enc (l.getD i d))):ImpS (.sl t k n f) (fQ k enc d l):=
 ⟨Imp.sl (λe=>by cases e) hn λj hj=>(aM.1 h j hj).imp⟩
abbrev _root_.e2f:=@ImpS.expl
theorem c7z {x:Int}(h: -9223372036854775808<=x/\x<=9223372036854775807):inR .i64 x:=by simp only[inR];omega
theorem zA {a b:Nat}(h:Nat.blt a b=true):a<b:=aG.1 h
theorem d6z {x:Int}(h:x<64):x<((IntKind.i64.bits:Nat):Int):=h
structure T1 (q p:Prop):Prop where
  h:q->p
structure T2 (q r p:Prop):Prop where
  h:q->r->p
theorem Ob.A {p rest:Prop}(h:p:=by first|exact True.intro|(refine c7z ?_;omega)|exact zA rfl|exact(λ_ _=>⟨⟨_,rfl⟩,⟨_,rfl⟩⟩)|omega|assumption|exact rfl|(refine And.intro ?_ ?_<;>(repeat' refine And.intro ?_ ?_)<;>first|exact True.intro|omega|exact zA rfl|(refine d6z ?_;omega)|(refine c7z ?_;omega)|exact rfl|exactλ_ _=>rfl|exact e0m)|exact And.intro True.intro (And.intro True.intro True.intro)|exact And.intro True.intro (And.intro True.intro (And.intro True.intro True.intro))|exact e1n rfl|(refine d6z ?_;omega)|(simp only[IntKind.bits];omega)):T1 rest (Ob p rest):=⟨λr=>⟨h,λ_=>r⟩⟩
theorem Ob.a {p rest:Prop}(r:rest)(h:T1 rest (Ob p rest):=by exact Ob.A):Ob p rest:=h.h r
theorem ImpS.copied {α:Type}{t:Bool}{k n o m:Nat}{enc:α->DV}{d:α}{l l':List α}{z:Nat->DV}(hn:n=l.length)(ho:o=0)(hm:m=l.length)(h:l=l'):ImpS (.sl t k n λi=>mid o m (λi=>enc (l.getD i d)) z (0+i)) (fQ k enc d l'):=by
 subst h;subst hn;subst ho;subst hm
 refine⟨Imp.sl (λe=>by cases e) rfl λj hj=>e7u ?_⟩
 unfold mid
 rw[e0c (by omega)]
 simp
theorem ImpS.fn {α:Type}{t:Bool}{k n:Nat}{f:Nat->DV}{enc:α->DV}{d:α}{l:List α}(hn:n=l.length)(h:∀j,j<n->f j=enc (l.getD j d)):ImpS (.sl t k n f) (fQ k enc d l):=
 ⟨Imp.sl (λe=>by cases e) hn λj hj=>e7u (h j hj)⟩
theorem ImpS.appd0 {α:Type}{t:Bool}{k n:Nat}{enc:α->DV}{d:α}{l l':List α}{z:Nat->DV}(hn:n=l.length)(h:l=l'):ImpS (.sl t k n λi=>apd 0 z (λi=>enc (l.getD i d)) (0+i)) (fQ k enc d l'):=by
 subst h;subst hn
 exact⟨Imp.sl (λe=>by cases e) rfl λj hj=>e7u (by unfold apd;simp)⟩
theorem b4l {α:Type}{enc:α->DV}{d:α}{l:List α}{x:α}{n:Nat}{g:Nat->DV}(hn:n=l.length)(h:dI (g 0) (enc x)):∀j,j<(l++[x]).length->dI (apd n (λj=>bG enc d l (0+j)) g j) (bG enc d (l++[x]) j):=by
 subst hn
 intro j hj
 have e:apd l.length (λj=>bG enc d l (0+j)) g j=apd l.length (bG enc d l) g j:=by unfold apd;simp only[e0f]
 rw[e]
 exact aA h j hj
theorem eF.refl (f:List Int->Option Int):eF f f:=λ_=>rfl
theorem Lf {p:Prop}(h:p:=by
 repeat' first
  |(refine e2d ?_)
  |((conv=>whnf);first
   |exact True.intro
   |(refine And.intro ?_ ?_)
   |exact rfl
   |exact e1h (e0f _)
   |exact e0h _
   |((conv=>arg 1;whnf);first
    |exact e0h _
    |(refine e1q ?_)
    |(refine e1i ?_)
    |(refine e2k ?_)
    |(refine e2e ?_ ?_)
    |(refine e1v ?_)
    |(refine ImpS.copied ?_ ?_ ?_ ?_)
    |(refine ImpS.appd0 ?_ ?_)
    |(refine ImpS.rowF ?_ ?_)
    |(refine ImpS.fn ?_ ?_;(focus assumption);(focus assumption))
    |(refine e2f rfl ?_))
   |(refine aA ?_)
   |(refine b4l ?_ ?_)
   |(apply bA)
   |(apply b9k)
   |(apply qD)
   |(apply b4k)
   |exact aB
   |exact aC
   |exact e0m
   |exact bS.refl _)
  |exact rfl
  |exact eF.refl _
  |(refine And.intro ?_ ?_)
  |exact e0h _
  |assumption
  |omega
  |(simp only[*];done)
  |(simp[*];done)
 first|done|fail "left"):p:=h
theorem Ob.call {A:Prop}{P:Program}{g:Nat}{args args':List DV}{r:DV}{rest:Prop}(h:Fn P g args r)(k:rest)(im:sR args' args:=by exact Lf)(ok:A:=by exact Lf):Ob (A/\Fn P g args' r) rest:=
 ⟨⟨ok,h.imp im.imps (e6y _)⟩,λ_=>k⟩
abbrev _root_.e2m:=@Ob.call
theorem Sp.yes {p:Prop}[Decidable p]{X Y:Prop}(t:X)(h:p:=by omega):Sp (decide p) X Y:=Sp.dec (λ_=>t) λhn=>absurd h hn
theorem Sp.no {p:Prop}[Decidable p]{X Y:Prop}(f:Y)(h:¬p:=by omega):Sp (decide p) X Y:=Sp.dec (λhp=>absurd hp h) λ_=>f
theorem Sp.nyes {p:Prop}[Decidable p]{X Y:Prop}(f:Y)(h:p:=by omega):Sp (!decide p) X Y:=Sp.ndec (λhn=>absurd h hn) λ_=>f
theorem Sp.nno {p:Prop}[Decidable p]{X Y:Prop}(t:X)(h:¬p:=by omega):Sp (!decide p) X Y:=Sp.ndec (λ_=>t) λhp=>absurd hp h
theorem Sp.ne {α:Type}{x y:α}[Decidable (x=y)]{X Y:Prop}(t:x≠y->X)(f:x=y->Y):Sp (decide (x≠y)) X Y:=Sp.dec t λh=>f (e5z h)
theorem Fi.a {p q:Prop}(im:q)(ok:p:=by exact Lf):Fi p q:=⟨ok,im⟩
theorem Yl.a {p X Y:Prop}(t:X)(f:Y)(c:p:=by exact Lf):Yl p X Y:=⟨c,t,f⟩
theorem Lg {p:Prop}(h:p:=by
 repeat' first
  |(refine e2d ?_)
  |((conv=>whnf);first
   |exact True.intro
   |(refine And.intro ?_ ?_)
   |exact rfl
   |exact e1h (e0f _)
   |exact e0h _
   |((conv=>arg 1;whnf);first
    |exact e0h _
    |(refine e1q ?_)
    |(refine e1i ?_)
    |(refine e2k ?_)
    |(refine e2e ?_ ?_)
    |(refine e1v ?_)
    |(refine ImpS.copied ?_ ?_ ?_ ?_)
    |(refine ImpS.fn ?_ ?_;(focus assumption);(focus assumption))
    |(refine e2f rfl ?_))
   |(refine aA ?_)
   |(apply bA)
   |exact aB
   |exact aC
   |exact e0m
   |exact bS.refl _)
  |exact rfl
  |(refine And.intro ?_ ?_)
  |exact e0h _
  |assumption
  |omega
  |(simp only[*];done)
  |(simp[*];done)
 first|done|fail "left"):p:=h
theorem Ob.b {p rest:Prop}(r:rest)(h:p:=by first|exact And.intro (e1n rfl) True.intro|exact Lf):Ob p rest:=⟨h,λ_=>r⟩
theorem Lh {p:Prop}(h:p:=by
 repeat' first
  |(refine e2d ?_)
  |((conv=>whnf);first
   |exact True.intro
   |(refine And.intro ?_ ?_)
   |exact rfl
   |exact e1h (e0f _)
   |exact e0h _
   |((conv=>arg 1;whnf);first
    |exact e0h _
    |(refine e1q ?_)
    |(refine e1i ?_)
    |(refine e2k ?_)
    |(refine e2e ?_ ?_)
    |(refine e1v ?_)
    |(refine ImpS.copied ?_ ?_ ?_ ?_)
    |(refine ImpS.fn ?_ ?_;(focus assumption);(focus assumption))
    |(refine e2f rfl ?_))
   |(refine aA ?_)
   |(apply bA)
   |exact aB
   |exact aC
   |exact e0m
   |exact bS.refl _)
  |exact rfl
  |exact eF.refl _
  |(refine And.intro ?_ ?_)
  |exact e0h _
  |assumption
  |omega
  |(simp only[*];done)
  |(simp[*];done)
 first|done|fail "left"):p:=h
theorem kI {α:Type}[DecidableEq α]:∀(K l:List α),l.Nodup->(∀x∈l,x∈K)->l.length<=K.length
 |[],l,_,h=>by
  cases l with
  |nil=>exact e0g _
  |cons x l=>exact absurd (h x (by simp)) (by simp)
 |a::K,l,hn,h=>by
  have hn':(l.erase a).Nodup:=hn.erase a
  have:=kI K (l.erase a) hn' λx hx=>by
   have hx':=(hn.mem_erase_iff.1 hx)
   rcases e0b.1 (h x hx'.2)with e|e
   ·exact absurd e hx'.1
   ·exact e
  have hl:=List.length_erase_le (a:=a) (l:=l)
  by_cases ha:a∈l
  ·rw[List.length_erase_of_mem ha]at this;rw[e0r];omega
  ·rw[List.erase_of_not_mem ha]at this;rw[e0r];omega
def c0q:AV->Bool
  | .d .top=>true
  |_=>false
def b9l (tm:Nat->AV)(l:List Nat):(List (Nat×AV)->Prop)->Prop:=
  List.rec (motive:=λ_=>(List (Nat×AV)->Prop)->Prop) (λK=>K [])
    (λj _ ih K=>a7y (tm j) λx=>match c0q x with
      |true=>ih K
      |false=>ih λr=>K ((j,x)::r)) l
def yJ (f:Nat->AV)(l:List Nat):(List AV->Prop)->Prop:=
  List.rec (motive:=λ_=>(List AV->Prop)->Prop) (λK=>K []) (λj _ ih K=>a7y (f j) λx=>ih λr=>K (x::r)) l
def uO:List AV->Nat->AV
  |[],_=> .d .top
  |x::l,j=>bif Nat.beq j 0 then x else uO l (j-1)
def rC (b:Bool)(K:Bool->Prop):Prop:=
  match b with
  |true=>K true
  |false=>K false
def b1u (r:Res)(K:Res->Prop):Prop:=
  match r with
  | .cs mt n f=>rC mt λmt=>bif Nat.ble n 24 then(cL n λn=>yJ f (List.range n) λl=>K (.cs mt n (uO l)))else K (.cs mt n f)
  | .row mt T k n f=>rC mt λmt=>K (.row mt T k n f)
  | .mp mt kt m=>rC mt λmt=>K (.mp mt kt m)
  | .it mt kt m seen cur=>rC mt λmt=>K (.it mt kt m seen cur)
  | .me mt kt m l born=>rC mt λmt=>K (.me mt kt m l born)
def b4y (hp:Nat->Option Res)(l:List Nat):(List (Nat×Res)->Prop)->Prop:=
  List.rec (motive:=λ_=>(List (Nat×Res)->Prop)->Prop) (λK=>K [])
    (λj _ ih K=>match hp j with
      |some r=>b1u r λr=>ih λl=>K ((j,r)::l)
      |none=>ih K) l
def d0t:List (Nat×Res)->Nat
  |[]=>0
  |(j,_)::l=>Nat.max (j+1) (d0t l)
def b1s (g:Option Nat)(K:Option Nat->Prop):Prop:=
  match g with
  |some n=>cL n λn=>K (some n)
  |none=>K none
def snap (st:St)(ks:List Nat)(bH:Nat)(K:LS->Prop):Prop:=
  b9l st.tm ks λtm=>b4y st.hp (List.range bH) λhp=>cL (d0t hp) λnx=>b1s st.gh λg=>K ⟨nx,tm,hp,g⟩
theorem sI {tm:Nat->AV}{X:Prop}:∀(l:List Nat) {K:List (Nat×AV)->Prop},(∀r,K r->X)->b9l tm l K->X
 |[],K,h,hk=>h _ hk
 |j::l,K,h,hk=>by
  have hk:a7y (tm j) λx=>match c0q x with
   |true=>b9l tm l K
   |false=>b9l tm l λr=>K ((j,x)::r):=hk
  rw[rE]at hk
  split at hk
  ·exact sI l h hk
  ·exact sI l (λr hr=>h _ hr) hk
theorem tZ {f:Nat->AV}{X:Prop}:∀(l:List Nat) {K:List AV->Prop},(∀r,K r->X)->yJ f l K->X
 |[],K,h,hk=>h _ hk
 |j::l,K,h,hk=>tZ l (λr hr=>h _ hr) ((rE _ _).1 (show a7y (f j) λx=>yJ f l λr=>K (x::r)from hk))
theorem gK (b:Bool)(K:Bool->Prop):rC b K↔K b:=by cases b<;>exact e6i
theorem uA (g:Option Nat)(K:Option Nat->Prop):b1s g K↔K g:=by
 cases g with
 |none=>exact e6i
 |some n=>exact bC n (λn=>K (some n))
theorem a8a {r:Res}{X:Prop}{K:Res->Prop}(h:∀r,K r->X)(hk:b1u r K):X:=by
 cases r with
 |cs mt n f=>
  have hk:rC mt λmt=>bif Nat.ble n 24 then(cL n λn=>yJ f (List.range n) λl=>K (.cs mt n (uO l)))else K (.cs mt n f):=hk
  rw[gK]at hk
  revert hk
  cases Nat.ble n 24 with
  |true=>exactλhk=>tZ _ (λr hr=>h _ hr) ((bC _ (λn=>yJ f (List.range n) λl=>K (.cs mt n (uO l)))).1 hk)
  |false=>exactλhk=>h _ hk
 |row mt T k n f=>exact h _ ((gK _ (λmt=>K (.row mt T k n f))).1 hk)
 |mp mt kt m=>exact h _ ((gK _ (λmt=>K (.mp mt kt m))).1 hk)
 |it mt kt m seen cur=>exact h _ ((gK _ (λmt=>K (.it mt kt m seen cur))).1 hk)
 |me mt kt m l born=>exact h _ ((gK _ (λmt=>K (.me mt kt m l born))).1 hk)
theorem nB {hp:Nat->Option Res}{X:Prop}:∀(l:List Nat) {K:List (Nat×Res)->Prop},(∀r,K r->X)->b4y hp l K->X
 |[],K,h,hk=>h _ hk
 |j::l,K,h,hk=>by
  have hk:(match hp j with
   |some r=>b1u r λr=>b4y hp l λl=>K ((j,r)::l)
   |none=>b4y hp l K):=hk
  split at hk
  ·exact a8a (λr hr=>nB l (λr hr=>h _ hr) hr) hk
  ·exact nB l h hk
theorem a6m {st:St}{ks:List Nat}{bH:Nat}{K:LS->Prop}{X:Prop}(h:∀b,K b->X)(hk:snap st ks bH K):X:=
 sI _ (λ_ hr=>nB _ (λ_ hr=>h _ ((uA _ _).1 ((bC _ _).1 hr))) hr) hk
structure LpB (b:LS)(np:Nat)(st:St)(body:St->(Exit->St->Prop)->Prop)(Q:Exit->St->Prop):Prop where
  h:Lp np st body Q
theorem Lp.snap {np:Nat}{st:St}{body:St->(Exit->St->Prop)->Prop}{Q:Exit->St->Prop}(ks:List Nat)(bH:Nat)(h:snap st ks bH λb=>LpB b np st body Q):Lp np st body Q:=a6m (λ_ h=>h.h) h
abbrev _root_.e2x:=@Lp.snap
def c8d {α:Type}(u:List (Nat×α))(j:Nat):Bool:=
  match u with
  |[]=>false
  |(i,_)::l=>bif Nat.beq i j then true else c8d l j
def d0w {α:Type}(u b:List (Nat×α)):List (Nat×α):=
  List.rec (motive:=λ_=>List (Nat×α)) u (λp _ ih=>bif c8d u p.1 then ih else p::ih) b
def b1t {α:Type}(l:List (Nat×α)):(List (Nat×α)->Prop)->Prop:=
  List.rec (motive:=λ_=>(List (Nat×α)->Prop)->Prop) (λK=>K []) (λp _ ih K=>match p with
    |(j,x)=>ih λr=>K ((j,x)::r)) l
theorem nO {α:Type}:∀(l:List (Nat×α)) (K:List (Nat×α)->Prop),b1t l K↔K l
 |[],_=>e6i
 |(_,_)::l,K=>nO l _
def LS.upd (b:LS)(x:Nat)(u:Nat->List (Nat×AV)×List (Nat×Res)):LS:=LS.rec (motive:=λ_=>LS) (λnx tm hp gh=>⟨nx+x,d0w (u nx).1 tm,d0w (u nx).2 hp,gh⟩) b
def LS.updR (b:LS)(x:Nat)(u:Nat->List (Nat×Res))(g:Option Nat):LS:=LS.rec (motive:=λ_=>LS) (λnx tm hp _=>⟨nx+x,tm,d0w (u nx) hp,g⟩) b
def LS.updH (b:LS)(x:Nat)(u:Nat->List (Nat×Res))(g:Option Nat):LS:=LS.rec (motive:=λ_=>LS) (λnx _ hp _=>⟨nx+x,[],d0w (u nx) hp,g⟩) b
def nN (s:LS)(K:LS->Prop):Prop:=cL s.nx λnx=>b1t s.tm λtm=>b1t s.hp λhp=>b1s s.gh λg=>K ⟨nx,tm,hp,g⟩
theorem iI (s:LS)(K:LS->Prop):nN s K↔K s:=by
 unfold nN
 rw[bC,nO,nO,uA]
def b2s {α:Type}(N:Nat):List (Nat×α)->Bool
  |[]=>true
  |p::l=>bif Nat.blt p.1 N then b2s N l else false
theorem rQ {α:Type}{N:Nat}:∀{l:List (Nat×α)},b2s N l=true->∀p∈l,p.1<N
 |q::l,h,p,hp=>by
  unfold b2s at h
  cases hq:Nat.blt q.1 N with
  |false=>rw[hq]at h;cases h
  |true=>
   rw[hq]at h
   rcases e0b.1 hp with rfl|hp
   ·exact aG.1 hq
   ·exact rQ h p hp
theorem LpB.go {b:LS}{np:Nat}{st:St}{body:St->(Exit->St->Prop)->Prop}{Q:Exit->St->Prop}(N:Nat)(ι:Type)(x:Nat)(U:ι->Nat->List (Nat×AV)×List (Nat×Res))(μ:ι->Nat)(i0:ι)
  (h:∀i,nN (b.upd x (U i)) λs=>body (s.st N) λe st'=>match e with
    | .normal=>st'.n=N/\∃i',Edge np st' (b.upd x (U i'))/\μ i'<μ i
    |e=>Q e st') (h0:Edge np st (b.upd x (U i0))) (hN:st.n=N:=by exact rfl) (hl:∀i,b2s N (b.upd x (U i)).tm=true:=by exactλ_=>rfl):LpB b np st body Q:=by
 subst hN
 exact⟨⟨ι,λi=>b.upd x (U i),μ,i0,λi p hp=>rQ (hl i) p hp,h0,λi=>(iI _ _).1 (h i)⟩⟩
abbrev _root_.e3v:=@LpB.go
structure RgB (b:LS)(P:Program)(np:Nat)(st:St)(f:AV)(ps:List Nat)(round:Nat->St->(Exit->St->Prop)->Prop)(Q:Exit->St->Prop):Prop where
  h:Rg P np st f ps round Q
def c6t (f:AV):List AV:=match seqOf f with
  |some x=>x.2.1
  |none=>[]
def c6u (f:AV):List AV:=match seqOf f with
  |some x=>x.2.2
  |none=>[]
theorem Rg.snap {P:Program}{np:Nat}{st:St}{f:AV}{ps:List Nat}{round:Nat->St->(Exit->St->Prop)->Prop}{Q:Exit->St->Prop}(ks:List Nat)(bH:Nat)
 (h:snap (st.frzs (bO st (c6t f++c6u f))) ks bH λb=>RgB b P np st f ps round Q):Rg P np st f ps round Q:=a6m (λ_ h=>h.h) h
theorem RgB.go {b:LS}{P:Program}{np:Nat}{st:St}{f:AV}{ps:List Nat}{round:Nat->St->(Exit->St->Prop)->Prop}{Q:Exit->St->Prop}(M:Nat){N:Nat}{Y:Nat->List DV}(ι:Type)(x:Nat)(U:ι->Nat->List (Nat×Res))(ix:ι->Nat)(i0:ι)
  {g:Nat} {A C:List DV} (hq:Seq P g A C N Y)
  (hr:∀i k,ix i=k->k<N->nN (b.updR x (U i) (some 0)) λs=>round b.nx (putAll (s.st M) ps (Y k)) λe st'=>match e with
    | .normal=>st'.gh=some 0/\∃i',ix i'=k+1/\Edge b.nx st' (b.updH x (U i') (some 0))
    | .exit id=>∃r:Nat×List (Nat×Res),Edge b.nx st' ⟨r.1,[],r.2,some 0⟩/\Q (.exit id) ((⟨r.1,b.tm,r.2,b.gh⟩:LS).st M)
    | .ret=>∃r:Nat×List (Nat×Res),Edge b.nx st' ⟨r.1,[],r.2,some 0⟩/\Q .ret ((⟨r.1,b.tm,r.2,b.gh⟩:LS).st M)
    |_=>False)
  (hd:∀i,ix i=N->nN (b.updR x (U i) b.gh) λs=>Q .normal (s.st M))
  (he:Edge np (st.frzs (bO st (c6t f++c6u f))) (b.updR x (U i0) b.gh))
  (hs:seqOf f=some (g,c6t f,c6u f):=by exact rfl)
  (hA:(c6t f).map (dX bH st.hp)=A:=by exact rfl) (hC:(c6u f).map (dX bH st.hp)=C:=by exact rfl)
  (hok:gQ st (c6t f++c6u f):=by exact Lh)
  (hn:st.n=M:=by exact rfl) (hg:st.gh=b.gh:=by exact rfl) (ht:b2s M b.tm=true:=by exact rfl) (hl:b.tm.all (λp=>eJ b.nx p.2)=true:=by exact rfl) (hnp:Nat.ble np b.nx=true:=by exact rfl)
  (hY:∀k,(Y k).length=ps.length:=by exactλ_=>rfl) (hps:ps.all (λp=>Nat.blt p M)=true:=by exact rfl) (h0:ix i0=0:=by exact rfl):RgB b P np st f ps round Q:=by
 subst hn;subst hA;subst hC
 obtain⟨nx,tm,hp,gh⟩:=b
 obtain rfl:st.gh=gh:=hg
 exact⟨⟨nx,tm,g,c6t f,c6u f,N,Y,ι,λi=>(nx+x,d0w (U i nx) hp),ix,i0,hs,hok,hq,rQ ht,λp hp=>e1d.1 hl p hp,e1n hnp,λk _=>hY k,λp hp=>aG.1 (e1d.1 hps p hp),he,λi=>e5r _ _,h0,λi hi=>(iI _ _).1 (hr i _ rfl hi),λi hi=>(iI _ _).1 (hd i hi)⟩⟩
def b7f {α:Type}(D:List Nat)(l:List (Nat×α)):List (Nat×α):=List.rec (motive:=λ_=>List (Nat×α)) [] (λp _ ih=>bif D.any (Nat.beq p.1)then ih else p::ih) l
def LS.dropH (b:LS)(D:List Nat):LS:=LS.rec (motive:=λ_=>LS) (λnx tm hp gh=>⟨nx,tm,b7f D hp,gh⟩) b
theorem RgB.drop {b:LS}{P:Program}{np:Nat}{st:St}{f:AV}{ps:List Nat}{round:Nat->St->(Exit->St->Prop)->Prop}{Q:Exit->St->Prop}(D:List Nat)(h:nN (b.dropH D) λb'=>RgB b' P np st f ps round Q):RgB b P np st f ps round Q:=by
 rw[iI]at h;exact⟨h.h⟩
structure OutB (hp:List (Nat×Res))(np:Nat)(st:St)(C:Nat×List (Nat×Res)->Prop):Prop where
  h:∃r:Nat×List (Nat×Res),Edge np st ⟨r.1,[],r.2,some 0⟩/\C r
theorem Out.snap {np:Nat}{st:St}{C:Nat×List (Nat×Res)->Prop}(h:b4y st.hp (List.range np) λhp=>OutB hp np st C):∃r:Nat×List (Nat×Res),Edge np st ⟨r.1,[],r.2,some 0⟩/\C r:=nB _ (λ_ h=>h.h) h
theorem OutB.go {hp:List (Nat×Res)}{np:Nat}{st:St}{C:Nat×List (Nat×Res)->Prop}(hC:C (np,hp))(he:Edge np st ⟨np,[],hp,some 0⟩:=by exact Lh):OutB hp np st C:=⟨⟨(np,hp),he,hC⟩⟩
end Go.Px
end
