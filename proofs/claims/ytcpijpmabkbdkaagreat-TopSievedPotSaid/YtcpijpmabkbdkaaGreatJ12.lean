/- Texts of this proof, joined. No statement of the seat is proved here. -/
import Derived.Test.YtcpijpmabkbdkaaGreatJ11
import Derived.RangeFuncLeaves
import Derived.RangeFuncRecord
import Derived.Maps.RangeRun
set_option linter.unusedVariables false
set_option linter.unusedSimpArgs false
set_option maxRecDepth 100000
set_option maxHeartbeats 64000000
noncomputable section
set_option linter.unusedVariables false
namespace Go.Kx
open Go
def c0d (l:Option Nat)(k:Nat)(P:Program)(u:Value)(us:Array Value)(W:World)(R:Value->World->Prop):Prop:=
  ∃r W1,(Deferred.ofValue u us >>= λd=>invoke d.target d.args:Sem Next).run P W= .ok r W1/\match r with
    | .value v=>R v W1
    | .enter f args=>CallsIn (Fw l) k P f args W1 λe W'=>∃v,e= .returned v/\R v W'
    | .round b f tmps as body=>RoundIn (Fw l) k P b f tmps as body W1 λe W'=>∃v,e= .returned v/\R v W'
    |_=>False
theorem c2m {l:Option Nat}{k:Nat}{P:Program}{o:Oper}{c:Call}{fo:Operand}{a:Act}{W:World}{next:Act->World->Prop}{Q:Exit->Act->World->Prop}(ho:o.op= .call c)(hc:c.callee= .value fo)
  (h:c0d l (k-1) P (a.eval fo) (c.args.map a.eval) W λv W'=>next (a.put o.dst v) W'):o.wpIn (Fw l) k P a W next Q:=by
 refine⟨λ_ _=>trivial,?_⟩
 show o.uponIn (Fw l) k P a next Q ((o.semAt l a.eval).run P W)
 rw[e3x _ _ _ (by rw[ho];simp)]
 obtain⟨r,W1,h1,h2⟩:=h
 have hrun:(execOp a.eval o).run P W= .ok r W1:=by
  simp only[execOp,ho,resolve,hc]
  exact h1
 rw[hrun]
 cases r<;>first|exact h2.elim|exact h2|skip
 ·exact⟨λq=>(by cases q),h2.mono λe W' ⟨v,q1,q2⟩=>by subst q1;exact q2⟩
 ·exact⟨λq=>(by cases q),h2.mono λe W' ⟨v,q1,q2⟩=>by subst q1;exact q2⟩
def PoV (E:Vl)(Ow:Nat->Prop)(ρ:Rh)(Fr:Id->Prop)(W:World)(lo hi:Nat)(v:V)(h':Hf)(w:Value)(W':World):Prop:=
  ∃ρ',Nm ρ ρ' lo hi/\RV E ρ' v w/\HR E Ow ρ' h' (λid=>Fr id/\¬Rg lo hi id) W'/\Gr Ow W W'
def CvT (P:Program)(EK:Vl->Prop)(f:V)(args:List V)(lo hi:Nat)(h:Hf)(v:V)(h':Hf):Prop:=
  ∀(E:Vl) (Ow:Nat->Prop) (ρ:Rh) (Fr:Id->Prop) (l:Option Nat) (k:Nat) (W:World) (u:Value) (us:List Value) (R:Value->World->Prop),EK E->RV E ρ f u->RVs E ρ args us->HR E Ow ρ h Fr W->(∀id,Rg lo hi id->Fr id)->(∃sp,Fr sp/\¬Rg lo hi sp)->
    (∀w W',PoV E Ow ρ Fr W lo hi v h' w W'->R w W')->c0d l k P u us.toArray W R
theorem HR.frame {E:Vl}{Ow:Nat->Prop}{ρ:Rh}{h1 h2:Hf}{Fr:Id->Prop}{W:World}(hh:HR E Ow ρ h2 Fr W)(hs:∀id o,h1 id=some o->h2 id=some o):
  ∃Ow1:Nat->Prop,(∀b,Ow1 b->Ow b)/\HR E Ow1 ρ h1 Fr W/\∀(ρ':Rh) (h1':Hf) (Fr':Id->Prop) (W':World) (kp:Id->Bool),Le ρ ρ'->HR E Ow1 ρ' h1' Fr' W'->Gr Ow1 W W'->(∀id,kp id=true->h1 id=none)->HR E Ow ρ' (λid=>bif kp id then h2 id else h1' id) Fr' W':=by
 let Out:Nat->Prop:=λb=>∃id l,h1 id=none/\h2 id≠none/\ρ id=some l/\l.b=b
 have hlt:∀b,Out b->b<W.heap.size:=by
  rintro b ⟨id,l,_,q2,q3,rfl⟩
  cases he:h2 id with
  |none=>exact absurd he q2
  |some o=>obtain⟨l',r1,_,r2,_⟩:=hh.obj id o he;rw[q3]at r1;cases r1;exact r2
 refine⟨λb=>Ow b/\¬Out b,λb q=>q.1,⟨λid o ho=>?_,(hh.forget hs).inj,hh.fr,λb hb=>⟨hh.up b hb,λq=>by have:=hlt b q;omega⟩⟩,λρ' h1' Fr' W' kp hle hh' hg hkp=>⟨λid o ho=>?_,λi j li lj hi hj ri rj e=>?_,hh'.fr,λb hb=>(hh'.up b hb).1⟩⟩
 ·obtain⟨l,r1,r2,r3,r4⟩:=hh.obj id o (hs id o ho)
  refine⟨l,r1,⟨r2,?_⟩,r3,r4⟩
  rintro⟨j,lj,q1,q2,q3,q4⟩
  have:=hh.inj j id lj l q2 (by rw[hs id o ho];simp) q3 r1 q4
  subst this
  rw[ho]at q1;cases q1
 ·cases hk:kp id with
  |true=>
   have ho:h2 id=some o:=by
    have ho':(bif kp id then h2 id else h1' id)=some o:=ho
    rw[hk]at ho';exact ho'
   obtain⟨l,r1,r2,r3,r4⟩:=hh.obj id o ho
   have hb:W'.heap[l.b]?=W.heap[l.b]?:=hg.block l.b r3 λq=>q.2 ⟨id,l,hkp id hk,by rw[ho];simp,r1,rfl⟩
   exact⟨l,hle _ _ r1,r2,e1g r3 hg.size,r4.go hle hb⟩
  |false=>
   have ho:h1' id=some o:=by
    have ho':(bif kp id then h2 id else h1' id)=some o:=ho
    rw[hk]at ho';exact ho'
   obtain⟨l,r1,r2,r3,r4⟩:=hh'.obj id o ho
   exact⟨l,r1,r2.1,r3,r4⟩
 ·have old:∀id l,kp id=true->h2 id≠none->ρ' id=some l->ρ id=some l/\Out l.b:=by
   intro id l hk h0 hl
   cases he:h2 id with
   |none=>exact absurd he h0
   |some o=>
    obtain⟨l',r1,_⟩:=hh.obj id o he
    have:=hle _ _ r1
    rw[hl]at this;cases this
    exact⟨r1,id,l,hkp id hk,h0,r1,rfl⟩
  have new:∀id l,h1' id≠none->ρ' id=some l->¬Out l.b:=by
   intro id l h0 hl
   cases he:h1' id with
   |none=>exact absurd he h0
   |some o=>
    obtain⟨l',r1,r2,_⟩:=hh'.obj id o he
    rw[hl]at r1;cases r1
    exact r2.2
  have hi:(bif kp i then h2 i else h1' i)≠none:=hi
  have hj:(bif kp j then h2 j else h1' j)≠none:=hj
  cases hki:kp i with
  |true=>
   rw[hki]at hi
   obtain⟨q1,q2⟩:=old i li hki hi ri
   cases hkj:kp j with
   |true=>rw[hkj]at hj;exact hh.inj i j li lj hi hj q1 (old j lj hkj hj rj).1 e
   |false=>rw[hkj]at hj;rw[e]at q2;exact absurd q2 (new j lj hj rj)
  |false=>
   rw[hki]at hi
   cases hkj:kp j with
   |true=>rw[hkj]at hj;obtain⟨q1,q2⟩:=old j lj hkj hj rj;rw[<-e]at q2;exact absurd q2 (new i li hi ri)
   |false=>rw[hkj]at hj;exact hh'.inj i j li lj hi hj ri rj e
section
variable {P:Program} {EK:Vl->Prop} {n:Nat} {ro:Option Id} {ops:Array Oper}
theorem b0q {i:Nat}{o:Oper}{c:Call}{fo:Operand}{τ:Nat->V}{h h1 h1':Hf}{v:V}{lo hi:Nat}{kp:Id->Bool}(hi':ops[i]?=some o)(hd:∀t,o.dst=some t->t<n)(hw:kY ops.toList o τ=some true)(ho:o.op= .call c)(hc:c.callee= .value fo)
  (hs:∀id o,h1 id=some o->h id=some o) (hkp:∀id,kp id=true->h1 id=none) (hcall:CvT P EK (evF τ fo) (c.args.toList.map (evF τ)) lo hi h1 v h1'):c6y P EK n ro ops i lo hi τ h (lW τ o.dst v) (λid=>bif kp id then h id else h1' id):=by
 intro E Ow ρ Fr l k a W K Q hE hro hfr hsp hsr hk
 unfold wpOpIn
 rw[hi']
 simp only
 rw[a3v hsr.rt hw]
 simp only[e4b]
 refine c2m ho hc ?_
 obtain⟨Ow1,q1,q2,q3⟩:=hsr.hr.frame hs
 have hargs:RVs E ρ (c.args.toList.map (evF τ)) (c.args.map a.eval).toList:=by
  rw[e4f]
  exact evs hsr.rt.ev _
 have:=hcall E Ow1 ρ Fr l (k-1) W (a.eval fo) (c.args.map a.eval).toList (λv W'=>K (a.put o.dst v) W') hE (hsr.rt.ev fo) hargs q2 hfr hsp λw W' hp=>?_
 ·rwa[e6a]at this
 ·obtain⟨ρ',p1,p2,p3,p4⟩:=hp
  refine hk _ _ ⟨Ow,ρ',λ_ q=>q,p1,hsr.made hd p1.le p2 (q3 ρ' h1' _ W' kp p1.le p3 p4 hkp) (p4.mono q1),p4.mono q1,Dm.put _ _ _ _⟩
end
set_option linter.unusedVariables false
theorem eS {n:Nat}{l:List Nat}:lN n l=true↔n∈l:=by
 induction l with
 |nil=>exact⟨λh=>(by cases h),λh=>(by cases h)⟩
 |cons x l ih=>
  show(bif Nat.beq n x then true else lN n l)=true↔_
  cases hb:Nat.beq n x with
  |true=>have:=d9s hb;subst this;exact⟨λ_=>d9y ..,λ_=>rfl⟩
  |false=>
   have hne:n≠x:=λe=>by rw[e,e3k]at hb;cases hb
   show lN n l=true↔_
   rw[ih,e0b]
   exact⟨.inr,λh=>h.resolve_left hne⟩
theorem bU {n:Id}{l:List Id}:bN n l=true↔n∈l:=by
 induction l with
 |nil=>exact⟨λh=>(by cases h),λh=>(by cases h)⟩
 |cons x l ih=>
  show(bif gH n x then true else bN n l)=true↔_
  cases hb:gH n x with
  |true=>have:=bI.1 hb;subst this;exact⟨λ_=>d9y ..,λ_=>rfl⟩
  |false=>
   have hne:n≠x:=dS.1 hb
   show bN n l=true↔_
   rw[ih,e0b]
   exact⟨.inr,λh=>h.resolve_left hne⟩
theorem gP {n:Id}{l:List Id}:bN n l=false↔n∉l:=by rw[<-e5e,bU]
theorem eW {n:Nat}{l:List Nat}:lN n l=false↔n∉l:=by rw[<-e5e,eS]
theorem a0m (m i:Nat):tb m i=m.testBit i:=by
 have h:tb m i=decide (m >>> i %2=1):=by
  unfold tb
  rw[e2y,e2a]
  exact⟨d9s,λh=>by
   have h:Nat.mod (Nat.shiftRight m i) 2=1:=h
   rw[h];rfl⟩
 rw[h,Nat.testBit_eq_decide_div_mod_eq,Nat.shiftRight_eq_div_pow]
theorem a0n {m i j:Nat}:tb (sb m i) j=true↔j=i\/tb m j=true:=by
 rw[a0m,a0m]
 show(m ||| (1 <<< i)).testBit j=true↔_
 rw[Nat.testBit_or,e3d,Nat.one_shiftLeft,Nat.testBit_two_pow,e2a]
 exact⟨λh=>h.elim .inr λh=> .inl h.symm,λh=>h.elim (λh=> .inr h.symm) .inl⟩
theorem a3s {j:Nat}:tb 0 j=false:=by rw[a0m,Nat.zero_testBit]
theorem d0i {l:List Nat}{j:Nat}:tb (mkM l) j=true↔j∈l:=by
 induction l with
 |nil=>rw[show mkM []=0 from rfl,a3s];simp
 |cons x l ih=>rw[show mkM (x::l)=sb (mkM l) x from rfl,a0n,ih,e0b]
theorem a2x {o:Oper}{j:Nat}:j∈edL o↔∃e,e∈o.after/\Region.binds .any e=true/\e.on=j:=by
 unfold edL
 simp only[e0l,e6v,e1p]
 exact⟨λ⟨e,⟨h1,h2⟩,h3⟩=>⟨e,h1,h2,h3⟩,λ⟨e,h1,h2,h3⟩=>⟨e,⟨h1,h2⟩,h3⟩⟩
def RO' (ops:Array Oper)(w R:Nat):Prop:=∀i j,tb (gtR w R i) j=true->Rch ops i j
theorem b2c {w R i j:Nat}:tb (gtR w R i) j=true↔j<w/\R.testBit (i*w+j)=true:=by
 rw[a0m]
 show((R >>> (i*w))%2^w).testBit j=true↔_
 rw[Nat.testBit_mod_two_pow,Nat.testBit_shiftRight,e0d,e2a]
theorem b3y {ops:Array Oper}{w acc:Nat}(h:RO' ops w acc):∀{es:List Nat} {j:Nat},(c9m w acc es).testBit j=true->j∈es\/∃e,e∈es/\Rch ops e j
 |[],j,hj=>by rw[show c9m w acc []=0 from rfl,Nat.zero_testBit]at hj;cases hj
 |e::es,j,hj=>by
  have hj:(sb (c9m w acc es) e ||| gtR w acc e).testBit j=true:=hj
  rw[Nat.testBit_or,e3d,<-a0m,<-a0m,a0n]at hj
  rcases hj with(rfl|hj)|hj
  ·exact .inl (d9y ..)
  ·rw[a0m]at hj
   exact(b3y h hj).imp (λq=>d9v _ q) λ⟨e',q1,q2⟩=>⟨e',d9v _ q1,q2⟩
  ·exact .inr ⟨e,d9y ..,h e j hj⟩
theorem b3x {ops:Array Oper}{w:Nat}:∀{l:List Oper} {i acc:Nat},(∀k o,l[k]?=some o->ops[i+k]?=some o)->RO' ops w acc->RO' ops w (b6b w l i acc)
 |[],i,acc,_,h=>h
 |o::l,i,acc,hl,h=>by
  have ho:ops[i]?=some o:=hl 0 o rfl
  have e0:b6b w (o::l) i acc=b6b w l (i+1) (acc ||| ((c9m w acc (edL o)%2^w) <<< (i*w))):=by
   show fN _ _=_
   rw[fE];rfl
  rw[e0]
  refine b3x (λk o' hk=>?_) λa b hab=>?_
  ·have:=hl (k+1) o' hk;rw[show i+1+k=i+(k+1) by omega];exact this
  ·rw[b2c,Nat.testBit_or,e3d]at hab
   obtain⟨hb,hab⟩:=hab
   rcases hab with hab|hab
   ·exact h a b (b2c.2 ⟨hb,hab⟩)
   ·rw[Nat.testBit_shiftLeft,e0d,e2a,Nat.testBit_mod_two_pow,e0d,e2a]at hab
    obtain⟨h1,h2,h3⟩:=hab
    have hw:0<w:=by omega
    have hai:a=i:=by
     have k1:i*w<=a*w+b:=h1
     have k2:a*w+b-i*w<w:=h2
     rcases Nat.lt_trichotomy a i with q|q|q
     ·have:=e0v w (show a+1<=i from q)
      rw[e1s,Nat.one_mul]at this;omega
     ·exact q
     ·have:=e0v w (show i+1<=a from q)
      rw[e1s,Nat.one_mul]at this;omega
    subst hai
    rw[show a*w+b-a*w=b by omega]at h3
    rcases b3y h h3 with hj|⟨e,he,hj⟩
    ·obtain⟨e,q1,q2,rfl⟩:=a2x.1 hj;exact .one ho q1 q2
    ·obtain⟨e,q1,q2,rfl⟩:=a2x.1 he;exact .step ho q1 q2 hj
theorem c0z {d:Option Nat}{l:List Nat}(h:noM d (mkM l)=true):∀t,d=some t->t∉l:=by
 rintro t rfl ht
 have h:(!tb (mkM l) t)=true:=h
 rw[d0i.2 ht]at h;cases h
theorem c8t {a b:Option Nat}(h:neD a b=true):∀t,a=some t->b≠some t:=by
 rintro t rfl rfl
 have h:(!Nat.beq t t)=true:=h
 rw[e3k]at h;cases h
structure RwOk (ol:List Oper)(e:Rw):Prop where
  rd:e.rd=mkM (rdS ol e.o)
  cl:e.cl=isC e.o
  lk:e.lk=lkN e.o
theorem c3x {β:Type}{ol:List Oper}{i:Nat}{o:Oper}(K:Rw->β):∃rx:Rw,d1r ol i o K=K rx/\RwOk ol rx/\rx.i=i/\rx.o=o:=by
 unfold d1r
 rw[fE,fE]
 cases hc:isC o with
 |true=>exact⟨⟨i,o,mkM (rdS ol o),true,lkN o⟩,rfl,⟨rfl,hc.symm,rfl⟩,rfl,rfl⟩
 |false=>exact⟨⟨i,o,mkM (rdS ol o),false,lkN o⟩,rfl,⟨rfl,hc.symm,rfl⟩,rfl,rfl⟩
theorem rN (a:Oper):(∃(t:Nat) (m k:_),a.op= .lookup t m k false/\lkN a=2*t+2)\/(∃(t:Nat) (m k:_),a.op= .mapEntry t m k/\lkN a=2*t+3)\/lkN a=0:=by
 cases h:a.op with
 |lookup t m k c=>
  cases c with
  |false=>exact .inl ⟨t,m,k,rfl,by unfold lkN;rw[h];rfl⟩
  |true=>exact .inr (.inr (by unfold lkN;rw[h]))
 |mapEntry t m k=>exact .inr (.inl ⟨t,m,k,rfl,by unfold lkN;rw[h];rfl⟩)
 |_=>exact .inr (.inr (by unfold lkN;rw[h]))
theorem c8e {a b:Oper}(h:lkB (lkN a) (lkN b)=true):lkP a b=true:=by
 unfold lkB at h
 rw[e0d]at h
 have h1:lkN a+1=lkN b:=d9s h.1
 have h2:lkN a %2=0:=d9s h.2
 rcases rN a with⟨t,m,k,ha,ea⟩|⟨t,m,k,ha,ea⟩|ea
 ·rcases rN b with⟨t',m',k',hb,eb⟩|⟨t',m',k',hb,eb⟩|eb
  ·exfalso;omega
  ·unfold lkP
   rw[ha,hb]
   have htt:(t:Nat)=t':=by clear ha hb;omega
   show Nat.beq t t'=true
   rw[htt]
   exact e3k _
  ·exfalso;omega
 ·exfalso;omega
 ·exfalso
  rcases rN b with⟨t',m',k',hb,eb⟩|⟨t',m',k',hb,eb⟩|eb<;>omega
theorem a6u {ol:List Oper}{R:Nat}{x:Rw}(hx:RwOk ol x):∀{l:List Rw} {un:Nat},(∀e,e∈l->RwOk ol e)->unL R x l=some un->∀e,e∈l->tb R e.i=true\/(isC e.o=false/\Aps ol e.o x.o/\(lkP e.o x.o=true\/tb un e.i=true))
 |[],un,_,_,e,he=>by cases he
 |e'::l,un,hl,h,e,he=>by
  have h:(bif tb R e'.i then unL R x l else bif !e'.cl&&(noM e'.o.dst x.rd&&(noM x.o.dst e'.rd&&neD e'.o.dst x.o.dst))then(bif lkB e'.lk x.lk then unL R x l else(unL R x l).map λm=>sb m e'.i)else none)=some un:=h
  have hl':∀e,e∈l->RwOk ol e:=λe he=>hl e (d9v _ he)
  have he':=hl e' (d9y ..)
  cases hb:tb R e'.i with
  |true=>
   rw[hb]at h
   rcases e0b.1 he with rfl|he
   ·exact .inl hb
   ·exact a6u hx hl' h e he
  |false=>
   rw[hb]at h
   cases hc:(!e'.cl&&(noM e'.o.dst x.rd&&(noM x.o.dst e'.rd&&neD e'.o.dst x.o.dst)))with
   |false=>rw[hc]at h;cases h
   |true=>
    rw[hc]at h
    simp only[e0d,e5i]at hc
    obtain⟨c1,c2,c3,c4⟩:=hc
    rw[he'.cl]at c1
    rw[hx.rd]at c2
    rw[he'.rd]at c3
    have hap:Aps ol e'.o x.o:=⟨c0z c2,c0z c3,c8t c4⟩
    cases hk:lkB e'.lk x.lk with
    |true=>
     rw[hk]at h
     rcases e0b.1 he with rfl|he
     ·rw[he'.lk,hx.lk]at hk
      exact .inr ⟨c1,hap,.inl (c8e hk)⟩
     ·exact a6u hx hl' h e he
    |false=>
     rw[hk]at h
     obtain⟨r,hr,rfl⟩:=e0u.1 (show(unL R x l).map (λm=>sb m e'.i)=some un from h)
     rcases e0b.1 he with rfl|he
     ·exact .inr ⟨c1,hap,.inr (a0n.2 (.inl rfl))⟩
     ·exact(a6u hx hl' hr e he).imp (λq=>q) λ⟨q1,q2,q3⟩=>⟨q1,q2,q3.imp (λq=>q) λq=>a0n.2 (.inr q)⟩
section
variable {P:Program}
inductive Bld (P:Program) (n:Nat) (ops:Array Oper):List (Nat×Oper)->List (Nat×Oper)->List Dn->Prop
  |nil {pv:List (Nat×Oper)}:Bld P n ops pv [] []
  |cons {pv l:List (Nat×Oper)} {i:Nat} {o:Oper} {un:Nat} {r:List Dn} (h1:∀e,e∈o.after->Region.binds .any e=true->e.on∈pv.map (·.1))
      (h2:∀e,e∈pv->Rch ops i e.1\/(isC e.2=false/\Aps ops.toList e.2 o/\(lkP e.2 o=true\/tb un e.1=true))) (h3:Bld P n ops ((i,o)::pv) l r):Bld P n ops pv ((i,o)::l) (⟨i,qT P n ops.toList o,un⟩::r)
theorem b0i {n:Nat}{ops:Array Oper}{w R:Nat}(hR:RO' ops w R):∀{l:List (Nat×Oper)} {pm:Nat} {pv:List Rw} {r:List Dn},(∀e,e∈pv->RwOk ops.toList e)->(∀j,tb pm j=true->j∈pv.map (·.i))->c6m P n ops.toList w R pm pv l=some r->Bld P n ops (pv.map λe=>(e.i,e.o)) l r
 |[],pm,pv,r,_,_,h=>by cases h;exact .nil
 |(i,o)::l,pm,pv,r,hpv,hpm,h=>by
  have h:(bif (edL o).all λj=>tb pm j then d1r ops.toList i o λrx=>(match unL (gtR w R i) rx pv,c6m P n ops.toList w R (sb pm i) (rx::pv) l with
   |some un,some r=>fN un λun=>some (⟨i,qT P n ops.toList o,un⟩::r)
   |_,_=>none)else none)=some r:=h
  cases hb:(edL o).all λj=>tb pm j with
  |false=>rw[hb]at h;cases h
  |true=>
   rw[hb]at h
   simp only[e0q]at h
   obtain⟨rx,e1,e2,e3,e4⟩:=c3x (β:=Option (List Dn)) (ol:=ops.toList) (i:=i) (o:=o) (λrx=>(match unL (gtR w R i) rx pv,c6m P n ops.toList w R (sb pm i) (rx::pv) l with
    |some un,some r=>fN un λun=>some (⟨i,qT P n ops.toList o,un⟩::r)
    |_,_=>none))
   have h:=e1.symm.trans h
   split at h
   ·rename_i un r' hu hr
    rw[fE]at h
    cases h
    rw[e1d]at hb
    have hpv':∀e,e∈rx::pv->RwOk ops.toList e:=λe he=>by
     rcases e0b.1 he with rfl|he
     ·exact e2
     ·exact hpv e he
    have ih:=b0i hR (pm:=sb pm i) (pv:=rx::pv) hpv' (λj hj=>by
     rcases a0n.1 hj with rfl|hj
     ·rw[e0o,e3];exact d9y ..
     ·exact d9v _ (hpm j hj)) hr
    rw[e0o,e3,e4]at ih
    refine .cons (λe he hbi=>?_) (λe he=>?_) ih
    ·have:=hpm e.on (hb e.on (a2x.2 ⟨e,he,hbi,rfl⟩))
     rw[e7l];exact this
    ·obtain⟨e',he',rfl⟩:=e0l.1 he
     have:=a6u e2 hpv hu e' he'
     rw[e4]at this
     exact this.imp (λq=>hR i e'.i q) λq=>q
   ·cases h
theorem b3b:∀{l:List Nat},c8w l=true->l.Nodup
 |[],_=>e4k
 |x::l,h=>by
  have h:(!lN x l&&c8w l)=true:=h
  simp only[e0d,e5i]at h
  exact e2b.2 ⟨eW.1 h.1,b3b h.2⟩
theorem b3p {n:Nat}:∀{l:List Nat} {m:Nat},c9j l m n=true->l.Nodup/\(∀x,x∈l->tb m x=false)/\∀j,tb n j=true->j∈l\/tb m j=true
 |[],m,h=>by
  have h:Nat.beq m n=true:=h
  have:=d9s h
  subst this
  exact⟨e4k,λx hx=>(by cases hx),λj hj=> .inr hj⟩
 |x::l,m,h=>by
  have h:(bif tb m x then false else fN (sb m x) λm=>c9j l m n)=true:=h
  cases hb:tb m x with
  |true=>rw[hb]at h;cases h
  |false=>
   rw[hb]at h
   simp only[e2n,fE]at h
   obtain⟨q1,q2,q3⟩:=b3p h
   refine⟨e2b.2 ⟨λhx=>?_,q1⟩,λy hy=>?_,λj hj=>?_⟩
   ·have:=q2 x hx
    rw[a0n.2 (.inl rfl)]at this;cases this
   ·rcases e0b.1 hy with rfl|hy
    ·exact hb
    ·have:=q2 y hy
     cases hm:tb m y with
     |false=>rfl
     |true=>rw[a0n.2 (.inr hm)]at this;cases this
   ·rcases q3 j hj with q|q
    ·exact .inl (d9v _ q)
    ·rcases a0n.1 q with rfl|q
     ·exact .inl (d9y ..)
     ·exact .inr q
theorem c0r {ops:Array Oper}:∀{l:List Nat},(∀p,p∈ixL ops.toList l->ops[p.1]?=some p.2)/\((ixL ops.toList l).map (·.1)).Sublist l/\∀k,k∈l->k<ops.size->k∈(ixL ops.toList l).map (·.1)
 |[]=>⟨λp hp=>(by cases hp),e4x _,λk hk=>(by cases hk)⟩
 |i::l=>by
  obtain⟨h1,h2,h3⟩:=c0r (ops:=ops) (l:=l)
  unfold ixL at h1 h2 h3⊢
  rw[e5l]
  cases ho:ops.toList[i]? with
  |none=>
   simp only[e4m]
   refine⟨h1,h2.cons _,λk hk hlt=>?_⟩
   rcases e0b.1 hk with rfl|hk
   ·rw[e0s,e0y hlt]at ho;cases ho
   ·exact h3 k hk hlt
  |some o=>
   simp only[e1y]
   refine⟨λp hp=>?_,?_,λk hk hlt=>?_⟩
   ·rcases e0b.1 hp with rfl|hp
    ·rw[<-e0s];exact ho
    ·exact h1 p hp
   ·rw[e0o];exact h2.cons_cons _
   ·rw[e0o]
    rcases e0b.1 hk with rfl|hk
    ·exact d9y ..
    ·exact d9v _ (h3 k hk hlt)
theorem c2p {n:Nat}{ops:Array Oper}{r:List Dn}(h:d1n P n ops.toList=some r):∃l:List (Nat×Oper),Bld P n ops [] l r/\(∀p,p∈l->ops[p.1]?=some p.2)/\(l.map (·.1)).Nodup/\∀k,k<ops.size->k∈l.map (·.1):=by
 unfold d1n at h
 rw[fE,fE,gE,e1c]at h
 have hR:RO' ops ops.size (b6b ops.size ops.toList 0 0):=b3x (λk o hk=>by rw[e0f,<-e0s];exact hk) λi j hj=>by rw[b2c,Nat.zero_testBit]at hj;cases hj.2
 have h:(bif c9j (a9d ops.toList ops.size (b6b ops.size ops.toList 0 0) ops.size (List.range ops.size)) 0 (Nat.sub (Nat.pow 2 ops.size) 1)then c6m P n ops.toList ops.size (b6b ops.size ops.toList 0 0) 0 [] (ixL ops.toList (a9d ops.toList ops.size (b6b ops.size ops.toList 0 0) ops.size (List.range ops.size)))else none)=some r:=h
 generalize hl:a9d ops.toList ops.size (b6b ops.size ops.toList 0 0) ops.size (List.range ops.size)=l at h
 cases hb:c9j l 0 (Nat.sub (Nat.pow 2 ops.size) 1)with
 |false=>rw[hb]at h;cases h
 |true=>
  rw[hb]at h
  obtain⟨b1,_,b3⟩:=b3p hb
  obtain⟨h1,h2,h3⟩:=c0r (ops:=ops) (l:=l)
  have hbld:=b0i (pm:=0) (pv:=[]) hR (λe he=>(by cases he)) (λj hj=>by rw[a3s]at hj;cases hj) h
  refine⟨ixL ops.toList l,hbld,h1,b1.sublist h2,λk hk=>h3 k ?_ hk⟩
  rcases b3 k (by rw[a0m];show(2^ops.size-1).testBit k=true;rw[Nat.testBit_two_pow_sub_one];exact e1r hk)with q|q
  ·exact q
  ·rw[a3s]at q;cases q
end
set_option linter.unusedVariables false
def exE:Ex->Exit
  | .normal=> .normal
  | .ret=> .ret
  | .exit i=> .exit i
def EKf (lm:Lm)(E:Vl):Prop:=lm.fl=none->E=Vl.z
def Prt (lm:Lm)(hi:Nat)(id:Id)(o:O):Prop:=bN id lm.pr=true\/∃f,lm.fl=some f/\¬Rg f hi id/\tG o=false
theorem Prt.le {lm:Lm}{hi mi:Nat}{id:Id}{o:O}(h:Prt lm hi id o)(hl:mi<=hi):Prt lm mi id o:=h.imp (λq=>q) λ⟨f,q1,q2,q3⟩=>⟨f,q1,λq=>q2 ⟨q.1,by have:=q.2;omega⟩,q3⟩
def fA (lm:Lm)(lo hi:Nat)(h h':Hf):Prop:=∀id o,¬Rg lo hi id->h id=some o->Prt lm hi id o->h' id=some o
theorem fA.refl (lm:Lm)(lo hi:Nat)(h:Hf):fA lm lo hi h h:=λ_ _ _ h _=>h
theorem fA.trans {lm:Lm}{lo mi hi:Nat}{a b c:Hf}(h:fA lm lo mi a b)(k:fA lm mi hi b c)(h1:lo<=mi)(h2:mi<=hi):fA lm lo hi a c:=λid o hr ho hp=>
 k id o (λq=>hr ⟨by have:=q.1;omega,q.2⟩) (h id o (λq=>hr ⟨q.1,by have:=q.2;omega⟩) ho (hp.le h2)) hp
theorem zB {lm:Lm}{h:Hp}{nx id:Id}{o:O}(hm:may lm h nx id=true)(ho:geH h id=some o){hi:Nat}(hh:nx.num<=hi):¬Prt lm hi id o:=by
 unfold may at hm
 cases hp:bN id lm.pr with
 |true=>rw[hp]at hm;cases hm
 |false=>
  rw[hp]at hm
  rintro(q|⟨f,q1,q2,q3⟩)
  ·rw[hp]at q;cases q
  ·rw[q1]at hm
   have hm:(bif Nat.ble f id.num&&Nat.blt id.num nx.num then true else ifS (geH h id) false tG)=true:=hm
   cases hb:(Nat.ble f id.num&&Nat.blt id.num nx.num)with
   |true=>
    rw[e0d]at hb
    exact q2 ⟨aL.1 hb.1,e1g (aL.1 hb.2) hh⟩
   |false=>
    rw[hb,ho]at hm
    have hm:tG o=true:=hm
    rw[q3]at hm;cases hm
theorem vG {lm:Lm}{h h':Hp}{nx nx':Id}{ac:Ac}(ha:Ap lm h nx ac h' nx'):geH h'=apH nx ac (geH h)/\nx.num<=nx'.num/\(iK ac=true->nx.num<nx'.num)/\(∀id o,acw nx ac id=true->¬Rg nx.num nx'.num id->geH h id=some o->¬Prt lm nx'.num id o):=by
 cases ha with
 |ret=>exact⟨rfl,e0g _,λq=>(by cases q),λid o q=>(by cases q)⟩
 |set m=>exact⟨fT _ _ _,e0g _,λq=>(by cases q),λid o q _ ho=>by simp only[acw,e2a]at q;subst q;exact zB m ho (e0g _)⟩
 |new n=>exact⟨fT _ _ _,by omega,λ_=>by omega,λid o q hr ho=>by simp only[acw,e2a]at q;subst q;exact absurd ⟨e0g _,by omega⟩ hr⟩
 |mov m n=>
  refine⟨?_,by omega,λ_=>by omega,λid o q hr ho=>?_⟩
  ·rw[fT,fT];rfl
  ·simp only[acw,e3d,e2a]at q
   rcases q with rfl|rfl
   ·exact absurd ⟨e0g _,by omega⟩ hr
   ·exact zB m ho (by omega)
 |gst m n=>exact⟨fT _ _ _,by omega,λ_=>by omega,λid o q _ ho=>by simp only[acw,e2a]at q;subst q;exact zB m ho (by omega)⟩
 |rng m n=>
  refine⟨?_,by omega,λ_=>by omega,λid o q hr ho=>?_⟩
  ·rw[fT,fT];rfl
  ·simp only[acw,e3d,e2a]at q
   rcases q with rfl|rfl
   ·exact zB m ho (by omega)
   ·exact absurd ⟨e0g _,by omega⟩ hr
theorem a9z {lm:Lm}{h h':Hp}{nx nx':Id}{ac:Ac}(ha:Ap lm h nx ac h' nx'):fA lm nx.num nx'.num (geH h) (geH h'):=by
 obtain⟨h1,_,_,h4⟩:=vG ha
 intro id o hr ho hp
 rw[h1]
 cases hb:acw nx ac id with
 |true=>exact absurd hp (h4 id o hb hr ho)
 |false=>exact(a1m hb).trans ho
theorem jT {d:Option Nat}{v:V}{tm:Tm}(hd:∀t,d=some t->t<512){β:Type}(K:Tm->β):∃tm',xO d v tm K=K tm'/\tmF tm'=lW (tmF tm) d v:=by
 cases d with
 |none=>exact⟨tm,rfl,funext λt=>by unfold lW;rw[d9z (by simp)]⟩
 |some d=>
  refine⟨stT d v tm,lF d v tm K,funext λt=>?_⟩
  have h5:=hd d rfl
  show rdT t (stT d v tm)=lW (tmF tm) (some d) v t
  unfold lW
  by_cases e:d=t
  ·subst e;rw[e0c rfl];exact sC h5 v tm
  ·rw[d9z (λq=>e (e4p q))];exact iS h5 (λq=>e q.symm) v tm
theorem c8g {d:Option Nat}{n:Nat}(h:ltO d n=true):∀t,d=some t->t<n:=by
 rintro t rfl;exact aL.1 h
theorem b0v {P:Program}{n:Nat}{ops:List Oper}{o:Oper}:qT P n ops o= .bad\/((∀t,o.dst=some t->t<n)/\∃g,uC ops o.guard=some g/\((∃c fo,o.op= .call c/\c.callee= .value fo/\isC o=true/\qT P n ops o= .call g o.dst fo c.args.toList)\/(isC o=false/\qT P n ops o= .o g o.dst (pU P o.op)))):=by
 unfold qT
 cases hb:ltO o.dst n with
 |false=>exact .inl rfl
 |true=>
  cases hg:uC ops o.guard with
  |none=>exact .inl rfl
  |some g=>
   refine .inr ⟨c8g hb,g,rfl,?_⟩
   cases hc:uE o.op with
   |none=>exact .inr ⟨by unfold isC;rw[hc];rfl,rfl⟩
   |some p=>
    refine .inl ?_
    have hc':=hc
    unfold uE at hc'
    split at hc'
    ·rename_i c ho
     split at hc'
     ·rename_i f hf
      cases hc'
      exact⟨c,f,ho,hf,by unfold isC;rw[hc];rfl,rfl⟩
     ·cases hc'
    ·cases hc'
theorem mI {ops:List Oper}{o:Oper}{g:Option (Nat×Bool)}(hg:uC ops o.guard=some g)(tm:Tm):(nG g tm=true->kY ops o (tmF tm)=some true)/\(nG g tm=false->jJ g tm=true->kY ops o (tmF tm)=some false):=by
 unfold uC at hg
 unfold kY
 split at hg
 ·rename_i h;try rw[h]
  cases hg;exact⟨λ_=>rfl,λq=>(by cases q)⟩
 ·rename_i j w h
  try rw[h]
  split at hg
  ·rename_i oj hj
   split at hg
   ·rename_i d hd
    cases hg
    try simp only[hj,hd]
    have e1:nG (some (d,w)) tm=(match rdT d tm with
     | .b b=>c6k b w
     |_=>false):=rfl
    have e2:jJ (some (d,w)) tm=(match rdT d tm with
     | .b _=>true
     | .t []=>true
     |_=>false):=rfl
    rw[e1,e2]
    simp only[show tmF tm d=rdT d tm from rfl]
    cases hv:rdT d tm with
    |b b=>cases b<;>cases w<;>simp[c6k]
    |t l=>cases l<;>simp
    |_=>simp
   ·cases hg
  ·cases hg
set_option linter.unusedVariables false
def qJ (P:Program)(hs:Hs)(ih:Ih):Prop:=∀(lm:Lm) (f:V) (args:List V) (h:Hp) (nx:Id) (K:Kv),iZ P hs ih lm f args h nx K= .no\/
  ∃v h' nx',iZ P hs ih lm f args h nx K=K v h' nx'/\nx.num<=nx'.num/\fA lm nx.num nx'.num (geH h) (geH h')/\CvT P (EKf lm) f args nx.num nx'.num (geH h) v (geH h')
theorem Po.trans {E:Vl}{Ow Ow1:Nat->Prop}{ρ ρ1:Rh}{Fr:Id->Prop}{W W1 W2:World}{n lo mi hi:Nat}{τ:Nat->V}{h:Hf}{a a1 a2:Act}(h1:∀b,Ow1 b->Ow b)(h2:Nm ρ ρ1 lo mi)(h3:Gr Ow W W1)(h4:Dm Ow a a1)(hp:Po E Ow1 ρ1 (λid=>Fr id/\¬Rg lo mi id) W1 n mi hi τ h a1 a2 W2)(l1:lo<=mi)(l2:mi<=hi):Po E Ow ρ Fr W n lo hi τ h a a2 W2:=by
 obtain⟨Ow2,ρ2,k1,k2,k3,k4,k5⟩:=hp
 refine⟨Ow2,ρ2,λb q=>h1 b (k1 b q),h2.trans k2 ⟨e0g _,l2⟩ ⟨l1,e0g _⟩,k3.less λj hj=>⟨⟨hj.1,λq=>hj.2 ⟨q.1,by have:=q.2;omega⟩⟩,λq=>hj.2 ⟨by have:=q.1;omega,q.2⟩⟩,h3.trans (k4.mono h1),h4.trans k5 h1⟩
section
variable {P:Program} {hs:Hs} {ih:Ih} {cx:Cx} {ops:Array Oper}
theorem b4w {o:Oper}(hn:cx.n<=512)(hd:∀t,o.dst=some t->t<cx.n){g:Option (Nat×Bool)}(hg:uC ops.toList o.guard=some g){tm:Tm}{h:Hp}{nx:Id}(K:Kt)(hw:nG g tm=false)(hk:jJ g tm=true):
  ∃tm1,xO o.dst (.t []) tm (λtm=>K tm h nx)=K tm1 h nx/\(∀t,o.dst≠some t->rdT t tm1=rdT t tm)/\tmF tm1=lW (tmF tm) o.dst (.t [])/\kY ops.toList o (tmF tm)=some false:=by
 obtain⟨tm1,e1,e2⟩:=jT (d:=o.dst) (v:= .t []) (tm:=tm) (λt ht=>e1g (hd t ht) hn) (λtm=>K tm h nx)
 refine⟨tm1,e1,λt ht=>?_,e2,(mI hg tm).2 hw hk⟩
 have:=congrFun e2 t
 rw[cO ht]at this
 exact this
theorem c8x {o:Oper}(hn:cx.n<=512)(hC:qJ P hs ih)(tm:Tm)(h:Hp)(nx:Id)(K:Kt):op1 P hs (qT P cx.n ops.toList o) ih cx tm h nx K= .no\/
  ∃tm1 h1 nx1,op1 P hs (qT P cx.n ops.toList o) ih cx tm h nx K=K tm1 h1 nx1/\nx.num<=nx1.num/\fA cx.lm nx.num nx1.num (geH h) (geH h1)/\(∀t,o.dst≠some t->rdT t tm1=rdT t tm)/\
   ∀i,ops[i]?=some o->c6y P (EKf cx.lm) cx.n cx.ro ops i nx.num nx1.num (tmF tm) (geH h) (tmF tm1) (geH h1):=by
 rcases b0v (P:=P) (n:=cx.n) (ops:=ops.toList) (o:=o)with e|⟨hd,g,hg,hor⟩
 ·rw[e];exact .inl rfl
 ·have hd5:∀t,o.dst=some t->t<512:=λt ht=>e1g (hd t ht) hn
  have hsk:∀{r:Res},r=(bif jJ g tm then xO o.dst (.t []) tm (λtm=>K tm h nx)else .no)->nG g tm=false->r= .no\/∃tm1 h1 nx1,r=K tm1 h1 nx1/\nx.num<=nx1.num/\fA cx.lm nx.num nx1.num (geH h) (geH h1)/\(∀t,o.dst≠some t->rdT t tm1=rdT t tm)/\
   ∀i,ops[i]?=some o->c6y P (EKf cx.lm) cx.n cx.ro ops i nx.num nx1.num (tmF tm) (geH h) (tmF tm1) (geH h1):=by
   intro r hr hw
   cases hk:jJ g tm with
   |false=>rw[hk]at hr;exact .inl hr
   |true=>
    rw[hk]at hr
    obtain⟨tm1,e1,e2,e3,e4⟩:=b4w (h:=h) (nx:=nx) hn hd hg K hw hk
    refine .inr ⟨tm1,h,nx,hr.trans e1,e0g _,fA.refl _ _ _ _,e2,λi hi=>?_⟩
    intro E Ow ρ Fr l k a W KK Q hE hro hfr hsp hs hkk
    rw[e3]at hkk
    exact d0a hi hd e4 hs hkk
  rcases hor with⟨c,fo,ho,hc,hic,e⟩|⟨hic,e⟩
  ·rw[e]
   show o_c P hs g o.dst fo c.args.toList ih cx tm h nx K= .no\/∃tm1 h1 nx1,o_c P hs g o.dst fo c.args.toList ih cx tm h nx K=K tm1 h1 nx1/\_
   unfold o_c
   cases hw:nG g tm with
   |false=>exact hsk rfl hw
   |true=>
    simp only[e0q]
    rw[tW]
    rcases hC cx.lm (evF (tmF tm) fo) (c.args.toList.map (evF (tmF tm))) h nx (λv h nx=>xO o.dst v tm λtm=>K tm h nx)with e1|⟨v,h1,nx1,e1,h2,h3,h4⟩
    ·exact .inl e1
    ·obtain⟨tm1,e2,e3⟩:=jT (d:=o.dst) (v:=v) (tm:=tm) hd5 (λtm=>K tm h1 nx1)
     refine .inr ⟨tm1,h1,nx1,e1.trans e2,h2,h3,λt ht=>by have:=congrFun e3 t;rw[cO ht]at this;exact this,λi hi=>?_⟩
     rw[e3]
     have:=b0q (ro:=cx.ro) (h:=geH h) (kp:=λ_=>false) hi hd ((mI hg tm).1 hw) ho hc (λ_ _ q=>q) (λ_ q=>(by cases q)) h4
     exact this
  ·rw[e]
   show o_o g o.dst (pU P o.op) ih cx tm h nx K= .no\/∃tm1 h1 nx1,o_o g o.dst (pU P o.op) ih cx tm h nx K=K tm1 h1 nx1/\_
   unfold o_o
   cases hw:nG g tm with
   |false=>exact hsk rfl hw
   |true=>
    simp only[e0q]
    show o_k cx o.dst tm h nx K (pU P o.op).f= .no\/∃tm1 h1 nx1,o_k cx o.dst tm h nx K (pU P o.op).f=K tm1 h1 nx1/\_
    unfold o_k
    rw[tW]
    rcases rF (fl:=cx.lm) (h:=h) (nx:=nx) (K:=λv h nx=>xO o.dst v tm λtm=>K tm h nx) (bad:= .no) ((pU P o.op).f (evF (tmF tm)) nx)with e1|⟨ls,ac,h1,nx1,hgo,hap,e1⟩
    ·exact .inl e1
    ·obtain⟨tm1,e2,e3⟩:=jT (d:=o.dst) (v:=ac.v) (tm:=tm) hd5 (λtm=>K tm h1 nx1)
     obtain⟨f1,f2,f3,f4⟩:=vG hap
     refine .inr ⟨tm1,h1,nx1,e1.trans e2,f2,a9z hap,λt ht=>by have:=congrFun e3 t;rw[cO ht]at this;exact this,λi hi=>?_⟩
     rw[e3,f1]
     intro E Ow ρ Fr l k a W KK Q hE hro hfr hsp hs hkk
     exact c8s hi hd ((mI hg tm).1 hw) hgo (λq=>⟨e0g _,f3 q,hfr nx ⟨e0g _,f3 q⟩⟩) hs hkk
def sP (l:List Nat)(tm tm':Tm):Prop:=∀t,t∉l->rdT t tm'=rdT t tm
theorem b4p (hn:cx.n<=512)(hC:qJ P hs ih):∀(l:List Oper) (i:Nat) (tm:Tm) (h:Hp) (nx:Id) (e:Ex) (tm':Tm) (h':Hp) (nx':Id),(∀k o,l[k]?=some o->ops[i+k]?=some o)->b4o P hs ih cx (l.map (qT P cx.n ops.toList)) tm h nx= .ok e tm' h' nx'->
  e= .normal/\nx.num<=nx'.num/\fA cx.lm nx.num nx'.num (geH h) (geH h')/\sP (l.filterMap (·.dst)) tm tm'/\
  ∀(E:Vl) (Ow:Nat->Prop) (ρ:Rh) (Fr:Id->Prop) (r:Option Nat) (k:Nat) (a:Act) (W:World) (Q:Exit->Act->World->Prop),EKf cx.lm E->RoK cx.ro ρ r->(∀id,Rg nx.num nx'.num id->Fr id)->(∃sp,Fr sp/\¬Rg nx.num nx'.num sp)->SR E Ow ρ cx.n (tmF tm) (geH h) Fr a W->
   (∀a' W',Po E Ow ρ Fr W cx.n nx.num nx'.num (tmF tm') (geH h') a a' W'->Q .normal a' W')->wpOpsIn (Fw r) k P ops Q (List.range' i l.length) a W
 |[],i,tm,h,nx,e,tm',h',nx',_,hr=>by
  cases hr
  exact⟨rfl,e0g _,fA.refl _ _ _ _,λ_ _=>rfl,λE Ow ρ Fr r k a W Q hE hro hfr hsp hs hq=>hq a W ⟨Ow,ρ,λ_ q=>q,Nm.refl _ _ _,hs.less λ_ q=>q.1,Gr.refl _ _,Dm.of_eq rfl⟩⟩
 |o::l,i,tm,h,nx,e,tm',h',nx',hl,hr=>by
  have ho:ops[i]?=some o:=hl 0 o rfl
  have hr:op1 P hs (qT P cx.n ops.toList o) ih cx tm h nx (b4o P hs ih cx (l.map (qT P cx.n ops.toList)))= .ok e tm' h' nx':=hr
  rcases c8x (ops:=ops) (o:=o) hn hC tm h nx (b4o P hs ih cx (l.map (qT P cx.n ops.toList)))with e1|⟨tm1,h1,nx1,e1,k1,k2,k3,k4⟩
  ·rw[e1]at hr;cases hr
  ·rw[e1]at hr
   obtain⟨q1,q2,q3,q4,q5⟩:=b4p hn hC l (i+1) tm1 h1 nx1 e tm' h' nx' (λk o' hk=>by have:=hl (k+1) o' hk;rw[show i+1+k=i+(k+1) by omega];exact this) hr
   refine⟨q1,by omega,k2.trans q3 k1 q2,λt ht=>?_,λE Ow ρ Fr r k a W Q hE hro hfr hsp hs hq=>?_⟩
   ·rw[e5l]at ht
    refine(q4 t λq=>ht ?_).trans (k3 t λq=>ht ?_)
    ·cases o.dst with
     |none=>exact q
     |some d=>exact d9v _ q
    ·rw[q];exact d9y ..
   ·rw[e0r,List.range'_succ,wpOpsIn_cons]
    obtain⟨sp,s1,s2⟩:=hsp
    refine k4 i ho E Ow ρ Fr r k a W _ Q hE hro (λid q=>hfr id ⟨q.1,by have:=q.2;omega⟩) ⟨sp,s1,λq=>s2 ⟨q.1,by have:=q.2;omega⟩⟩ hs λa1 W1 hp=>?_
    obtain⟨Ow1,ρ1,p1,p2,p3,p4,p5⟩:=hp
    refine q5 E Ow1 ρ1 _ r k a1 W1 Q hE (hro.le p2.le) (λid q=>⟨hfr id ⟨by have:=q.1;omega,q.2⟩,λz=>by have:=q.1;have:=z.2;omega⟩) ⟨sp,⟨s1,λq=>s2 ⟨q.1,by have:=q.2;omega⟩⟩,λq=>s2 ⟨by have:=q.1;omega,q.2⟩⟩ p3 λa' W' hp'=>hq a' W' (Po.trans p1 p2 p4 p5 hp' k1 q2)
end
set_option linter.unusedVariables false
theorem c2a {h:Hp}{nx:Id}:∀{r:Rq} {ls:List Id} {ac:Ac},goF (geH h) r=some (ls,ac)->a1a h r=ls/\∀id,bN id (wrL h nx r)=acw nx ac id:=by
 have hm:∀(id i:Id),bN id [i]=decide (id=i):=λid i=>by rw[e2y,bU,e2a];simp
 have hm2:∀(id i j:Id),bN id [i,j]=(decide (id=i)||decide (id=j)):=λid i j=>by rw[e2y,bU];simp
 intro r
 induction r with
 |ask i k ih=>
  intro ls ac hg
  simp only[goF]at hg
  split at hg
  ·rename_i o ho
   simp only[e0u]at hg
   obtain⟨⟨l',ac'⟩,h1,h2⟩:=hg
   cases h2
   obtain⟨q1,q2⟩:=ih o h1
   have e1:a1a h (.ask i k)=ifS (geH h i) [] λo=>i::a1a h (k o):=rfl
   have e2:wrL h nx (.ask i k)=ifS (geH h i) [] λo=>wrL h nx (k o):=rfl
   rw[e1,e2,ho]
   exact⟨by show i::a1a h (k o)=_;rw[q1],q2⟩
  ·cases hg
 |ret v=>intro ls ac hg;cases hg;exact⟨rfl,λid=>rfl⟩
 |set v i o=>intro ls ac hg;cases hg;exact⟨rfl,λid=>hm id i⟩
 |new v o=>intro ls ac hg;cases hg;exact⟨rfl,λid=>hm id nx⟩
 |mov v i o=>intro ls ac hg;cases hg;exact⟨rfl,λid=>hm2 id nx i⟩
 |gst v i o=>intro ls ac hg;cases hg;exact⟨rfl,λid=>hm id i⟩
 |rng v o i o'=>intro ls ac hg;cases hg;exact⟨rfl,λid=>hm2 id i nx⟩
 |no=>intro ls ac hg;cases hg
theorem a1y {l m:List Id}(h:b1b l m=true):∀id,bN id l=true->bN id m=false:=by
 induction l with
 |nil=>intro id hid;cases hid
 |cons x l ih=>
  have h:(bif bN x m then false else b1b l m)=true:=h
  cases hb:bN x m with
  |true=>rw[hb]at h;cases h
  |false=>
   rw[hb]at h
   intro id hid
   rcases e0b.1 (bU.1 hid)with rfl|hid
   ·exact hb
   ·exact ih h id (bU.2 hid)
theorem b3e {un:Nat}{rd wr:List Id}:∀{tr:List Fp},okF un tr rd wr=true->∀f,f∈tr->tb un f.i=true->(∀id,bN id f.wr=true->bN id rd=false/\bN id wr=false)/\∀id,bN id wr=true->bN id f.rd=false
 |[],_,f,hf,_=>by cases hf
 |e::tr,h,f,hf,hu=>by
  have h:(bif tb un e.i then(bif b1b e.wr rd&&(b1b e.wr wr&&b1b wr e.rd)then okF un tr rd wr else false)else okF un tr rd wr)=true:=h
  cases hb:tb un e.i with
  |false=>
   rw[hb]at h
   rcases e0b.1 hf with rfl|hf
   ·rw[hb]at hu;cases hu
   ·exact b3e h f hf hu
  |true=>
   rw[hb]at h
   cases hd:(b1b e.wr rd&&(b1b e.wr wr&&b1b wr e.rd))with
   |false=>rw[hd]at h;cases h
   |true=>
    rw[hd]at h
    simp only[e0d]at hd
    rcases e0b.1 hf with rfl|hf
    ·exact⟨λid hid=>⟨a1y hd.1 id hid,a1y hd.2.1 id hid⟩,a1y hd.2.2⟩
    ·exact b3e h f hf hu
theorem kH {id:Id}{l m:List Id}:bN id (eH l m)=(bN id l||bN id m):=by
 rw[e2y,jE,bU,e3d,bU,bU,e0x]
theorem b5p {un:Nat}:∀{tr:List Fp} {f:Fp},f∈tr->tb un f.i=true->∀id,bN id f.wr=true->bN id (wsL un tr)=true
 |e::tr,f,hf,hu,id,hid=>by
  show bN id (bif tb un e.i then eH e.wr (wsL un tr)else wsL un tr)=true
  rcases e0b.1 hf with rfl|hf
  ·rw[hu];show bN id (eH f.wr _)=true;rw[kH,hid];rfl
  ·cases tb un e.i with
   |true=>show bN id (eH e.wr _)=true;rw[kH,b5p hf hu id hid,Bool.or_true]
   |false=>exact b5p hf hu id hid
theorem b3q {un:Nat}:∀{tr:List Fp} {f:Fp},f∈tr->tb un f.i=true->∀id,bN id f.rd=true->bN id (psL un tr)=true
 |e::tr,f,hf,hu,id,hid=>by
  show bN id (bif tb un e.i then eH e.rd (psL un tr)else psL un tr)=true
  rcases e0b.1 hf with rfl|hf
  ·rw[hu];show bN id (eH f.rd _)=true;rw[kH,hid];rfl
  ·cases tb un e.i with
   |true=>show bN id (eH e.rd _)=true;rw[kH,b3q hf hu id hid,Bool.or_true]
   |false=>exact b3q hf hu id hid
theorem b3z:∀{l:List Id} {h:Hp} {K:Hp->Res},∃h',d4o l h K=K h'/\∀id,geH h' id=bif bN id l then none else geH h id
 |[],h,K=>⟨h,rfl,λ_=>rfl⟩
 |x::l,h,K=>by
  obtain⟨h',e1,e2⟩:=b3z (l:=l) (h:=eK h x none) (K:=K)
  refine⟨h',by show stH h x none (d4o l · K)=_;rw[dH];exact e1,λid=>?_⟩
  rw[e2,a8c]
  show _=bif (bif gH id x then true else bN id l)then none else geH h id
  by_cases e:id=x
  ·rw[e0c e,bI.2 e];cases bN id l<;>rfl
  ·rw[d9z e,dS.2 e];rfl
theorem b4n {h0:Hp}:∀{l:List Id} {h:Hp} {K:Hp->Res},∃h',c9q h0 l h K=K h'/\∀id,geH h' id=bif bN id l then geH h0 id else geH h id
 |[],h,K=>⟨h,rfl,λ_=>rfl⟩
 |x::l,h,K=>by
  obtain⟨h',e1,e2⟩:=b4n (h0:=h0) (l:=l) (h:=eK h x (geH h0 x)) (K:=K)
  refine⟨h',by show stH h x (geH h0 x) (c9q h0 l · K)=_;rw[dH];exact e1,λid=>?_⟩
  rw[e2,a8c]
  show _=bif (bif gH id x then true else bN id l)then geH h0 id else geH h id
  by_cases e:id=x
  ·rw[e0c e,bI.2 e,e];cases bN x l<;>rfl
  ·rw[d9z e,dS.2 e];rfl
theorem b3f {h:Hp}{nx:Id}{ws:List Id}:∀{ps:List Id},okP h nx ws ps=true->∀id,bN id ps=true->bN id ws=false->id.num<nx.num/\∃o,geH h id=some o
 |[],_,id,hid,_=>by cases hid
 |x::ps,hk,id,hid,hw=>by
  have hk:(bif bN x ws then okP h nx ws ps else bif Nat.blt x.num nx.num&&ifS (geH h x) false (λ_=>true)then okP h nx ws ps else false)=true:=hk
  cases hb:bN x ws with
  |true=>
   rw[hb]at hk
   rcases e0b.1 (bU.1 hid)with rfl|hid
   ·rw[hw]at hb;cases hb
   ·exact b3f hk id (bU.2 hid) hw
  |false=>
   rw[hb]at hk
   cases hc:(Nat.blt x.num nx.num&&ifS (geH h x) false (λ_=>true))with
   |false=>rw[hc]at hk;cases hk
   |true=>
    rw[hc]at hk
    rw[e0d]at hc
    rcases e0b.1 (bU.1 hid)with rfl|hid
    ·refine⟨aL.1 hc.1,?_⟩
     cases ho:geH h id with
     |none=>rw[ho]at hc;cases hc.2
     |some o=>exact⟨o,rfl⟩
    ·exact b3f hk id (bU.2 hid) hw
def d1f (pv:List It)(tr:List Fp):Prop:=∀e,e∈pv->isC e.o=true\/(∀id,e.rd id=false/\e.wr id=false)\/∃f,f∈tr/\f.i=e.i/\∀id,e.rd id=bN id f.rd/\e.wr id=bN id f.wr
def Apa (e x:It):Prop:=(∀id,e.wr id=true->x.rd id=false/\x.wr id=false)/\∀id,x.wr id=true->e.rd id=false
section
variable {P:Program} {hs:Hs} {ih:Ih} {cx:Cx} {ops:Array Oper}
structure OneD (P:Program)(cx:Cx)(ops:Array Oper)(i:Nat)(o:Oper)(un:Nat)(pv:List It)(tm:Tm)(h:Hp)(nx:Id)(x:It)(tr1:List Fp)(tm1:Tm)(h1:Hp)(nx1:Id):Prop where
  xi:x.i=i
  xo:x.o=o
  lo:x.lo=nx.num
  hi:x.hi=nx1.num
  le:nx.num<=nx1.num
  kp:fA cx.lm nx.num nx1.num (geH h) (geH h1)
  sl:∀t,o.dst≠some t->rdT t tm1=rdT t tm
  ap:x.ap (tmF tm,geH h)=(tmF tm1,geH h1)
  st:ops[i]?=some o->Stp P (EKf cx.lm) cx.n cx.ro ops x (tmF tm,geH h)
  tr:d1f (x::pv) tr1
  dj:∀e,e∈pv->isC e.o=false->tb un e.i=true->Apa e x
theorem c4i {i:Nat}{o:Oper}{un:Nat}{pv:List It}{tr:List Fp}(hn:cx.n<=512)(hC:qJ P hs ih)(htr:d1f pv tr)(tm:Tm)(h:Hp)(nx:Id)(K:Kd):c6q P hs ⟨i,qT P cx.n ops.toList o,un⟩ ih cx tr tm h nx K= .no\/
  ∃x tr1 tm1 h1 nx1,c6q P hs ⟨i,qT P cx.n ops.toList o,un⟩ ih cx tr tm h nx K=K tr1 tm1 h1 nx1/\OneD P cx ops i o un pv tm h nx x tr1 tm1 h1 nx1:=by
 rcases b0v (P:=P) (n:=cx.n) (ops:=ops.toList) (o:=o)with e|⟨hd,g,hg,hor⟩
 ·refine .inl ?_
  show In.rec (motive:=λ_=>Ih->Cx->List Fp->Tm->Hp->Id->Kd->Res) (d_o i un) (d_c P hs un) d_b (qT P cx.n ops.toList o) ih cx tr tm h nx K= .no
  rw[e];rfl
 ·have hd5:∀t,o.dst=some t->t<512:=λt ht=>e1g (hd t ht) hn
  have htr1:∀x:It,(∀id,x.rd id=false/\x.wr id=false)\/isC x.o=true->d1f (x::pv) tr:=λx hx e he=>by
   rcases e0b.1 he with rfl|he
   ·exact hx.elim (λq=> .inr (.inl q)) .inl
   ·exact htr e he
  have hsk:∀{r:Res},r=(bif jJ g tm then xO o.dst (.t []) tm (λtm=>K tr tm h nx)else .no)->nG g tm=false->r= .no\/∃x tr1 tm1 h1 nx1,r=K tr1 tm1 h1 nx1/\OneD P cx ops i o un pv tm h nx x tr1 tm1 h1 nx1:=by
   intro r hr hw
   cases hk:jJ g tm with
   |false=>rw[hk]at hr;exact .inl hr
   |true=>
    rw[hk]at hr
    obtain⟨tm1,e1,e2,e3,e4⟩:=b4w (h:=h) (nx:=nx) hn hd hg (K tr) hw hk
    refine .inr ⟨⟨i,o,nx.num,nx.num,λ_=>false,λ_=>false,.t [],geH h⟩,tr,tm1,h,nx,hr.trans e1,rfl,rfl,rfl,rfl,e0g _,fA.refl _ _ _ _,e2,?_,λhi=>?_,htr1 _ (.inl λ_=>⟨rfl,rfl⟩),λe he _ _=>⟨λ_ _=>⟨rfl,rfl⟩,λ_ q=>(by cases q)⟩⟩
    ·rw[e3];rfl
    ·exact .sk hd e4 rfl λ_=>rfl
  rcases hor with⟨c,fo,ho,hc,hic,e⟩|⟨hic,e⟩
  ·have hop:c6q P hs ⟨i,qT P cx.n ops.toList o,un⟩ ih cx tr tm h nx K=d_c P hs un g o.dst fo c.args.toList ih cx tr tm h nx K:=by
    show In.rec (motive:=λ_=>Ih->Cx->List Fp->Tm->Hp->Id->Kd->Res) (d_o i un) (d_c P hs un) d_b (qT P cx.n ops.toList o) ih cx tr tm h nx K=_
    rw[e]
   rw[hop]
   unfold d_c
   cases hw:nG g tm with
   |false=>exact hsk rfl hw
   |true=>
    simp only[e0q]
    cases hok:okP h nx (wsL un tr) (psL un tr)with
    |false=>exact .inl rfl
    |true=>
     simp only[e0q]
     have hok:=b3f hok
     generalize hws:wsL un tr=ws at hok⊢
     generalize hps:psL un tr=ps at hok⊢
     rw[tW]
     obtain⟨hS,e1,e2⟩:=b3z (l:=ws) (h:=h) (K:=λh1=>iZ P hs ih ⟨cx.lm.fl,eH ps cx.lm.pr⟩ (evF (tmF tm) fo) (c.args.toList.map (evF (tmF tm))) h1 nx λv h2 nx=>c9q h ws h2 λh3=>xO o.dst v tm λtm=>K tr tm h3 nx)
     rcases hC ⟨cx.lm.fl,eH ps cx.lm.pr⟩ (evF (tmF tm) fo) (c.args.toList.map (evF (tmF tm))) hS nx (λv h2 nx=>c9q h ws h2 λh3=>xO o.dst v tm λtm=>K tr tm h3 nx)with e3|⟨v,h2,nx1,e3,k1,k2,k3⟩
     ·exact .inl (e1.trans e3)
     ·obtain⟨h3,e4,e5⟩:=b4n (h0:=h) (l:=ws) (h:=h2) (K:=λh3=>xO o.dst v tm λtm=>K tr tm h3 nx1)
      obtain⟨tm1,e6,e7⟩:=jT (d:=o.dst) (v:=v) (tm:=tm) hd5 (λtm=>K tr tm h3 nx1)
      have hps2:∀id,bN id ps=true->bN id ws=false->geH h2 id=geH h id:=by
       intro id q1 q2
       obtain⟨q3,ob,q4⟩:=hok id q1 q2
       rw[q4]
       exact k2 id ob (λq=>by have:=q.1;omega) (by rw[e2,q2];exact q4) (.inl (by show bN id (eH ps cx.lm.pr)=true;rw[kH,q1];rfl))
      refine .inr ⟨⟨i,o,nx.num,nx1.num,λid=>bN id ps&& !bN id ws,λid=> !bN id ps&& !bN id ws,v,geH h3⟩,tr,tm1,h3,nx1,e1.trans (e3.trans (e4.trans e6)),rfl,rfl,rfl,rfl,k1,λid ob hr hob hp=>?_,λt ht=>by have:=congrFun e7 t;rw[cO ht]at this;exact this,?_,λhi=>?_,htr1 _ (.inr hic),λe he hce hun=>?_⟩
      ·rw[e5]
       cases hb:bN id ws with
       |true=>exact hob
       |false=>
        refine k2 id ob hr (by rw[e2,hb];exact hob) ?_
        exact hp.imp (λq=>by show bN id (eH ps cx.lm.pr)=true;rw[kH,q,Bool.or_true]) λq=>q
      ·refine Prod.ext e7.symm (funext λid=>?_)
       show(bif !bN id ps&& !bN id ws then geH h3 id else geH h id)=geH h3 id
       rw[e5]
       cases hb:bN id ws with
       |true=>rw[e4z,Bool.and_false];rfl
       |false=>
        cases hb2:bN id ps with
        |true=>show geH h id=geH h2 id;exact(hps2 id hb2 hb).symm
        |false=>rfl
      ·refine .cl hic λs2 ha=>?_
       have hopr:∀y,y∈o.op.operands.toList->evF s2.1 y=evF (tmF tm) y:=yD λt ht=>ha.1 t (e0p _ ht)
       have hfo:evF s2.1 fo=evF (tmF tm) fo:=hopr fo (by rw[ho];simp only[Op.operands,Call.operands,hc,e6l];exact e0p _ (e1k.2 rfl))
       have hargs:c.args.toList.map (evF s2.1)=c.args.toList.map (evF (tmF tm)):=e2s λy hy=>hopr y (by rw[ho];simp only[Op.operands,Call.operands,e6l];exact e0n _ hy)
       have hrw:∀id,bN id ws=false->s2.2 id=geH h id:=by
        intro id hb
        refine ha.2 id ?_
        show(bN id ps&& !bN id ws)=true\/(!bN id ps&& !bN id ws)=true
        rw[hb];cases bN id ps<;>simp
       have hcall:=b0q (ro:=cx.ro) (EK:=EKf cx.lm) (i:=i) (o:=o) (ops:=ops) (n:=cx.n) (τ:=s2.1) (h:=s2.2) (h1:=geH hS) (h1':=geH h2) (v:=v) (lo:=nx.num) (hi:=nx1.num) (kp:=λid=>bN id ws) hi hd ((iW λt ht=>ha.1 t (e0n _ ht)).trans ((mI hg tm).1 hw)) ho hc (λid ob hob=>by
        rw[e2]at hob
        cases hb:bN id ws with
        |true=>rw[hb]at hob;cases hob
        |false=>rw[hb]at hob;rw[hrw id hb];exact hob) (λid hb=>by rw[e2,hb];rfl) (by rw[hfo,hargs];exact k3)
       have e8:(λid=>bif bN id ws then s2.2 id else geH h2 id)=λid=>bif !bN id ps&& !bN id ws then geH h3 id else s2.2 id:=funext λid=>by
        rw[e5]
        cases hb:bN id ws with
        |true=>rw[e4z,Bool.and_false];rfl
        |false=>
         cases hb2:bN id ps with
         |true=>show geH h2 id=s2.2 id;rw[hrw id hb];exact hps2 id hb2 hb
         |false=>rfl
       rw[e8]at hcall
       exact hcall
      ·rcases htr e he with q|q|⟨f,q1,q2,q3⟩
       ·rw[hce]at q;cases q
       ·exact⟨λid z=>(by rw[(q id).2]at z;cases z),λid _=>(q id).1⟩
       ·rw[<-q2]at hun
        refine⟨λid z=>?_,λid z=>?_⟩
        ·rw[(q3 id).2]at z
         have:=b5p q1 hun id z
         rw[hws]at this
         show(bN id ps&& !bN id ws)=false/\(!bN id ps&& !bN id ws)=false
         rw[this];simp
        ·have z:(!bN id ps&& !bN id ws)=true:=z
         rw[(q3 id).1]
         cases hb:bN id f.rd with
         |false=>rfl
         |true=>
          have:=b3q q1 hun id hb
          rw[hps]at this
          rw[this]at z;cases z
  ·have hop:c6q P hs ⟨i,qT P cx.n ops.toList o,un⟩ ih cx tr tm h nx K=d_o i un g o.dst (pU P o.op) ih cx tr tm h nx K:=by
    show In.rec (motive:=λ_=>Ih->Cx->List Fp->Tm->Hp->Id->Kd->Res) (d_o i un) (d_c P hs un) d_b (qT P cx.n ops.toList o) ih cx tr tm h nx K=_
    rw[e]
   rw[hop]
   unfold d_o
   cases hw:nG g tm with
   |false=>exact hsk rfl hw
   |true=>
    simp only[e0q]
    show d_k i un cx o.dst tr tm h nx K ((pU P o.op).f (evO tm) nx)= .no\/∃x tr1 tm1 h1 nx1,d_k i un cx o.dst tr tm h nx K ((pU P o.op).f (evO tm) nx)=K tr1 tm1 h1 nx1/\_
    unfold d_k
    rw[tW]
    generalize hrq:(pU P o.op).f (evF (tmF tm)) nx=rq
    rcases rF (fl:=cx.lm) (h:=h) (nx:=nx) (K:=λv h' nx'=>bif okF un tr (a1a h rq) (wrL h nx rq)then xO o.dst v tm λtm=>K (adF ⟨i,a1a h rq,wrL h nx rq⟩ tr) tm h' nx' else .no) (bad:= .no) rq with e1|⟨ls,ac,h1,nx1,hgo,hap,e1⟩
    ·exact .inl e1
    ·obtain⟨a1,a2⟩:=c2a (nx:=nx) hgo
     cases hok:okF un tr (a1a h rq) (wrL h nx rq)with
     |false=>rw[hok]at e1;exact .inl e1
     |true=>
      rw[hok]at e1
      have hok:=b3e hok
      obtain⟨tm1,e2,e3⟩:=jT (d:=o.dst) (v:=ac.v) (tm:=tm) hd5 (λtm=>K (adF ⟨i,a1a h rq,wrL h nx rq⟩ tr) tm h1 nx1)
      obtain⟨f1,f2,f3,f4⟩:=vG hap
      refine .inr ⟨⟨i,o,nx.num,nx1.num,λid=>bN id ls,acw nx ac,ac.v,geH h1⟩,adF ⟨i,a1a h rq,wrL h nx rq⟩ tr,tm1,h1,nx1,e1.trans e2,rfl,rfl,rfl,rfl,f2,a9z hap,λt ht=>by have:=congrFun e3 t;rw[cO ht]at this;exact this,?_,λhi=>?_,λe he=>?_,λe he hce hun=>?_⟩
      ·refine Prod.ext e3.symm (funext λid=>?_)
       show(bif acw nx ac id then geH h1 id else geH h id)=geH h1 id
       rw[f1]
       cases hb:acw nx ac id with
       |true=>rfl
       |false=>exact(a1m (h:=geH h) hb).symm
      ·exact .nc nx ls ac hd ((mI hg tm).1 hw) (λq=>⟨e0g _,f3 q⟩) (by rw[<-hrq]at hgo;exact hgo) rfl (λid hid=>bU.2 hid) (λid=>rfl) λid _=>by show geH h1 id=_;rw[f1]
      ·have had:(∀id,bN id (a1a h rq)=false/\bN id (wrL h nx rq)=false)/\adF ⟨i,a1a h rq,wrL h nx rq⟩ tr=tr\/adF ⟨i,a1a h rq,wrL h nx rq⟩ tr=⟨i,a1a h rq,wrL h nx rq⟩::tr:=by
        unfold adF
        cases hae:a1a h rq with
        |nil=>
         cases hwe:wrL h nx rq with
         |nil=>exact .inl ⟨λid=>⟨rfl,rfl⟩,rfl⟩
         |cons y l=>exact .inr rfl
        |cons y l=>exact .inr rfl
       rcases e0b.1 he with rfl|he
       ·rcases had with⟨z1,z2⟩|z
        ·exact .inr (.inl λid=>⟨by rw[<-a1];exact(z1 id).1,(a2 id).symm.trans (z1 id).2⟩)
        ·rw[z];exact .inr (.inr ⟨_,d9y ..,rfl,λid=>⟨by rw[a1],(a2 id).symm⟩⟩)
       ·rcases htr e he with q|q|⟨f,q1,q2,q3⟩
        ·exact .inl q
        ·exact .inr (.inl q)
        ·rcases had with⟨_,z2⟩|z
         ·rw[z2];exact .inr (.inr ⟨f,q1,q2,q3⟩)
         ·rw[z];exact .inr (.inr ⟨f,d9v _ q1,q2,q3⟩)
      ·rcases htr e he with q|q|⟨f,q1,q2,q3⟩
       ·rw[hce]at q;cases q
       ·exact⟨λid z=>(by rw[(q id).2]at z;cases z),λid _=>(q id).1⟩
       ·rw[<-q2]at hun
        obtain⟨r1,r2⟩:=hok f q1 hun
        rw[a1]at r1
        refine⟨λid z=>?_,λid z=>?_⟩
        ·rw[(q3 id).2]at z
         obtain⟨r3,r4⟩:=r1 id z
         exact⟨r3,(a2 id).symm.trans r4⟩
        ·rw[(q3 id).1];exact r2 id ((a2 id).trans z)
theorem c5c (hn:cx.n<=512)(hC:qJ P hs ih):∀{l:List (Nat×Oper)} {r:List Dn} {pv:List It} {tr:List Fp} {tm:Tm} {h:Hp} {nx:Id} {e:Ex} {tm':Tm} {h':Hp} {nx':Id},Bld P cx.n ops (pv.map λx=>(x.i,x.o)) l r->(∀p,p∈l->ops[p.1]?=some p.2)->d1f pv tr->d1v P hs ih cx r tr tm h nx= .ok e tm' h' nx'->
  e= .normal/\nx.num<=nx'.num/\fA cx.lm nx.num nx'.num (geH h) (geH h')/\sP (l.filterMap (·.2.dst)) tm tm'/\
  ∃items:List It,items.map (λx=>(x.i,x.o))=l/\OkL P (EKf cx.lm) cx.n cx.ro ops items (tmF tm,geH h)/\apL items (tmF tm,geH h)=(tmF tm',geH h')/\(∀x,x∈items->nx.num<=x.lo/\x.hi<=nx'.num)/\items.Pairwise (λe x=>e.hi<=x.lo)/\
   items.Pairwise (λe x=>Rch ops x.i e.i\/Cm P (EKf cx.lm) cx.n cx.ro ops e x)/\(∀e,e∈pv->∀x,x∈items->Rch ops x.i e.i\/Cm P (EKf cx.lm) cx.n cx.ro ops e x)/\b5u (pv.map (·.i)) items:=by
 intro l
 induction l with
 |nil=>
  intro r pv tr tm h nx e tm' h' nx' hb hl htr hr
  cases hb
  cases hr
  exact⟨rfl,e0g _,fA.refl _ _ _ _,λ_ _=>rfl,[],rfl,trivial,rfl,λx hx=>(by cases hx),List.Pairwise.nil,List.Pairwise.nil,λe _ x hx=>(by cases hx),trivial⟩
 |cons p l ihl=>
  intro r pv tr tm h nx e tm' h' nx' hb hl htr hr
  cases hb with
  |cons b1 b2 b3=>
  rename_i i o un r
  have hr:c6q P hs ⟨i,qT P cx.n ops.toList o,un⟩ ih cx tr tm h nx (d1v P hs ih cx r)= .ok e tm' h' nx':=hr
  have ho:ops[i]?=some o:=hl (i,o) (d9y ..)
  rcases c4i (i:=i) (un:=un) (ops:=ops) (o:=o) hn hC htr tm h nx (d1v P hs ih cx r)with e1|⟨x,tr1,tm1,h1,nx1,e1,hx⟩
  ·rw[e1]at hr;cases hr
  ·rw[e1]at hr
   have hst:=hx.st ho
   obtain⟨q1,q2,q3,q4,items,q5,q6,q7,q8,q9,q10,q11,q12⟩:=ihl (pv:=x::pv) (by rw[e0o,hx.xi,hx.xo];exact b3) (λp hp=>hl p (d9v _ hp)) hx.tr hr
   have hle:=hx.le
   refine⟨q1,by omega,hx.kp.trans q3 hx.le q2,λt ht=>?_,x::items,by rw[e0o,hx.xi,hx.xo,q5],⟨hst,by rw[hx.ap];exact q6⟩,by show apL items (x.ap (tmF tm,geH h))=_;rw[hx.ap];exact q7,λy hy=>?_,e3m.2 ⟨λy hy=>by rw[hx.hi];exact(q8 y hy).1,q9⟩,e3m.2 ⟨λy hy=>q11 x (d9y ..) y hy,q10⟩,λe he y hy=>?_,?_⟩
   ·rw[e5l]at ht
    refine(q4 t λq=>ht ?_).trans (hx.sl t λq=>ht ?_)
    ·cases hd:o.dst with
     |none=>exact q
     |some d=>exact d9v _ q
    ·rw[q];exact d9y ..
   ·rcases e0b.1 hy with rfl|hy
    ·exact⟨by rw[hx.lo];exact e0g _,by rw[hx.hi];exact q2⟩
    ·exact⟨e2h hx.le (q8 y hy).1,(q8 y hy).2⟩
   ·rcases e0b.1 hy with rfl|hy
    ·rcases b2 (e.i,e.o) (e0l.2 ⟨e,he,rfl⟩)with b|⟨b4,b5,b6⟩
     ·rw[hx.xi];exact .inl b
     ·rw[<-hx.xo]at b5 b6
      rcases b6 with b6|b6
      ·exact .inr (Cm.of_lk b5 b6)
      ·obtain⟨d1,d2⟩:=hx.dj e he b4 b6
       exact .inr (Cm.of_dis b5 d1 d2)
    ·exact q11 e (d9v _ he) y hy
   ·refine⟨λed he hbi=>?_,q12⟩
    have:=b1 ed (by rw[<-hx.xo];exact he) hbi
    rw[e7l]at this
    exact this
def eA (P:Program)(EK:Vl->Prop)(c:Code)(n:Nat)(ro:Option Id)(τ:Nat->V)(h:Hf)(lo hi:Nat)(x:Ex)(τ':Nat->V)(h':Hf):Prop:=
  ∀(E:Vl) (Ow:Nat->Prop) (ρ:Rh) (Fr:Id->Prop) (r:Option Nat) (k:Nat) (a:Act) (W:World),EK E->RoK ro ρ r->(∀id,Rg lo hi id->Fr id)->(∃sp,Fr sp/\¬Rg lo hi sp)->SR E Ow ρ n τ h Fr a W->
    c.wpIn (Fw r) k P (λe a' W'=>e=exE x/\Po E Ow ρ Fr W n lo hi τ' h' a a' W') a W
theorem c9o (hn:cx.n<=512)(hC:qJ P hs ih){id:Nat}{tm:Tm}{h:Hp}{nx:Id}{e:Ex}{tm':Tm}{h':Hp}{nx':Id}(hr:c7h P hs ops.toList ih cx tm h nx= .ok e tm' h' nx'):
  nx.num<=nx'.num/\fA cx.lm nx.num nx'.num (geH h) (geH h')/\sP (ops.toList.filterMap (·.dst)) tm tm'/\eA P (EKf cx.lm) (.region id ops false) cx.n cx.ro (tmF tm) (geH h) nx.num nx'.num e (tmF tm') (geH h'):=by
 obtain⟨rfl,q2,q3,q4,q5⟩:=b4p (ops:=ops) hn hC ops.toList 0 tm h nx e tm' h' nx' (λk o hk=>by rw[e0f,<-e0s];exact hk) hr
 refine⟨q2,q3,q4,λE Ow ρ Fr r k a W hE hro hfr hsp hs=>wpIn_region ?_⟩
 have:=q5 E Ow ρ Fr r k a W (λe a' W'=>e=exE .normal/\Po E Ow ρ Fr W cx.n nx.num nx'.num (tmF tm') (geH h') a a' W') hE hro hfr hsp hs λa' W' hp=>⟨rfl,hp⟩
 rwa[e1c,<-e6b]at this
theorem c4v (hm:P.follows .mixedOrders=true)(hn:cx.n<=512)(hC:qJ P hs ih){id:Nat}{tm:Tm}{h:Hp}{nx:Id}{e:Ex}{tm':Tm}{h':Hp}{nx':Id}(hr:b0p P hs ops.toList ih cx tm h nx= .ok e tm' h' nx'):
  nx.num<=nx'.num/\fA cx.lm nx.num nx'.num (geH h) (geH h')/\sP (ops.toList.filterMap (·.dst)) tm tm'/\eA P (EKf cx.lm) (.region id ops true) cx.n cx.ro (tmF tm) (geH h) nx.num nx'.num e (tmF tm') (geH h'):=by
 unfold b0p at hr
 cases hc:d1n P cx.n ops.toList with
 |none=>rw[hc]at hr;cases hr
 |some r=>
  rw[hc]at hr
  obtain⟨l,l1,l2,l3,l4⟩:=c2p hc
  obtain⟨rfl,q2,q3,q4,items,q5,q6,q7,q8,q9,q10,_,q12⟩:=c5c (ops:=ops) (pv:=[]) (tr:=[]) hn hC l1 l2 (λe he=>(by cases he)) hr
  have hix:items.map (·.i)=l.map (·.1):=by rw[<-q5,e7l];rfl
  refine⟨q2,q3,λt ht=>q4 t λq=>ht ?_,λE Ow ρ Fr ro k a W hE hro hfr hsp hs=>wpIn_region_any hm ?_⟩
  ·obtain⟨p,hp,hd⟩:=List.mem_filterMap.1 q
   exact List.mem_filterMap.2 ⟨p.2,e1j (by rw[e0s];exact l2 p hp),hd⟩
  ·obtain⟨sp,s1,s2⟩:=hsp
   refine qL (P:=P) (EK:=EKf cx.lm) (n:=cx.n) (ro:=cx.ro) (ops:=ops) (Fr0:=Fr) (ρ0:=ρ) (Ow0:=Ow) (W0:=W) (lo:=nx.num) (hi:=nx'.num) (sE:=(tmF tm',geH h')) hE hro s1 s2 (λa' W' hp=>⟨rfl,hp⟩) ops.size _ [] items (tmF tm,geH h) a _ ?_ ⟨by simp,λk hk=>?_,λk hk=>(by cases hk),λk hk=>?_,λx hx=>?_,by rw[hix];exact l3,λk o hk=>(by cases hk),q12,q9.imp λ{e x} hle id r1 r2=>by have:=r1.2;have:=r2.1;omega,q8,Ow,ρ,Fr,λ_ q=>q,Nm.refl _ _ _,⟨rfl,rfl,rfl,e0g _,λ_ _ _=>rfl⟩,λx hx id hid=>hfr id ⟨by have:=(q8 x hx).1;have:=hid.1;omega,by have:=(q8 x hx).2;have:=hid.2;omega⟩,λid hid _=>hid,?_,Dm.of_eq rfl⟩ q10 q6 q7
   ·have h1:items.length=(items.map (·.i)).length:=by rw[e0z]
    rw[h1,hix]
    have hsub:(l.map (·.1)).length<=(List.range ops.size).length:=by
     refine List.Nodup.length_le_of_subset l3 λk hk=>?_
     obtain⟨p,hp,rfl⟩:=e0l.1 hk
     exact e1e.2 (d9w.1 (l2 p hp)).1
    rwa[e2o]at hsub
   ·simp[Array.getD,hk]
   ·rw[hix];simp only[e0m,false_iff,Classical.not_not];exact l4 k hk
   ·have hmem:(x.i,x.o)∈l:=by rw[<-q5];exact e0l.2 ⟨x,hx,rfl⟩
    exact l2 _ hmem
   ·exact⟨hs.rt,⟨λid o hid=>hs.hr.obj id o hid,hs.hr.inj,hs.hr.fr,hs.hr.up⟩,hs.df⟩
end
set_option linter.unusedVariables false
theorem a4j {β:Type}:∀(l:List V) (n:Nat) (t:Tm) (K:Tm->β),n+l.length<=512->∃t',b6n l n t K=K t'/\(∀j x,l[j]?=some x->rdT (n+j) t'=x)/\∀p,(p<n\/n+l.length<=p)->rdT p t'=rdT p t
 |[],n,t,K,_=>⟨t,rfl,λj x h=>(by simp at h),λ_ _=>rfl⟩
 |v::l,n,t,K,hn=>by
  have hn':n+1+l.length<=512:=by rw[e0r]at hn;omega
  obtain⟨t',e1,e2,e3⟩:=a4j l (n+1) (stT n v t) K hn'
  refine⟨t',?_,λj x hj=>?_,λp hp=>?_⟩
  ·show wtT n v t (λt=>b6n l (Nat.succ n) t K)=_
   rw[lF];exact e1
  ·cases j with
   |zero=>
    have hx:v=x:=e4p hj
    subst hx
    rw[e2j,e3 n (.inl (Nat.lt_succ_self n))]
    exact sC (by omega) v t
   |succ j=>rw[show n+(j+1)=n+1+j by omega];exact e2 j x hj
  ·rw[e0r]at hp
   rw[e3 p (by omega)]
   exact iS (by omega) (by omega) v t
theorem b7h {E:Vl}{ρ:Rh}{args:List V}{us:List Value}{n:Nat}(hv:RVs E ρ args us)(hl:args.length<=n){t':Tm}(h1:∀j x,args[j]?=some x->rdT (0+j) t'=x)(h2:∀p,(p<0\/0+args.length<=p)->rdT p t'=rdT p tm0):
  RT E ρ n (tmF t') (us.toArray++Array.replicate (n-us.toArray.size) undef):=by
 have hlen:=hv.length
 refine⟨by simp;omega,λp=>?_⟩
 have e:(us.toArray++Array.replicate (n-us.toArray.size) undef).getD p undef=us.getD p undef:=by
  rw[d9x,d9r]
  by_cases hi':p<us.length
  ·rw[e4s (by simpa using hi')];simp
  ·rw[e5k (by simpa using hi'),e1w (by omega),Array.getElem?_replicate]
   split<;>rfl
 rw[e]
 by_cases hp:p<args.length
 ·have:=h1 p _ (e0e hp)
  rw[e0f]at this
  show RV E ρ (rdT p t') _
  rw[this]
  obtain⟨u,q1,q2⟩:=hv.get (e0e hp)
  rw[d9r,q1];exact q2
 ·show RV E ρ (rdT p t') _
  rw[h2 p (.inr (by omega)),d9r,e1w (by omega)]
  by_cases h5:p<512
  ·rw[c9n h5];exact⟨#[],rfl,rfl⟩
  ·rw[a5z (by omega)];trivial
def a6c (tmps : Array Value) (r : ResultVar) : Sem Value :=
  match r with
  | .tmp t => pure (tmps.getD t undef)
  | .cell a t => do loadVar t (← asAddr (tmps.getD a undef))
section
variable {P:Program}
def d1z (P:Program)(τ:Nat->V)(h:Hf)(r:ResultVar)(v:V):Prop:=∀(E:Vl) (Ow:Nat->Prop) (ρ:Rh) (n:Nat) (Fr:Id->Prop) (tmps:Array Value) (W:World),RT E ρ n τ tmps->HR E Ow ρ h Fr W->∃u,(a6c tmps r).run P W= .ok u W/\RV E ρ v u
theorem c4z {tm:Tm}{h:Hp}{r:ResultVar}(K:V->Res):a9a tm h (a1b P r) K= .no\/∃v,a9a tm h (a1b P r) K=K v/\d1z P (tmF tm) (geH h) r v:=by
 cases r with
 |tmp t=>exact .inr ⟨rdT t tm,rfl,λE Ow ρ n Fr tmps W ht hh=>⟨_,rfl,ht.get t⟩⟩
 |cell a t=>
  cases hn:agO P t with
  |none=>refine .inl ?_;show a9a tm h (match agO P t with|some n=> .c n a|none=> .no) K= .no;rw[hn];rfl
  |some n=>
   have e0:a9a tm h (a1b P (.cell a t)) K=goR ⟨none,[]⟩ h .z (λv _ _=>K v) .no (asP (rdT a tm) λid off=> .ask id λo=>asC o λcs=>yU n cs off):=by
    show a9a tm h (match agO P t with|some n=> .c n a|none=> .no) K=_
    rw[hn];rfl
   rw[e0]
   rcases rF (fl:=⟨none,[]⟩) (h:=h) (nx:= .z) (K:=λv _ _=>K v) (bad:= .no) (asP (rdT a tm) λid off=> .ask id λo=>asC o λcs=>yU n cs off)with e1|⟨ls,ac,h1,nx1,hgo,hap,e1⟩
   ·exact .inl e1
   ·refine .inr ⟨ac.v,e1,λE Ow ρ m Fr tmps W ht hh=>?_⟩
    let act:Act:=⟨tmps,[]⟩
    have ht':RT E ρ m (tmF tm) act.tmps:=ht
    obtain⟨v,u,rfl,h2,h3⟩:=d7f (P:=P) (nm:=Id.z) (W:=W) (ev:=evF (tmF tm)) (re:=act.eval) ht'.ev ({(default:Oper)with op:= .load t (.tmp a)}) hh rfl hn hgo
    refine⟨u,?_,h3⟩
    have h2:(Instr.loadAt t (tmps.getD a undef) >>= λv=>pure (Next.value v):Sem Next).run P W= .ok (.value u) W:=h2
    show(do loadVar t (<-asAddr (tmps.getD a undef)):Sem Value).run P W=_
    generalize tmps.getD a undef=w at h2
    cases w
    case pointer p=>
     cases p with
     |some p=>
      have e9:(Instr.loadAt t (.pointer (some p)) >>= λv=>pure (Next.value v):Sem Next).run P W=((loadVar t p).run P W).andThen λv W'=> .ok (.value v) W':=by
       rw[d9t];rfl
      rw[e9]at h2
      show(loadVar t p).run P W=_
      cases hx:(loadVar t p).run P W with
      |ok v W'=>rw[hx]at h2;cases h2;rfl
      |halt x W'=>rw[hx]at h2;cases h2
     |none=>simp[Instr.loadAt,Instr.sureAddr,d9t]at h2
    all_goals(simp[Instr.loadAt,Instr.sureAddr,d9t]at h2;done)
theorem b4c {tm:Tm}{h:Hp}:∀(rs:List ResultVar) (K:List V->Res),c6s tm h (rs.map (a1b P)) K= .no\/∃vs,c6s tm h (rs.map (a1b P)) K=K vs/\vs.length=rs.length/\∀(E:Vl) (Ow:Nat->Prop) (ρ:Rh) (n:Nat) (Fr:Id->Prop) (tmps:Array Value) (W:World),RT E ρ n (tmF tm) tmps->HR E Ow ρ (geH h) Fr W->∃us,(rs.mapM (a6c tmps)).run P W= .ok us W/\RVs E ρ vs us
 |[],K=> .inr ⟨[],rfl,rfl,λE Ow ρ n Fr tmps W _ _=>⟨[],rfl,rfl⟩⟩
 |r::rs,K=>by
  have e0:c6s tm h ((r::rs).map (a1b P)) K=a9a tm h (a1b P r) λv=>c6s tm h (rs.map (a1b P)) λl=>K (v::l):=rfl
  rw[e0]
  rcases c4z (P:=P) (tm:=tm) (h:=h) (r:=r) (λv=>c6s tm h (rs.map (a1b P)) λl=>K (v::l))with e1|⟨v,e1,h1⟩
  ·exact .inl e1
  ·rcases b4c rs (λl=>K (v::l))with e2|⟨vs,e2,h2,h3⟩
   ·exact .inl (e1.trans e2)
   ·refine .inr ⟨v::vs,e1.trans e2,by rw[e0r,e0r,h2],λE Ow ρ n Fr tmps W ht hh=>?_⟩
    obtain⟨u,q1,q2⟩:=h1 E Ow ρ n Fr tmps W ht hh
    obtain⟨us,q3,q4⟩:=h3 E Ow ρ n Fr tmps W ht hh
    refine⟨u::us,?_,u,us,rfl,q2,q4⟩
    rw[e6p]
    simp only[d9t,q1,d9q,q3,d9u]
theorem c4y {tm:Tm}{h:Hp}(fn:Func)(K:V->Res):c4x tm h (fn.results.toList.map (a1b P)) K= .no\/∃v,c4x tm h (fn.results.toList.map (a1b P)) K=K v/\∀(E:Vl) (Ow:Nat->Prop) (ρ:Rh) (n:Nat) (Fr:Id->Prop) (tmps:Array Value) (W:World),RT E ρ n (tmF tm) tmps->HR E Ow ρ (geH h) Fr W->∃u,(results fn tmps).run P W= .ok u W/\RV E ρ v u:=by
 have hres:∀(tmps:Array Value) (us:List Value) (W:World),(fn.results.toList.mapM (a6c tmps)).run P W= .ok us W->(results fn tmps).run P W= .ok (if h:us.toArray.size=1 then us.toArray[0]else .tuple us.toArray) W:=by
  intro tmps us W hrun
  have e:results fn tmps=(do let vs <-fn.results.mapM (a6c tmps);pure (if h:vs.size=1 then vs[0]else .tuple vs)):=rfl
  rw[e,d9t,e3o,e7g,hrun]
  rfl
 unfold c4x
 rcases b4c (P:=P) (tm:=tm) (h:=h) fn.results.toList (λl=>match l with
  |[v]=>K v
  |l=>K (.t l))with e1|⟨vs,e1,h1,h2⟩
 ·exact .inl e1
 ·match vs,e1,h1,h2 with
  |[v],e1,h1,h2=>
   refine .inr ⟨v,e1,λE Ow ρ n Fr tmps W ht hh=>?_⟩
   obtain⟨us,q1,u,r,rfl,q2,rfl⟩:=h2 E Ow ρ n Fr tmps W ht hh
   exact⟨u,hres tmps _ W q1,q2⟩
  |[],e1,h1,h2=>
   refine .inr ⟨.t [],e1,λE Ow ρ n Fr tmps W ht hh=>?_⟩
   obtain⟨us,q1,rfl⟩:=h2 E Ow ρ n Fr tmps W ht hh
   exact⟨.tuple #[],hres tmps _ W q1,#[],rfl,rfl⟩
  |v1::v2::vs,e1,h1,h2=>
   refine .inr ⟨.t (v1::v2::vs),e1,λE Ow ρ n Fr tmps W ht hh=>?_⟩
   obtain⟨us,q1,q2⟩:=h2 E Ow ρ n Fr tmps W ht hh
   refine⟨.tuple us.toArray,?_,us.toArray,rfl,q2⟩
   rw[hres tmps _ W q1,dif_neg]
   have:=q2.length
   simp only[e3y,this,e0r];omega
end
theorem HR.put {E:Vl}{Ow:Nat->Prop}{ρ:Rh}{h:Hf}{Fr:Id->Prop}{W:World}(hh:HR E Ow ρ h Fr W){D:Nat}{o:Obj}(hD:∀id l,h id≠none->ρ id=some l->l.b≠D):HR E Ow ρ h Fr (W.putObj D o):=
 ⟨λid ob hid=>by
  obtain⟨l,r1,r2,r3,r4⟩:=hh.obj id ob hid
  exact⟨l,r1,r2,by rw[e2t];exact r3,r4.go (e7n _) (e1x (hD id l (by rw[hid];simp) r1))⟩,hh.inj,hh.fr,λb hb=>hh.up b (by rw[e2t]at hb;exact hb)⟩
theorem a5g {P:Program}{fn:Func}{tmps:Array Value}{R:Ending->World->Prop}{k:Nat}{E:Vl}{Ow Ow0:Nat->Prop}{ρ:Rh}{h:Hf}{Fr:Id->Prop}{W0:World}:∀(Ds:List Nat) (W:World),HR E Ow ρ h Fr W->Gr Ow0 W0 W->Ds.Nodup->(∀D,D∈Ds->¬Ow D/\Ow0 D/\W.heap[D]?=some (.deferred (some [])))->
  (∀W',HR E Ow ρ h Fr W'->Gr Ow0 W0 W'->∃v,(results fn tmps).run P W'= .ok v W'/\R (.returned v) W')->LeavesInM (Fw none) k P fn tmps R (Ds.map Px.mark) .returning W
 |[],W,hh,hg,_,_,hq=>hq W hh hg
 |D::Ds,W,hh,hg,hn,hd,hq=>by
  obtain⟨d1,d2,d3⟩:=hd D (d9y ..)
  rw[e2b]at hn
  refine⟨by simp,.inl ⟨D,_,rfl,run_takeDeferred d3,a5g Ds _ (hh.put λid l hid hl e=>?_) ⟨hg.os,hg.tape,hg.output,by rw[e2t];exact hg.size,λb hb ho=>?_⟩ hn.2 (λD' hD'=>?_) hq⟩⟩
  ·cases ho:h id with
   |none=>exact hid ho
   |some o=>obtain⟨l',r1,r2,_⟩:=hh.obj id o ho;rw[hl]at r1;cases r1;exact d1 (e▸r2)
  ·rw[e1x (λe=>ho (by rw[e];exact d2))];exact hg.block b hb ho
  ·obtain⟨e1,e2,e3⟩:=hd D' (d9v _ hD')
   have hne:D'≠D:=λe=>hn.1 (by rw[<-e];exact hD')
   exact⟨e1,e2,(e1x hne).trans e3⟩
set_option linter.unusedVariables false
def vC (P:Program)(ih:Ih):Prop:=∀(cx:Cx) (c:Code) (tm:Tm) (h:Hp) (nx:Id) (e:Ex) (tm':Tm) (h':Hp) (nx':Id),cx.n<=512->ih cx c tm h nx= .ok e tm' h' nx'->
  nx.num<=nx'.num/\fA cx.lm nx.num nx'.num (geH h) (geH h')/\sP (lJ c) tm tm'/\eA P (EKf cx.lm) c cx.n cx.ro (tmF tm) (geH h) nx.num nx'.num e (tmF tm') (geH h')
def a1f (P:Program)(g:Nat):Prop:=∀(t b:Nat) (es:Array MapEntry) (clock:Nat) (W:World),W.heap[b]?=some (.map es clock)->(callFunc g #[.iface t (.map (some b))]).run P W= .ok (.value (.iface t (.map (some W.heap.size)))) (W.alloc (.map es clock))
def GTr (P:Program)(EK:Vl->Prop)(g:Nat)(args:List V)(lo hi:Nat)(h:Hf)(v:V)(h':Hf):Prop:=
  (∀(us:Array Value) (W:World),(callFunc g us).run P W= .ok (.enter g us) W)/\∀(E:Vl) (Ow:Nat->Prop) (ρ:Rh) (Fr:Id->Prop) (l:Option Nat) (k:Nat) (W:World) (us:List Value),EK E->RVs E ρ args us->HR E Ow ρ h Fr W->(∀id,Rg lo hi id->Fr id)->(∃sp,Fr sp/\¬Rg lo hi sp)->
    CallsIn (Fw l) k P g us.toArray W λe W'=>∃w,e= .returned w/\PoV E Ow ρ Fr W lo hi v h' w W'
section
variable {P:Program} {hs:Hs} {ih:Ih}
theorem c2q {g:Nat}{fi:Fi}(h:b6w P g=some fi):∃fn c,P.funcs[g]?=some fn/\fn.body=some c/\fn.ntmps<=512/\fi=⟨c,fn.results.toList.map (a1b P),fn.ntmps⟩/\∀(us:Array Value) (W:World),(callFunc g us).run P W= .ok (.enter g us) W:=by
 unfold b6w at h
 split at h
 ·rename_i fn hf
  split at h
  ·rename_i c hc
   cases hb:(Nat.ble fn.ntmps 512&&fn.name != "runtime.NumGoroutine")with
   |false=>rw[hb]at h;cases h
   |true=>
    rw[hb]at h
    cases h
    rw[e0d]at hb
    refine⟨fn,c,hf,hc,aL.1 hb.1,rfl,λus W=>?_⟩
    have hnm:¬(fn.name== "runtime.NumGoroutine")=true:=by
     intro q
     have h2:=hb.2
     simp only[bne,q]at h2
     cases h2
    have hbn:¬fn.body.isNone=true:=by rw[hc];simp
    simp only[callFunc,d9t,run_program,d9q,hf,d9z hnm,d9z hbn,d9u]
  ·cases h
 ·cases h
theorem b7r (hR:vC P ih){lm:Lm}{g:Nat}{fi:Fi}(hc:b6w P g=some fi){args:List V}{h:Hp}{nx:Id}(K:Kv):gA P hs ih lm g args h nx K= .no\/
  ∃v h' nx',gA P hs ih lm g args h nx K=K v h' nx'/\nx.num<=nx'.num/\fA lm nx.num nx'.num (geH h) (geH h')/\GTr P (EKf lm) g args nx.num nx'.num (geH h) v (geH h'):=by
 obtain⟨fn,c,hf,hb,hn,rfl,hent⟩:=c2q hc
 have e0:gA P hs ih lm g args h nx K=(bif Nat.ble (nQ args) fn.ntmps then b6n args 0 tm0 (λtm=>ifR (ih ⟨lm,g,fn.ntmps,none⟩ c tm h nx) .no λe tm h nx=>match e with
   | .exit _=> .no
   |_=>c4x tm h (fn.results.toList.map (a1b P)) λv=>K v h nx)else .no):=by
  unfold gA
  rw[hc];rfl
 rw[e0]
 cases hl:Nat.ble (nQ args) fn.ntmps with
 |false=>exact .inl rfl
 |true=>
  have hl:args.length<=fn.ntmps:=by rw[gE]at hl;exact aL.1 hl
  simp only[e0q]
  obtain⟨t',e1,a1,a2⟩:=a4j (β:=Res) args 0 tm0 (λtm=>ifR (ih ⟨lm,g,fn.ntmps,none⟩ c tm h nx) .no λe tm h nx=>match e with
   | .exit _=> .no
   |_=>c4x tm h (fn.results.toList.map (a1b P)) λv=>K v h nx) (by omega)
  rw[e1]
  cases hr:ih ⟨lm,g,fn.ntmps,none⟩ c t' h nx with
  |no=>exact .inl rfl
  |ok e tm1 h1 nx1=>
   obtain⟨q1,q2,q3,q4⟩:=hR _ _ _ _ _ _ _ _ _ hn hr
   have key:(e= .normal\/e= .ret)->∀r:Res,r=(c4x tm1 h1 (fn.results.toList.map (a1b P)) λv=>K v h1 nx1)->r= .no\/∃v h' nx',r=K v h' nx'/\nx.num<=nx'.num/\fA lm nx.num nx'.num (geH h) (geH h')/\GTr P (EKf lm) g args nx.num nx'.num (geH h) v (geH h'):=by
    rintro he r rfl
    rcases c4y (P:=P) (tm:=tm1) (h:=h1) fn (λv=>K v h1 nx1)with e2|⟨v,e2,r1⟩
    ·exact .inl e2
    ·refine .inr ⟨v,h1,nx1,e2,q1,q2,hent,λE Ow ρ Fr l k W us hE hus hh hfr hsp=>?_⟩
     have hend:∀a' W',Po E Ow ρ Fr W fn.ntmps nx.num nx1.num (tmF tm1) (geH h1) {tmps:=us.toArray++Array.replicate (fn.ntmps-us.toArray.size) undef,defers:=[]} a' W'->LeavesInM (Fw none) k P fn a'.tmps (λe W'=>∃w,e= .returned w/\PoV E Ow ρ Fr W nx.num nx1.num v (geH h1) w W') a'.defers .returning W':=by
      intro a' W' hp
      obtain⟨Ow',ρ',p1,p2,p3,p4,p5⟩:=hp
      obtain⟨Ds,d1,d2,d3⟩:=p3.df
      rw[d1]
      refine a5g (E:=E) (Ow:=Ow') (Ow0:=Ow) (ρ:=ρ') (h:=geH h1) (Fr:=λid=>Fr id/\¬Rg nx.num nx1.num id) (W0:=W) Ds W' p3.hr p4 d2 (λD hD=>⟨(d3 D hD).1,?_,(d3 D hD).2⟩) λW2 hh2 hg2=>?_
      ·have hm:Px.mark D∈a'.defers:=by rw[d1];exact e0l.2 ⟨D,hD,rfl⟩
       rcases p5 _ hm with q|⟨D',q1,q2⟩
       ·cases q
       ·have:D=D':=by
         simp only[Px.mark,Deferred.mk.injEq,Target.collected.injEq,and_true]at q1
         exact q1
        rw[this];exact q2
      ·obtain⟨u,u1,u2⟩:=r1 E Ow' ρ' fn.ntmps _ a'.tmps W2 p3.rt hh2
       refine⟨u,u1,u,rfl,ρ',p2,u2,hh2.weak (λid l _ _ q=>p1 _ q) (λb hb=>hh.up b (e2h hg2.size hb)),hg2⟩
     refine e5m (F:=Fw none) hf hb trivial ?_
     refine e7d (q4 E Ow ρ Fr none k _ W hE rfl hfr hsp ⟨b7h hus hl a1 a2,hh,[],rfl,e4k,λD hD=>(by cases hD)⟩) ?_
     rintro e' a' W' ⟨rfl,hp⟩
     rcases he with rfl|rfl
     ·exact hend a' W' hp
     ·exact hend a' W' hp
   cases e with
   |exit i=>exact .inl rfl
   |normal=>exact key (.inl rfl) _ rfl
   |ret=>exact key (.inr rfl) _ rfl
theorem pT {g:Nat}(hcl:a1f P g){lm:Lm}{args:List V}{h:Hp}{nx:Id}(K:Kv):clone args h nx K= .no\/
  ∃v h' nx',clone args h nx K=K v h' nx'/\nx.num<=nx'.num/\fA lm nx.num nx'.num (geH h) (geH h')/\(∃t id,args=[.e t id])/\∀(E:Vl) (Ow:Nat->Prop) (ρ:Rh) (Fr:Id->Prop) (W:World) (us:List Value),RVs E ρ args us->HR E Ow ρ (geH h) Fr W->(∀id,Rg nx.num nx'.num id->Fr id)->
   ∃w W',(callFunc g us.toArray).run P W= .ok (.value w) W'/\PoV E Ow ρ Fr W nx.num nx'.num v (geH h') w W':=by
 unfold clone
 split
 ·rename_i t id
  split
  ·rename_i ag es op hob
   rw[dH]
   rcases fK nx .no (λnx'=>K (.e t nx) (eK h nx (some (.m ag es none))) nx')with e1|⟨nx',e1,e2⟩
   ·exact .inl e1
   ·refine .inr ⟨_,_,nx',e1,by omega,λj o hr ho _=>?_,⟨t,id,rfl⟩,λE Ow ρ Fr W us hus hh hfr=>?_⟩
    ·rw[fU _ (λq=>hr ⟨by rw[q];exact e0g _,by rw[q];omega⟩)];exact ho
    ·obtain⟨u,r,rfl,⟨l,h1,rfl⟩,rfl⟩:=hus
     obtain⟨l',h2,h3,h4,ents,clock,h5,h6,_⟩:=hh.obj id _ hob
     rw[h1]at h2;cases h2
     have hf:Fr nx:=hfr nx ⟨e0g _,by omega⟩
     have hle:=dN (l:=lcN W 0) (hh.fr nx hf)
     have hn:=hh.new (nx:=nx) hf (l:=lcN W 0) (o:= .m ag es none) (W':=W.alloc (.map ents clock)) rfl (λb hb=>e3f W _ hb) (by show(W.heap.push _).size=_;simp) ⟨ents,clock,heap_alloc_new W _,h6.le hle,λg k q=>(by cases q)⟩
     refine⟨_,_,hcl t l.b ents clock W h5,upR ρ nx (lcN W 0),⟨hle,λj hj=>?_⟩,⟨_,bL _ _ _,rfl⟩,?_,⟨rfl,rfl,rfl,by show _<=(W.heap.push _).size;simp,λb hb _=>e3f W _ hb⟩⟩
     ·unfold upR;rw[d9z (λq=>hj ⟨by rw[q];exact e0g _,by rw[q];omega⟩)]
     ·rw[fT]
      exact hn.less λj hj=>⟨hj.1,λq=>hj.2 ⟨by rw[q];exact e0g _,by rw[q];omega⟩⟩
  ·exact .inl rfl
 ·exact .inl rfl
end
set_option linter.unusedVariables false
theorem d3k {a b:IntKind}(h:Nat.beq (kN a) (kN b)=true):a=b:=by
 have h:=d9s h
 cases a<;>cases b<;>first|rfl|(exact absurd h (by decide))
theorem c7n {a b:Value}(h:eqZ a b=true):a=b:=by
 unfold eqZ at h
 split at h<;>first|(split at h<;>first|rfl|cases h)|cases h
theorem lK {f:V->V->Bool}(hf:∀a b,f a b=true->a=b):∀{l m:List V},b7j f l m=true->l=m
 |[],[],_=>rfl
 |x::l,y::m,h=>by
  have h:(f x y&&b7j f l m)=true:=h
  rw[e0d]at h
  rw[hf _ _ h.1,lK hf h.2]
 |[],_::_,h=>by cases h
 |_::_,[],h=>by cases h
theorem yC:∀(n:Nat) (a b:V),eqV n a b=true->a=b
 |0,_,_,h=>by cases h
 |n+1,a,b,h=>by
  have ih:=yC n
  unfold eqV at h
  cases a<;>cases b<;>first|(cases h;done)|skip
  all_goals simp only[e0d]at h
  case i.i=>rw[d3k h.1,e2u ((kE _ _).symm.trans h.2)]
  case b.b x y=>cases x<;>cases y<;>first|rfl|cases h
  case z.z=>rw[c7n h]
  case p.p=>rw[bI.1 h.1,d9s h.2]
  case s.s=>rw[bI.1 h.1,d9s h.2.1,d9s h.2.2.1,d9s h.2.2.2.1,d9s h.2.2.2.2]
  case m.m=>rw[bI.1 h]
  case f.f=>rw[d9s h.1,lK ih h.2.1,lK ih h.2.2]
  case a.a=>rw[lK ih h]
  case t.t=>rw[lK ih h]
theorem c0k:∀{l m:Es},eqE l m=true->l=m
 |[],[],_=>rfl
 |x::l,y::m,h=>by
  have h:(kq x.1 y.1&&(eqV 9 x.2 y.2&&eqE l m))=true:=h
  simp only[e0d]at h
  rw[c0k h.2.2,Prod.ext (e2u ((fG _ _).symm.trans h.1)) (yC _ _ _ h.2.1)]
 |[],_::_,h=>by cases h
 |_::_,[],h=>by cases h
theorem c7m {a b:Option (Id×Option (List Int))}(h:eqP a b=true):a=b:=by
 unfold eqP at h
 split at h
 ·rfl
 ·rw[bI.1 h]
 ·rw[e0d]at h
  rw[bI.1 h.1,e2u ((fG _ _).symm.trans h.2)]
 ·cases h
theorem c7l {a b:O}(h:eqO a b=true):a=b:=by
 unfold eqO at h
 split at h
 ·split at h
  ·rw[lK (yC 9) h]
  ·cases h
 ·split at h
  ·simp only[e0d]at h
   rw[d9s h.1,c0k h.2.1,c7m h.2.2]
  ·cases h
 ·cases h
theorem vZ {h:Hp}:∀{l:List (Id×O)},c0o l h=true->∀e,e∈l->geH h e.1=some e.2
 |[],_,e,he=>by cases he
 |e'::l,hb,e,he=>by
  have hb:ifS (geH h e'.1) false (λo=>bif eqO o e'.2 then c0o l h else false)=true:=hb
  cases ho:geH h e'.1 with
  |none=>rw[ho]at hb;cases hb
  |some o=>
   rw[ho]at hb
   have hb:(bif eqO o e'.2 then c0o l h else false)=true:=hb
   cases hq:eqO o e'.2 with
   |false=>rw[hq]at hb;cases hb
   |true=>
    rw[hq]at hb
    rcases e0b.1 he with rfl|he
    ·rw[ho,c7l hq]
    ·exact vZ hb e he
theorem a3h:∀(l:List (Id×O)) (h:Hp) (K:Hp->Res),∃h',c4n l h K=K h'/\(∀id,(∀e,e∈l->e.1≠id)->geH h' id=geH h id)/\∀id x,geH h' id=some x->(id,x)∈l\/((∀e,e∈l->e.1≠id)/\geH h id=some x)
 |[],h,K=>⟨h,rfl,λ_ _=>rfl,λid x hx=> .inr ⟨λe he=>(by cases he),hx⟩⟩
 |e::l,h,K=>by
  have e0:c4n (e::l) h K=stH h e.1 (some e.2) λh=>c4n l h K:=rfl
  rw[e0,dH]
  obtain⟨h',e1,e2,e3⟩:=a3h l (eK h e.1 (some e.2)) K
  refine⟨h',e1,λid hid=>?_,λid x hx=>?_⟩
  ·rw[e2 id λe he=>hid e (d9v _ he),a8c,d9z (λq=>hid e (d9y ..) q.symm)]
  ·rcases e3 id x hx with q|⟨q1,q2⟩
   ·exact .inl (d9v _ q)
   ·rw[a8c]at q2
    by_cases hq:id=e.1
    ·rw[e0c hq]at q2
     cases q2
     exact .inl (by rw[hq];exact d9y ..)
    ·rw[d9z hq]at q2
     refine .inr ⟨λe' he'=>?_,q2⟩
     rcases e0b.1 he' with rfl|he'
     ·exactλq=>hq q.symm
     ·exact q1 e' he'
def dO (P:Program)(o:Oc):Prop:=o.lo.num<=o.hi.num/\(∀e,e∈o.out->Rg o.lo.num o.hi.num e.1)/\∃h0 h1:Hf,(∀id x,h0 id=some x->(id,x)∈o.inp)/\(∀e,e∈o.out->h1 e.1=some e.2)/\(∀id x,h0 id=some x->h1 id=some x)/\GTr P (λE=>E=Vl.z) o.g o.args o.lo.num o.hi.num h0 o.v h1
theorem c1b {P:Program}{lm:Lm}(hfl:lm.fl=none){g:Nat}{args:List V}{h:Hp}{nx:Id}(K:Kv)(R:Res):∀{l:List Oc},(∀o,o∈l->dO P o)->orc l g args h nx K R=R\/
  ∃v h' nx',orc l g args h nx K R=K v h' nx'/\nx.num<=nx'.num/\fA lm nx.num nx'.num (geH h) (geH h')/\GTr P (EKf lm) g args nx.num nx'.num (geH h) v (geH h')
 |[],_=> .inl rfl
 |o::l,hl=>by
  have e0:orc (o::l) g args h nx K R=bif ocB o g args h nx then c4n o.out h λh=>K o.v h o.hi else orc l g args h nx K R:=rfl
  rw[e0]
  cases hb:ocB o g args h nx with
  |false=>exact c1b hfl K R λo ho=>hl o (d9v _ ho)
  |true=>
   unfold ocB at hb
   simp only[e0d]at hb
   obtain⟨b1,b2,b3,b4⟩:=hb
   have b1:=d9s b1
   have b2:nx.num<=o.lo.num:=aL.1 b2
   have b3:=lK (yC 9) b3
   have b4:=vZ b4
   obtain⟨o1,o2,h0,h1,o3,o4,o5,o6,o7⟩:=hl o (d9y ..)
   obtain⟨h',e1,e2,e3⟩:=a3h o.out h λh=>K o.v h o.hi
   have hin:∀id x,h0 id=some x->geH h id=some x:=λid x hx=>b4 _ (o3 id x hx)
   refine .inr ⟨o.v,h',o.hi,e1,by omega,λid x hr hx _=>?_,by rw[b1];exact o6,λE Ow ρ Fr l k W us hE hus hh hfr hsp=>?_⟩
   ·rw[e2 id λe he q=>hr (by rw[<-q];exact⟨by have:=(o2 e he).1;omega,(o2 e he).2⟩)];exact hx
   ·obtain⟨Ow1,q1,q2,q3⟩:=hh.frame hin
    obtain⟨sp,sp1,sp2⟩:=hsp
    have hfresh:∀id,Rg o.lo.num o.hi.num id->geH h id=none:=λid hid=>by
     cases hx:geH h id with
     |none=>rfl
     |some x=>
      obtain⟨l,r1,_⟩:=hh.obj id x hx
      rw[hh.fr id (hfr id ⟨by have:=hid.1;omega,hid.2⟩)]at r1
      cases r1
    rw[b1]
    rw[b3]at hus
    refine(o7 E Ow1 ρ Fr l k W us (hE hfl) hus q2 (λid hid=>hfr id ⟨by have:=hid.1;omega,hid.2⟩) ⟨sp,sp1,λq=>sp2 ⟨by have:=q.1;omega,q.2⟩⟩).mono ?_
    rintro e' W' ⟨w,rfl,ρ',p1,p2,p3,p4⟩
    classical
    have hf:=q3 ρ' h1 _ W' (λid=>decide (h0 id=none/\¬Rg o.lo.num o.hi.num id)) p1.le p3 p4 (λid hid=>(e2u hid).1)
    refine⟨w,rfl,ρ',⟨p1.le,λid hid=>p1.out id λq=>hid ⟨by have:=q.1;omega,q.2⟩⟩,p2,?_,p4.mono q1⟩
    refine HR.less (HR.forget hf (λid x hx=>?_)) λj hj=>⟨hj.1,λq=>hj.2 ⟨by have:=q.1;omega,q.2⟩⟩
    show(bif decide (h0 id=none/\¬Rg o.lo.num o.hi.num id)then geH h id else h1 id)=some x
    rcases e3 id x hx with q|⟨z1,z2⟩
    ·have hr:=o2 _ q
     rw[e1o (λy=>y.2 hr)]
     exact o4 _ q
    ·cases h0i:h0 id with
     |some y=>
      rw[e1o (λy=>by cases y.1)]
      have:=hin id y h0i
      rw[z2]at this;cases this
      exact o5 id _ h0i
     |none=>
      by_cases hr:Rg o.lo.num o.hi.num id
      ·rw[hfresh id hr]at z2;cases z2
      ·rw[e1r ⟨rfl,hr⟩]
       exact z2
structure HsOk (P:Program)(hs:Hs):Prop where
  cl:∀g,g∈hs.cl->a1f P g
  oc:∀o,o∈hs.oc->dO P o
set_option linter.unusedVariables false
theorem c0v {l:List Nat}{n:Nat}(h:ltL l n=true):∀p,p∈l->p<n:=by
 unfold ltL at h
 rw[e1d]at h
 exactλp hp=>aL.1 (h p hp)
theorem xJ (ps:Array Nat)(us:List Value)(t:Array Value):(ps.zip us.toArray).foldl (λtmps (p:Nat×Value)=>match p with|(t,a)=>tmps.setIfInBounds t a) t=(ps.toList.zip us).foldl (λt p=>t.setIfInBounds p.1 p.2) t:=by
 rw[<-e6r,Array.toList_zip]
theorem a6g:∀(ps:List Nat) (tm:Tm) (args:List V) (K:Tm->Res),b4u ps tm args .no K= .no\/∃tm',b4u ps tm args .no K=K tm'/\args.length=ps.length/\
  ∀(E:Vl) (ρ:Rh) (n:Nat) (tmps:Array Value) (us:List Value),n<=512->(∀p,p∈ps->p<n)->RT E ρ n (tmF tm) tmps->RVs E ρ args us->RT E ρ n (tmF tm') ((ps.zip us).foldl (λt p=>t.setIfInBounds p.1 p.2) tmps)
 |[],tm,[],K=> .inr ⟨tm,rfl,rfl,λE ρ n tmps us _ _ h _=>h⟩
 |[],tm,_::_,K=> .inl rfl
 |p::ps,tm,[],K=> .inl rfl
 |p::ps,tm,v::args,K=>by
  have e0:b4u (p::ps) tm (v::args) .no K=wtT p v tm λtm=>b4u ps tm args .no K:=rfl
  rw[e0,lF]
  rcases a6g ps (stT p v tm) args K with e1|⟨tm',e1,e2,e3⟩
  ·exact .inl e1
  ·refine .inr ⟨tm',e1,by rw[e0r,e0r,e2],λE ρ n tmps us hn hp ht hv=>?_⟩
   obtain⟨u,r,rfl,h1,h2⟩:=hv
   have hpn:=hp p (d9y ..)
   refine e3 E ρ n (tmps.setIfInBounds p u) r hn (λq hq=>hp q (d9v _ hq)) ?_ h2
   obtain⟨tm2,k1,k2⟩:=jT (d:=some p) (v:=v) (tm:=tm) (λt ht=>by cases ht;omega) (λt:Tm=>t)
   have k1:stT p v tm=tm2:=(lF p v tm λt:Tm=>t).symm.trans k1
   rw[k1,k2]
   exact RT.put (a:=⟨tmps,[]⟩) (d:=some p) ht (λt ht=>by cases ht;exact hpn) h1
theorem HR.lp {E:Vl}{Ow:Nat->Prop}{ρ:Rh}{h:Hf}{Fr:Id->Prop}{W:World}(hh:HR E Ow ρ h Fr W){l:Id}{q:Lc}{tm:Tm}{ps:List Nat}{a b:Code}{st:Nat}{pd:Option Ex}{gn:Nat×Nat}(ho:h l=some (.lp tm ps a b st pd gn))(hq:ρ l=some q):
  ∃L,W.heap[q.b]?=some (.loop L)/\L.state=c1l st/\L.pending=pd.map exC/\∀(st':Nat) (pd':Option Ex),HR E Ow ρ (upH h l (some (.lp tm ps a b st' pd' gn))) Fr (W.putObj q.b (.loop {L with state:=c1l st',pending:=pd'.map exC}))/\Gr Ow W (W.putObj q.b (.loop {L with state:=c1l st',pending:=pd'.map exC})):=by
 obtain⟨q',r1,r2,r3,fn,tmps,D,hb,hrs⟩:=hh.obj l _ ho
 rw[hq]at r1;cases r1
 refine⟨_,hb,rfl,rfl,λst' pd'=>⟨hh.set (by rw[ho];simp) hq (λb hb=>e1x hb) (e2t ..) ⟨fn,tmps,D,e2z r3,hrs⟩,⟨rfl,rfl,rfl,by rw[e2t];exact e0g _,λb _ hb=>e1x λe=>hb (by rw[e];exact r2)⟩⟩⟩
section
variable {P:Program} {hs:Hs} {ih:Ih}
theorem c0c (hR:vC P ih){lm:Lm}{l:Id}{args:List V}{h:Hp}{nx:Id}(K:Kv):b6u ih lm l args h nx K= .no\/
  ∃v h' nx',b6u ih lm l args h nx K=K v h' nx'/\nx.num<=nx'.num/\fA lm nx.num nx'.num (geH h) (geH h')/\CvT P (EKf lm) (.y l) args nx.num nx'.num (geH h) v (geH h'):=by
 unfold b6u
 split
 ·rename_i tm ps a b pd gn hob
  cases hc:(may lm h nx l&&(Nat.ble gn.2 512&&ltL ps gn.2))with
  |false=>exact .inl rfl
  |true=>
   simp only[e0d]at hc
   obtain⟨hmay,hgn,hps⟩:=hc
   have hgn:=aL.1 hgn
   have hps:=c0v hps
   have hnp:=λ(hi:Nat) (hh:nx.num<=hi)=>zB hmay hob hh
   simp only[e0q]
   rcases a6g ps tm args (λtm'=>ifR (ih ⟨lm,gn.1,gn.2,some l⟩ a tm' h nx) .no (c7d ih ⟨lm,gn.1,gn.2,some l⟩ l b K))with e1|⟨tm',e1,e2,e3⟩
   ·exact .inl e1
   ·rw[e1]
    cases hr1:ih ⟨lm,gn.1,gn.2,some l⟩ a tm' h nx with
    |no=>exact .inl rfl
    |ok x1 tm1 h1 nx1=>
     obtain⟨q1,q2,q3,q4⟩:=hR _ _ _ _ _ _ _ _ _ hgn hr1
     have e4:ifR (.ok x1 tm1 h1 nx1) .no (c7d ih ⟨lm,gn.1,gn.2,some l⟩ l b K)=c7d ih ⟨lm,gn.1,gn.2,some l⟩ l b K x1 tm1 h1 nx1:=rfl
     rw[e4]
     unfold c7d
     split
     ·rename_i tm2 ps2 a2 b2 pd2 gn2 hob1
      rw[dH]
      cases hr2:ih ⟨lm,gn.1,gn.2,some l⟩ b tm1 (eK h1 l (some (.lp tm2 ps2 a2 b2 1 pd2 gn2))) nx1 with
      |no=>exact .inl rfl
      |ok x3 tm3 h3 nx3=>
       obtain⟨r1,r2,r3,r4⟩:=hR _ _ _ _ _ _ _ _ _ hgn hr2
       have hnp1:∀(hi:Nat) o,nx.num<=hi->tG o=false->¬Prt lm hi l o:=λhi o hh ho hp=>hnp hi hh (hp.imp (λq=>q) λ⟨f,z1,z2,_⟩=>⟨f,z1,z2,rfl⟩)
       have hset:∀(lo hi:Nat) (hx:Hp) (o o':O),nx.num<=hi->geH hx l=some o->tG o=false->fA lm lo hi (geH hx) (geH (eK hx l (some o'))):=by
        intro lo hi hx o o' hh ho hlg id ob _ hid hp
        rw[a8c]
        by_cases e:id=l
        ·subst e;rw[ho]at hid;cases hid;exact absurd hp (hnp1 _ _ hh hlg)
        ·rw[d9z e];exact hid
       have e5:ifR (.ok x3 tm3 h3 nx3) .no (d1o l K)=d1o l K x3 tm3 h3 nx3:=rfl
       rw[e5]
       unfold d1o
       split
       ·rename_i tm4 ps4 a4 b4 pd4 gn4 hob3
        have key:∀(v:Bool) (st':Nat) (pd':Option Ex) (jump:Option Code),(pd'.map exC=jump)->(c1l st'=if jump.isNone then .ready else .done)->v=jump.isNone->(x3= .normal/\jump=none\/x3= .ret/\jump=some .ret\/∃i,x3= .exit i/\jump=some (.exit i))->
          ∀r:Res,r=K (.b v) (eK h3 l (some (.lp tm4 ps4 a4 b4 st' pd' gn4))) nx3->r= .no\/∃v h' nx',r=K v h' nx'/\nx.num<=nx'.num/\fA lm nx.num nx'.num (geH h) (geH h')/\CvT P (EKf lm) (.y l) args nx.num nx'.num (geH h) v (geH h'):=by
         rintro v st' pd' jump hj1 hj2 hj3 hjx r rfl
         refine .inr ⟨_,_,nx3,rfl,by omega,?_,?_⟩
         ·exact(q2.trans ((hset nx1.num nx1.num h1 _ _ q1 hob1 rfl).trans r2 (e0g _) r1) q1 r1).trans (hset nx3.num nx3.num h3 _ _ (by omega) hob3 rfl) (by omega) (e0g _)
         ·intro E Ow ρ Fr l0 k W u us R hE hu hus hh hfr hsp hq
          obtain⟨q,hq0,rfl⟩:=hu
          obtain⟨q',s1,s2,s3,fn,tmps,D,hb,hrs⟩:=hh.obj l _ hob
          rw[hq0]at s1;cases s1
          have hlen:us.length=ps.length:=by rw[hus.length,e2]
          refine⟨.round q.b fn ((ps.toArray.zip us.toArray).foldl (λtmps (p:Nat×Value)=>match p with|(t,a)=>tmps.setIfInBounds t a) tmps) a b,W,?_,?_⟩
          ·simp only[Deferred.ofValue,d9t,d9u,d9q,invoke]
           rw[show(#[]++us.toArray:Array Value)=us.toArray by simp,run_yield hb (by simpa using hlen)]
          ·rw[xJ]
           have hrt:=e3 E ρ gn.2 tmps us hgn hps hrs.rt hus
           obtain⟨sp,sp1,sp2⟩:=hsp
           have hround:RoundIn (Fw none) 0 P q.b fn ((ps.zip us).foldl (λt p=>t.setIfInBounds p.1 p.2) tmps) a b W λe W'=>∃v,e= .returned v/\R v W':=by
            refine roundIn_of_wpIn trivial ?_
            show a.wpIn (Fw (some q.b)) 0 P _ _ W
            refine e7d (q4 E Ow ρ Fr (some q.b) 0 _ W hE ⟨q,hq0,rfl⟩ (λid z=>hfr id ⟨z.1,by have:=z.2;omega⟩) ⟨sp,sp1,λz=>sp2 ⟨z.1,by have:=z.2;omega⟩⟩ ⟨hrt,hh,[],rfl,e4k,λD hD=>(by cases hD)⟩) ?_
            rintro e' a1 W1 ⟨rfl,Ow1,ρ1,p1,p2,p3,p4,p5⟩
            have hq1:=p2.le _ _ hq0
            obtain⟨L1,b1,b2,b3,b4⟩:=p3.hr.lp hob1 hq1
            obtain⟨c1,c2⟩:=b4 1 pd2
            refine⟨W1.putObj q.b (.loop {L1 with state:= .busy}),run_beginRound b1 b2,?_⟩
            have hLe:({L1 with state:=c1l 1,pending:=pd2.map exC}:Loop)={L1 with state:= .busy}:=by rw[<-b3];rfl
            rw[hLe]at c1 c2
            rw[<-fT]at c1
            show b.wpIn (Fw (some q.b)) 0 P _ _ _
            refine e7d (r4 E Ow1 ρ1 (λid=>Fr id/\¬Rg nx.num nx1.num id) (some q.b) 0 a1 _ hE ⟨q,hq1,rfl⟩ (λid z=>⟨hfr id ⟨by have:=z.1;omega,z.2⟩,λy=>by have:=z.1;have:=y.2;omega⟩) ⟨sp,⟨sp1,λz=>sp2 ⟨z.1,by have:=z.2;omega⟩⟩,λz=>sp2 ⟨by have:=z.1;omega,z.2⟩⟩ ⟨p3.rt,c1,mL p3.df (λ_ z=>z) c2⟩) ?_
            rintro e' a3 W3 ⟨rfl,Ow3,ρ3,t1,t2,t3,t4,t5⟩
            have hq3:=t2.le _ _ hq1
            obtain⟨L3,d1,d2,d3,d4⟩:=t3.hr.lp hob3 hq3
            obtain⟨f1,f2⟩:=d4 st' pd'
            have hfin:∃v w',(Instr.endRound q.b jump).run P W3= .ok v w'/\∃u,Ending.returned v=Ending.returned u/\R u w':=by
             refine⟨_,_,run_endRound jump d1,_,rfl,?_⟩
             have hLe3:({L3 with state:=c1l st',pending:=pd'.map exC}:Loop)={L3 with state:=if jump.isNone then .ready else .done,pending:=jump}:=by rw[hj1,hj2]
             rw[hLe3]at f1 f2
             rw[<-fT]at f1
             have hup:∀b,b<W.heap.size\/Ow b:=λb=>by
              rcases e4r b W.heap.size with z|z
              ·exact .inl z
              ·exact .inr (hh.up b z)
             have hgr:Gr Ow W (W3.putObj q.b (.loop {L3 with state:=if jump.isNone then .ready else .done,pending:=jump})):=(p4.trans (c2.mono p1)).trans ((t4.mono p1).trans (f2.mono λb z=>p1 b (t1 b z)))
             refine hq _ _ ⟨ρ3,p2.trans t2 ⟨e0g _,r1⟩ ⟨q1,e0g _⟩,by rw[hj3];rfl,?_,hgr⟩
             refine(f1.weak (Ow':=Ow) (λid l' _ _ z=>p1 _ (t1 _ z)) λb hb=>hh.up b (e2h hgr.size hb)).less λj hj=>?_
             exact⟨⟨hj.1,λz=>hj.2 ⟨z.1,by have:=z.2;omega⟩⟩,λz=>hj.2 ⟨by have:=z.1;omega,z.2⟩⟩
            rcases hjx with⟨rfl,rfl⟩|⟨rfl,rfl⟩|⟨i,rfl,rfl⟩<;>exact hfin
           exact⟨trivial,λc cs _=>hround.2 c cs (room_wide _)⟩
        split
        ·rw[dH]
         exact key true 0 none none rfl rfl rfl (.inl ⟨rfl,rfl⟩) _ rfl
        ·rename_i hne
         rw[dH]
         cases x3 with
         |normal=>exact absurd rfl hne
         |ret=>exact key false 2 (some .ret) (some .ret) rfl rfl rfl (.inr (.inl ⟨rfl,rfl⟩)) _ rfl
         |exit i=>exact key false 2 (some (.exit i)) (some (.exit i)) rfl rfl rfl (.inr (.inr ⟨i,rfl,rfl⟩)) _ rfl
       ·exact .inl rfl
     ·exact .inl rfl
 ·exact .inl rfl
theorem c2l (hR:vC P ih)(hcl:HsOk P hs):qJ P hs ih:=by
 intro lm f args h nx K
 unfold iZ
 split
 ·rename_i g fs cs
  have hof:∀(A C:Array Value) (us:List Value) (W:World),(Deferred.ofValue (.func (.func g) A C) us.toArray >>= λd=>invoke d.target d.args:Sem Next).run P W=(callFunc g (A.toList++(us++C.toList)).toArray).run P W:=by
   intro A C us W
   simp only[Deferred.ofValue,d9t,d9u,d9q,invoke]
   rw[show(A++us.toArray++C:Array Value)=(A.toList++(us++C.toList)).toArray by simp]
  have hrv:∀{E:Vl} {ρ:Rh} {A C:Array Value} {us:List Value},RVs E ρ fs A.toList->RVs E ρ cs C.toList->RVs E ρ args us->RVs E ρ (eH fs (eH args cs)) (A.toList++(us++C.toList)):=by
   intro E ρ A C us h1 h2 h3
   rw[jE,jE];exact h1.app (h3.app h2)
  have hold:gA P hs ih lm g (eH fs (eH args cs)) h nx K= .no\/∃v h' nx',gA P hs ih lm g (eH fs (eH args cs)) h nx K=K v h' nx'/\nx.num<=nx'.num/\fA lm nx.num nx'.num (geH h) (geH h')/\CvT P (EKf lm) (.f g fs cs) args nx.num nx'.num (geH h) v (geH h'):=by
   cases hc:b6w P g with
   |some fi=>
    rcases b7r (hs:=hs) hR (lm:=lm) hc (args:=eH fs (eH args cs)) (h:=h) (nx:=nx) K with e|⟨v,h',nx',e,q1,q2,q3,q4⟩
    ·exact .inl e
    ·refine .inr ⟨v,h',nx',e,q1,q2,λE Ow ρ Fr l k W u us R hE hu hus hh hfr hsp hq=>?_⟩
     obtain⟨A,C,rfl,hA,hC⟩:=hu
     refine⟨.enter g (A.toList++(us++C.toList)).toArray,W,(hof A C us W).trans (q3 _ W),?_⟩
     exact(q4 E Ow ρ Fr l k W _ hE (hrv hA hC hus) hh hfr hsp).mono λe W' ⟨w,z1,z2⟩=>⟨w,z1,hq w W' z2⟩
   |none=>
    have e0:gA P hs ih lm g (eH fs (eH args cs)) h nx K=bif lN g hs.cl then clone (eH fs (eH args cs)) h nx K else .no:=by
     unfold gA
     rw[hc];rfl
    rw[e0]
    cases hm:lN g hs.cl with
    |false=>exact .inl rfl
    |true=>
     simp only[e0q]
     rcases pT (hcl.cl g (eS.1 hm)) (lm:=lm) (args:=eH fs (eH args cs)) (h:=h) (nx:=nx) K with e|⟨v,h',nx',e,q1,q2,_,q3⟩
     ·exact .inl e
     ·refine .inr ⟨v,h',nx',e,q1,q2,λE Ow ρ Fr l k W u us R hE hu hus hh hfr hsp hq=>?_⟩
      obtain⟨A,C,rfl,hA,hC⟩:=hu
      obtain⟨w,W',z1,z2⟩:=q3 E Ow ρ Fr W _ (hrv hA hC hus) hh hfr
      exact⟨.value w,W',(hof A C us W).trans z1,hq w W' z2⟩
  cases hfl:isN lm.fl with
  |false=>exact hold
  |true=>
   have hfl:lm.fl=none:=by cases hq:lm.fl with
    |none=>rfl
    |some n=>rw[hq]at hfl;cases hfl
   rcases c1b hfl (g:=g) (args:=eH fs (eH args cs)) (h:=h) (nx:=nx) K (gA P hs ih lm g (eH fs (eH args cs)) h nx K) hcl.oc with e|⟨v,h',nx',e,q1,q2,q3,q4⟩
   ·exact e.symm▸hold
   ·refine .inr ⟨v,h',nx',e,q1,q2,λE Ow ρ Fr l k W u us R hE hu hus hh hfr hsp hq=>?_⟩
    obtain⟨A,C,rfl,hA,hC⟩:=hu
    refine⟨.enter g (A.toList++(us++C.toList)).toArray,W,(hof A C us W).trans (q3 _ W),?_⟩
    exact(q4 E Ow ρ Fr l k W _ hE (hrv hA hC hus) hh hfr hsp).mono λe W' ⟨w,z1,z2⟩=>⟨w,z1,hq w W' z2⟩
 ·exact c0c hR K
 ·exact .inl rfl
end
set_option linter.unusedVariables false
theorem eA.after {P:Program}{EK:Vl->Prop}{c:Code}{n lo mi hi:Nat}{ro:Option Id}{τ1 τ2:Nat->V}{h1 h2:Hf}{x:Ex}(hc:eA P EK c n ro τ1 h1 mi hi x τ2 h2){E:Vl}{Ow:Nat->Prop}{ρ:Rh}{Fr:Id->Prop}{r:Option Nat}{k:Nat}{a a1:Act}{W W1:World}(hE:EK E)(hro:RoK ro ρ r)(hfr:∀id,Rg lo hi id->Fr id)(hsp:∃sp,Fr sp/\¬Rg lo hi sp)
  (hp:Po E Ow ρ Fr W n lo mi τ1 h1 a a1 W1) (l1:lo<=mi) (l2:mi<=hi):c.wpIn (Fw r) k P (λe a' W'=>e=exE x/\Po E Ow ρ Fr W n lo hi τ2 h2 a a' W') a1 W1:=by
 obtain⟨Ow1,ρ1,p1,p2,p3,p4,p5⟩:=hp
 obtain⟨sp,s1,s2⟩:=hsp
 refine e7d (hc E Ow1 ρ1 _ r k a1 W1 hE (hro.le p2.le) (λid z=>⟨hfr id ⟨by have:=z.1;omega,z.2⟩,λy=>by have:=z.1;have:=y.2;omega⟩) ⟨sp,⟨s1,λz=>s2 ⟨z.1,by have:=z.2;omega⟩⟩,λz=>s2 ⟨by have:=z.1;omega,z.2⟩⟩ p3) ?_
 rintro e a' W' ⟨rfl,hp'⟩
 exact⟨rfl,Po.trans p1 p2 p4 p5 hp' l1 l2⟩
theorem Po.refl {E:Vl}{Ow:Nat->Prop}{ρ:Rh}{Fr:Id->Prop}{W:World}{n lo hi:Nat}{τ:Nat->V}{h:Hf}{a:Act}(hs:SR E Ow ρ n τ h Fr a W):Po E Ow ρ Fr W n lo hi τ h a a W:=⟨Ow,ρ,λ_ q=>q,Nm.refl _ _ _,hs.less λ_ q=>q.1,Gr.refl _ _,Dm.of_eq rfl⟩
theorem a3y {F:Fence}{n:Nat}{P:Program}{Q:Exit->Act->World->Prop}{a:Act}{w:World}{c:Code}(h:c.wpIn F n P (Exit.noGoto Q) a w):(Code.scope c).wpIn F n P Q a w:=by
 intro b k cs hro hb hr
 have h0:(lone (b.atR a (.code (.scope c)::k)) cs w).fenced P F:=e7j hb hr rfl
 have st1:step P (lone (b.atR a (.code (.scope c)::k)) cs w)= .next (lone (b.atR a (.code c:: .inScope c::k)) cs w):=step_lone_go (by simp[stepG,stepG.exec,Frame.atR])
 obtain⟨e,a₁,w₁,hq,harr⟩:=h b (.inScope c::k) cs hro hb hr
 cases e with
 |normal=>exact⟨.normal,a₁,w₁,hq,.head h0 st1 (StepsIn.trans harr (.one (e7j hb hr rfl) (step_lone_go (by simp[stepG,stepG.exec,Frame.atR]))))⟩
 |exit id'=>
  have hx:exitTo id' (.inScope c::k)=exitTo id' k:=by simp[exitTo]
  exact⟨.exit id',a₁,w₁,hq,λk' hk=> .head h0 st1 (harr.1 k' (by rw[hx];exact hk)),
   λhr' hk=>let⟨k₁,h1,h2⟩:=harr.2 hr' (by rw[hx];exact hk);⟨k₁,h1,.head h0 st1 h2⟩⟩
 |goto l=>exact hq.elim
 |ret=>exact⟨_,a₁,w₁,hq,.of_steps (.one h0 st1) harr⟩
 |panic ch=>exact⟨_,a₁,w₁,hq,.of_steps (.one h0 st1) harr⟩
 |outgrown=>exact⟨_,a₁,w₁,hq,.of_steps (.one h0 st1) harr⟩
theorem nH {F:Fence}{n:Nat}{P:Program}{Q:Exit->Act->World->Prop}{a:Act}{w:World}{c:Code}{ι:Type}(I:ι->Act->World->Prop)(μ:ι->Nat)(i0:ι)(h₀:I i0 a w)
  (round:∀i a w,I i a w->c.wpIn F n P (Exit.then (λa' w'=>∃i',I i' a' w'/\μ i'<μ i) Q) a w):(Code.loop c).wpIn F n P Q a w:=by
 intro b k cs hro hb hr
 have key:∀j i a w,μ i=j->I i a w->
   ∃e a' w',Q e a' w'/\ArrivesIn (Machine.fenced P F) P (lone (b.atR a (.code c:: .inLoop c::k)) cs w) b k cs e a' w':=by
  intro j
  induction j using Nat.strongRecOn with
  |_ j ih=>
   intro i a w hn hI
   obtain⟨e,a₁,w₁,hq,harr⟩:=round i a w hI b (.inLoop c::k) cs hro hb hr
   cases e with
   |normal=>
    obtain⟨i',hI₁,hlt⟩:=hq
    obtain⟨e₂,a₂,w₂,hq₂,harr₂⟩:=ih (μ i') (hn▸hlt) i' a₁ w₁ rfl hI₁
    exact⟨e₂,a₂,w₂,hq₂,.of_steps (StepsIn.trans harr (.one (e7j hb hr rfl) stepR_inLoop)) harr₂⟩
   |exit id=>exact⟨_,a₁,w₁,hq,.pass (x:= .inLoop c) rfl (λ_ _=> .inl (by simp)) harr⟩
   |goto l=>exact⟨_,a₁,w₁,hq,.pass (x:= .inLoop c) rfl (λ_ _=> .inl (by simp)) harr⟩
   |ret=>exact⟨_,a₁,w₁,hq,.pass (x:= .inLoop c) rfl (λ_ _=> .inl (by simp)) harr⟩
   |panic ch=>exact⟨_,a₁,w₁,hq,.pass (x:= .inLoop c) rfl (λ_ _=> .inl (by simp)) harr⟩
   |outgrown=>exact⟨_,a₁,w₁,hq,.pass (x:= .inLoop c) rfl (λ_ _=> .inl (by simp)) harr⟩
 obtain⟨e,a',w',hq,harr⟩:=key _ i0 a w rfl h₀
 exact⟨e,a',w',hq,.of_steps (.one (e7j hb hr rfl) stepR_loop) harr⟩
inductive Lps (P:Program) (EK:Vl->Prop) (c:Code) (n:Nat) (ro:Option Id) (x:Ex) (τE:Nat->V) (hE:Hf) (hi:Nat):(Nat->V)->Hf->Nat->Nat->Prop
  |out {τ:Nat->V} {h:Hf} {lo:Nat} (hc:eA P EK c n ro τ h lo hi x τE hE) (hx:x≠ .normal) (l1:lo<=hi):Lps P EK c n ro x τE hE hi τ h lo 0
  |more {τ τ1:Nat->V} {h h1:Hf} {lo mi m:Nat} (hc:eA P EK c n ro τ h lo mi .normal τ1 h1) (l1:lo<=mi) (l2:mi<=hi) (hl:Lps P EK c n ro x τE hE hi τ1 h1 mi m):Lps P EK c n ro x τE hE hi τ h lo (m+1)
theorem Lps.tr {P:Program}{EK:Vl->Prop}{c:Code}{n:Nat}{ro:Option Id}{x:Ex}{τE:Nat->V}{hE:Hf}{hi lo m:Nat}{τ:Nat->V}{h:Hf}(hl:Lps P EK c n ro x τE hE hi τ h lo m):eA P EK (.loop c) n ro τ h lo hi x τE hE:=by
 intro E Ow ρ Fr r k a W hE' hro hfr hsp hs
 refine nH (ι:=(Nat->V)×Hf×Nat×Nat) (λi a1 W1=>Lps P EK c n ro x τE hE hi i.1 i.2.1 i.2.2.1 i.2.2.2/\lo<=i.2.2.1/\Po E Ow ρ Fr W n lo i.2.2.1 i.1 i.2.1 a a1 W1) (λi=>i.2.2.2) (τ,h,lo,m) ⟨hl,e0g _,Po.refl hs⟩ ?_
 rintro⟨τ1,h1,mi,m1⟩ a1 W1 ⟨hl1,hle,hp⟩
 cases hl1 with
 |out hc hx l1=>
  refine e7d (hc.after hE' hro hfr hsp hp hle l1) ?_
  rintro e a' W' ⟨rfl,hp'⟩
  cases x with
  |normal=>exact absurd rfl hx
  |ret=>exact⟨rfl,hp'⟩
  |exit i=>exact⟨rfl,hp'⟩
 |more hc l1 l2 hl2=>
  rename_i τ2 h2 mi2 m2
  obtain⟨sp,s1,s2⟩:=hsp
  refine e7d (hc.after hE' hro (λid z=>hfr id ⟨z.1,by have:=z.2;omega⟩) ⟨sp,s1,λz=>s2 ⟨z.1,by have:=z.2;omega⟩⟩ hp hle l1) ?_
  rintro e a' W' ⟨rfl,hp'⟩
  exact⟨(τ2,h2,mi2,m2),⟨hl2,by show lo<=mi2;omega,hp'⟩,Nat.lt_succ_self _⟩
def c0e (P:Program)(ih:Ih):Prop:=∀(cx:Cx) (c:Code) (tm:Tm) (h:Hp) (nx:Id) (e:Ex) (tm':Tm) (h':Hp) (nx':Id),cx.n<=512->mrO c=none->ih cx (.loop c) tm h nx= .ok e tm' h' nx'->
  ∃m,Lps P (EKf cx.lm) c cx.n cx.ro e (tmF tm') (geH h') nx'.num (tmF tm) (geH h) nx.num m
theorem HR.alloc0 {E:Vl}{Ow:Nat->Prop}{ρ:Rh}{h:Hf}{Fr:Id->Prop}{W:World}(hh:HR E Ow ρ h Fr W)(o:Obj):HR E (λb=>Ow b/\b≠W.heap.size) ρ h Fr (W.alloc o):=by
 have hs:(W.alloc o).heap.size=W.heap.size+1:=e4g ..
 refine⟨λid ob hid=>?_,hh.inj,hh.fr,λb hb=>⟨hh.up b (by omega),by omega⟩⟩
 obtain⟨l,r1,r2,r3,r4⟩:=hh.obj id ob hid
 exact⟨l,r1,⟨r2,by omega⟩,by omega,r4.go (e7n _) (e3f W o r3)⟩
theorem HR.drop {E:Vl}{Ow:Nat->Prop}{ρ:Rh}{h:Hf}{Fr:Id->Prop}{W W':World}(hh:HR E Ow ρ h Fr W){id:Id}{q:Lc}(hi:h id≠none)(hq:ρ id=some q)(hW:∀b,b≠q.b->W'.heap[b]?=W.heap[b]?)(hs:W'.heap.size=W.heap.size):HR E Ow ρ (upH h id none) Fr W':=by
 have hne:∀{j:Id} {ob:O},upH h id none j=some ob->j≠id/\h j=some ob:=by
  intro j ob hj
  unfold upH at hj
  split at hj
  ·cases hj
  ·rename_i e;exact⟨e,hj⟩
 have hne2:∀{j:Id},upH h id none j≠none->h j≠none:=by
  intro j hj e
  apply hj;unfold upH;split
  ·rfl
  ·exact e
 refine⟨λj ob hj=>?_,λi j li lj h1 h2=>hh.inj i j li lj (hne2 h1) (hne2 h2),hh.fr,λb hb=>hh.up b (by omega)⟩
 obtain⟨h1,h2⟩:=hne hj
 obtain⟨l,r1,r2,r3,r4⟩:=hh.obj j ob h2
 exact⟨l,r1,r2,by omega,r4.go (e7n _) (hW _ λe=>h1 (hh.inj j id l q (by rw[h2];simp) hi r1 hq e))⟩
section
variable {P:Program} {hs:Hs} {ih:Ih}
theorem d4p (hR:vC P ih)(hcl:HsOk P hs){cx:Cx}{f:Operand}{ps:Array Nat}{as body:Code}{tm:Tm}{h:Hp}{nx:Id}{e:Ex}{tm':Tm}{h':Hp}{nx':Id}(hn:cx.n<=512)(hr:d2c P hs f ps.toList as body ih cx tm h nx= .ok e tm' h' nx'):
  nx.num<=nx'.num/\fA cx.lm nx.num nx'.num (geH h) (geH h')/\tm'=tm/\eA P (EKf cx.lm) (.rangeFunc f ps as body) cx.n cx.ro (tmF tm) (geH h) nx.num nx'.num e (tmF tm') (geH h'):=by
 unfold d2c at hr
 split at hr
 ·rename_i g fs cs hf
  cases hb:(ltL ps.toList cx.n&&roB cx.ro h)with
  |false=>rw[hb]at hr;cases hr
  |true=>
   rw[hb]at hr
   rw[e0d]at hb
   simp only[e0q,dH]at hr
   rw[tW]at hf
   rcases fK nx .no (λnx'=>gA P hs ih cx.lm g (eH fs (.y nx::cs)) (eK h nx (some (.lp tm ps.toList as body 0 none (cx.g,cx.n)))) nx' (c2w nx tm))with e1|⟨nx1,e1,e2⟩
   ·rw[e1]at hr;cases hr
   ·rw[e1]at hr
    cases hc:b6w P g with
    |none=>
     exfalso
     have e0:gA P hs ih cx.lm g (eH fs (.y nx::cs)) (eK h nx (some (.lp tm ps.toList as body 0 none (cx.g,cx.n)))) nx1 (c2w nx tm)=bif lN g hs.cl then clone (eH fs (.y nx::cs)) (eK h nx (some (.lp tm ps.toList as body 0 none (cx.g,cx.n)))) nx1 (c2w nx tm)else .no:=by
      unfold gA
      rw[hc];rfl
     rw[e0]at hr
     cases hm:lN g hs.cl with
     |false=>rw[hm]at hr;cases hr
     |true=>
      rw[hm]at hr
      simp only[e0q]at hr
      rcases pT (hcl.cl g (eS.1 hm)) (lm:=cx.lm) (args:=eH fs (.y nx::cs)) (h:=eK h nx (some (.lp tm ps.toList as body 0 none (cx.g,cx.n)))) (nx:=nx1) (c2w nx tm)with e3|⟨_,_,_,_,_,_,⟨t,id,e3⟩,_⟩
      ·rw[e3]at hr;cases hr
      ·rw[jE]at e3
       cases fs with
       |nil=>cases e3
       |cons x l=>cases l<;>cases e3
    |some fi=>
     rcases b7r (hs:=hs) hR (lm:=cx.lm) hc (args:=eH fs (.y nx::cs)) (h:=eK h nx (some (.lp tm ps.toList as body 0 none (cx.g,cx.n)))) (nx:=nx1) (c2w nx tm)with e3|⟨v,h2,nx2,e3,q1,q2,q3,q4⟩
     ·rw[e3]at hr;cases hr
     ·rw[e3]at hr
      have key:∀(tm2:Tm) (ps2:List Nat) (a2 b2:Code) (st:Nat) (pd:Option Ex) (gn2:Nat×Nat) (x:Ex),geH h2 nx=some (.lp tm2 ps2 a2 b2 st pd gn2)->(st=0/\pd=none/\x= .normal\/st=2/\pd=some x)->e=x->tm'=tm->h'=eK h2 nx none->nx'=nx2->
        nx.num<=nx'.num/\fA cx.lm nx.num nx'.num (geH h) (geH h')/\tm'=tm/\eA P (EKf cx.lm) (.rangeFunc f ps as body) cx.n cx.ro (tmF tm) (geH h) nx.num nx'.num e (tmF tm') (geH h'):=by
       rintro tm2 ps2 a2 b2 st pd gn2 x hob2 hst rfl rfl rfl rfl
       have hnx:Rg nx.num nx'.num nx:=⟨e0g _,by omega⟩
       refine⟨by omega,λid ob hrg hob hp=>?_,rfl,λE Ow ρ Fr r k a W hE hro hfr hsp hsr=>?_⟩
       ·have hne:id≠nx:=λz=>hrg (by rw[z];exact hnx)
        rw[fU _ hne]
        refine q2 id ob (λz=>hrg ⟨by have:=z.1;omega,z.2⟩) ?_ hp
        rw[fU _ hne];exact hob
       ·refine wpIn_rangeFunc λfn _=>?_
        have hFnx:Fr nx:=hfr nx hnx
        have hent:∃(l:Nat) (mk:List Deferred) (W1:World) (Ow1:Nat->Prop) (lc:Lc),(Instr.enterLoop fn a.tmps ps as body r).run P W= .ok (l,mk) W1/\lc.b=l/\(∀b,Ow1 b->Ow b)/\HR E Ow1 (upR ρ nx lc) (upH (geH h) nx (some (.lp tm' ps.toList as body 0 none (cx.g,cx.n)))) (λj=>Fr j/\j≠nx) W1/\Gr Ow W W1/\
          (∃Ds:List Nat,mk++a.defers=Ds.map Px.mark/\Ds.Nodup/\∀D,D∈Ds->¬Ow1 D/\W1.heap[D]?=some (.deferred (some [])))/\Dm Ow a {a with defers:=mk++a.defers}:=by
         have hrs:∀(lc:Lc),RS E (upR ρ nx lc) cx.n tm' a.tmps:=λlc=>(hsr.rt.mono (dN (hsr.hr.fr nx hFnx))).rs hn
         cases hcr:cx.ro with
         |none=>
          rw[hcr]at hro
          have hro:r=none:=hro
          subst hro
          let L0:Loop:={state:= .ready,pending:=none,fn,tmps:=a.tmps,params:=ps,assign:=as,body,defers:=W.heap.size}
          have ha0:=hsr.hr.alloc0 (.deferred (some []))
          have hsz:(W.alloc (.deferred (some []))).heap.size=W.heap.size+1:=e4g ..
          have ha1:=ha0.new (nx:=nx) hFnx (l:=⟨W.heap.size+1,0,0,default,default⟩) (o:= .lp tm' ps.toList as body 0 none (cx.g,cx.n)) (W':=(W.alloc (.deferred (some []))).alloc (.loop L0)) hsz.symm (λb hb=>e3f _ _ hb) (by rw[e4g]) ⟨fn,a.tmps,W.heap.size,by
           have:=e6c (W.alloc (.deferred (some []))) (.loop L0)
           rw[hsz]at this
           exact this,hrs _⟩
          have hg1:Gr Ow W ((W.alloc (.deferred (some []))).alloc (.loop L0)):=⟨rfl,rfl,rfl,by rw[e4g,e4g];omega,λb hb _=>(e3f _ _ (by omega)).trans (e3f _ _ hb)⟩
          refine⟨W.heap.size+1,[Px.mark W.heap.size],_,_,_,run_enterLoop_outer fn a.tmps ps as body,rfl,λb q=>q.1,ha1,hg1,?_,?_⟩
          ·obtain⟨Ds,d1,d2,d3⟩:=hsr.df
           refine⟨W.heap.size::Ds,by rw[d1];rfl,e2b.2 ⟨λhd=>?_,d2⟩,λD hD=>?_⟩
           ·exact absurd (d9w.1 (d3 _ hd).2).1 (e5g _)
           ·rcases e0b.1 hD with rfl|hD
            ·refine⟨λq=>q.2 rfl,(e3f _ _ (by omega)).trans (e6c W _)⟩
            ·have h3:=(d3 D hD).2
             have hlt:=(d9w.1 h3).1
             exact⟨λq=>(d3 D hD).1 q.1,((e3f _ _ (by omega)).trans (e3f _ _ hlt)).trans h3⟩
          ·intro d hd
           rcases e0b.1 hd with rfl|hd
           ·exact .inr ⟨_,rfl,hsr.hr.up _ (e0g _)⟩
           ·exact .inl hd
         |some rr=>
          rw[hcr]at hro hb
          obtain⟨q,hq,rfl⟩:=hro
          have hlp:∃L,W.heap[q.b]?=some (.loop L):=by
           have hb2:=hb.2
           unfold roB at hb2
           simp only at hb2
           split at hb2
           ·rename_i tm0 ps0 a0 b0 st0 pd0 gn0 ho
            obtain⟨L,hL,_⟩:=hsr.hr.lp ho hq
            exact⟨L,hL⟩
           ·cases hb2
          obtain⟨L,hL⟩:=hlp
          let L0:Loop:={state:= .ready,pending:=none,fn,tmps:=a.tmps,params:=ps,assign:=as,body,defers:=L.defers}
          have ha1:=hsr.hr.new (nx:=nx) hFnx (l:=⟨W.heap.size,0,0,default,default⟩) (o:= .lp tm' ps.toList as body 0 none (cx.g,cx.n)) (W':=W.alloc (.loop L0)) rfl (λb hb=>e3f _ _ hb) (e4g ..) ⟨fn,a.tmps,L.defers,e6c W _,hrs _⟩
          have hg1:Gr Ow W (W.alloc (.loop L0)):=⟨rfl,rfl,rfl,by rw[e4g];omega,λb hb _=>e3f _ _ hb⟩
          refine⟨W.heap.size,[],W.alloc (.loop L0),Ow,_,?_,rfl,λb q=>q,ha1,hg1,mL hsr.df (λ_ z=>z) hg1,Dm.of_eq rfl⟩
          unfold Instr.enterLoop
          simp only[d9t,run_getLoop hL,run_newObj_alloc,Result.andThen,d9u]
          rfl
        obtain⟨l,mk,W1,Ow1,lc,hrun,hlb,hOw,hh1,hg1,hmk,hdm⟩:=hent
        have hu:=hsr.rt.ev f
        rw[hf]at hu
        obtain⟨A,C,hfu,hA,hC⟩:=hu
        have hle:Le ρ (upR ρ nx lc):=dN (hsr.hr.fr nx hFnx)
        have hus:RVs E (upR ρ nx lc) (eH fs (.y nx::cs)) (A.toList++(Value.func (.yield l) #[] #[]::C.toList)):=by
         rw[jE]
         exact(RVs.le hle hA).app ⟨_,_,rfl,⟨lc,bL _ _ _,by rw[hlb]⟩,RVs.le hle hC⟩
        rw[<-fT]at hh1
        obtain⟨sp,s1,s2⟩:=hsp
        have hcall:=q4 E Ow1 (upR ρ nx lc) (λj=>Fr j/\j≠nx) r (k-1) W1 _ hE hus hh1 (λid z=>⟨hfr id ⟨by have:=z.1;omega,z.2⟩,λy=>by rw[y]at z;have:=z.1;omega⟩) ⟨sp,⟨s1,λy=>s2 (by rw[y];exact hnx)⟩,λz=>s2 ⟨by have:=z.1;omega,z.2⟩⟩
        refine⟨l,mk,W1,{target:= .fn (.func g) C,args:=A++ #[.func (.yield l) #[] #[]]},W1,g,(A.toList++(Value.func (.yield l) #[] #[]::C.toList)).toArray,W1,hrun,?_,λ_ _=>trivial,?_,λhd=>(by cases hd),?_⟩
        ·simp only[resolve,hfu,Deferred.ofValue,d9u,e3h,e0o,e3c]
         rfl
        ·show(callFunc g (A++ #[.func (.yield l) #[] #[]]++C)).run P W1=_
         rw[show(A++ #[.func (.yield l) #[] #[]]++C:Array Value)=(A.toList++(Value.func (.yield l) #[] #[]::C.toList)).toArray by simp]
         exact q3 _ W1
        ·refine hcall.mono ?_
         rintro e' W3 ⟨w,rfl,ρ3,p1,p2,p3,p4⟩
         have hq3:ρ3 nx=some lc:=p1.le _ _ (bL _ _ _)
         obtain⟨L3,d1,d2,d3,d4⟩:=p3.lp hob2 hq3
         rw[hlb]at d1
         have hnb:L3.state≠ .busy:=by rw[d2];rcases hst with⟨z,_⟩|⟨z,_⟩<;>(rw[z];simp[c1l])
         have hres:∀(X:Exit->Act->World->Prop),True:=λ_=>trivial
         have hpo:Po E Ow ρ Fr W cx.n nx.num nx'.num (tmF tm') (geH (eK h2 nx none)) a {a with defers:=mk++a.defers} (W3.putObj l (.loop {L3 with state:= .exhausted})):=by
          have hown:Ow1 lc.b:=by obtain⟨l',z1,z2,_⟩:=p3.obj nx _ hob2;rw[hq3]at z1;cases z1;exact z2
          have hg3:Gr Ow1 W1 (W3.putObj l (.loop {L3 with state:= .exhausted})):=p4.trans ⟨rfl,rfl,rfl,by rw[e2t];exact e0g _,λb _ hb=>e1x λy=>hb (by rw[y,<-hlb];exact hown)⟩
          refine⟨Ow1,ρ3,hOw,⟨hle.trans p1.le,λid hid=>?_⟩,⟨hsr.rt.mono (hle.trans p1.le),?_,mL hmk (λ_ z=>z) hg3⟩,hg1.trans (hg3.mono hOw),hdm⟩
          ·rw[p1.out id λz=>hid ⟨by have:=z.1;omega,z.2⟩]
           unfold upR;rw[d9z (λy=>hid (by rw[y];exact hnx))]
          ·rw[fT]
           refine(p3.drop (id:=nx) (by rw[hob2];simp) hq3 (λb hb=>e1x (by rw[<-hlb];exact hb)) (e2t ..)).less λj hj=>⟨⟨hj.1,λy=>hj.2 (by rw[y];exact hnx)⟩,λz=>hj.2 ⟨by have:=z.1;omega,z.2⟩⟩
         refine⟨_,_,run_endLoop d1 hnb,?_⟩
         rw[d3]
         rw[d3]at hpo
         rcases hst with⟨_,rfl,rfl⟩|⟨_,rfl⟩
         ·exact⟨rfl,hpo⟩
         ·show(exC e).wpIn _ _ _ _ _ _
          cases e with
          |normal=>exact wpIn_skip ⟨rfl,hpo⟩
          |ret=>exact wpIn_ret ⟨rfl,hpo⟩
          |exit i=>exact wpIn_exit ⟨rfl,hpo⟩
      unfold c2w at hr
      split at hr
      ·rename_i tm2 ps2 a2 b2 gn2 hob2
       rw[dH]at hr
       cases hr
       exact key tm2 ps2 a2 b2 0 none gn2 .normal hob2 (.inl ⟨rfl,rfl,rfl⟩) rfl rfl rfl rfl
      ·rename_i tm2 ps2 a2 b2 x gn2 hob2
       rw[dH]at hr
       cases hr
       exact key tm2 ps2 a2 b2 2 (some e) gn2 e hob2 (.inr ⟨rfl,rfl⟩) rfl rfl rfl rfl
      ·cases hr
 ·cases hr
end
set_option linter.unusedVariables false
def c1t (P:Program)(hs:Hs)(ih:Ih):Prop:=∀(cx:Cx) (c:Code) (mr:Mr) (tm:Tm) (h:Hp) (nx:Id) (e:Ex) (tm':Tm) (h':Hp) (nx':Id),cx.n<=512->mrO c=some mr->b0o hs mr ih cx tm h nx= .ok e tm' h' nx'->
  nx.num<=nx'.num/\fA cx.lm nx.num nx'.num (geH h) (geH h')/\sP (lJ (.loop c)) tm tm'/\eA P (EKf cx.lm) (.loop c) cx.n cx.ro (tmF tm) (geH h) nx.num nx'.num e (tmF tm') (geH h')
theorem sP.trans {l m:List Nat}{a b c:Tm}(h:sP l a b)(k:sP m b c){r:List Nat}(h1:∀t,t∈l->t∈r)(h2:∀t,t∈m->t∈r):sP r a c:=λt ht=>(k t λq=>ht (h2 t q)).trans (h t λq=>ht (h1 t q))
theorem sP.refl (l:List Nat)(a:Tm):sP l a a:=λ_ _=>rfl
section
variable {P:Program} {hs:Hs} {ih:Ih}
theorem wD {cx:Cx}{c:Code}{x:Ex}{tm:Tm}{h:Hp}{nx:Id}{e:Ex}{tm':Tm}{h':Hp}{nx':Id}(hw:∀(F:Fence) (k:Nat) (Q:Exit->Act->World->Prop) (a:Act) (W:World),Q (exE x) a W->c.wpIn F k P Q a W)(hr:Res.ok x tm h nx= .ok e tm' h' nx'):
  nx.num<=nx'.num/\fA cx.lm nx.num nx'.num (geH h) (geH h')/\sP (lJ c) tm tm'/\eA P (EKf cx.lm) c cx.n cx.ro (tmF tm) (geH h) nx.num nx'.num e (tmF tm') (geH h'):=by
 cases hr
 exact⟨e0g _,fA.refl _ _ _ _,sP.refl _ _,λE Ow ρ Fr r k a W hE hro hfr hsp hs=>hw _ _ _ _ _ ⟨rfl,Po.refl hs⟩⟩
theorem b0x (hm:P.follows .mixedOrders=true)(hcl:HsOk P hs)(hR:vC P ih)(hL:c0e P ih)(hpar:c1t P hs ih){cx:Cx}{c:Code}{tm:Tm}{h:Hp}{nx:Id}{e:Ex}{tm':Tm}{h':Hp}{nx':Id}(hn:cx.n<=512)(hr:b9q P hs ih cx c tm h nx= .ok e tm' h' nx'):
  (nx.num<=nx'.num/\fA cx.lm nx.num nx'.num (geH h) (geH h')/\sP (lJ c) tm tm'/\eA P (EKf cx.lm) c cx.n cx.ro (tmF tm) (geH h) nx.num nx'.num e (tmF tm') (geH h'))/\
  ∀d,c= .loop d->mrO d=none->∃m,Lps P (EKf cx.lm) d cx.n cx.ro e (tmF tm') (geH h') nx'.num (tmF tm) (geH h) nx.num m:=by
 have hC:=c2l (hs:=hs) hR hcl
 cases c with
 |skip=>exact⟨wD (x:= .normal) (λF k Q a W hq=>wpIn_skip hq) hr,λd q=>(by cases q)⟩
 |region id ops draw=>
  cases draw with
  |false=>exact⟨c9o (ops:=ops) hn hC hr,λd q=>(by cases q)⟩
  |true=>exact⟨c4v (ops:=ops) hm hn hC hr,λd q=>(by cases q)⟩
 |seq a b=>
  refine⟨?_,λd q=>(by cases q)⟩
  have hr:ifR (ih cx a tm h nx) .no (andThen (ih cx b))= .ok e tm' h' nx':=hr
  cases h1:ih cx a tm h nx with
  |no=>rw[h1]at hr;cases hr
  |ok x tm1 hp1 nx1=>
   rw[h1]at hr
   obtain⟨a1,a2,a3,a4⟩:=hR _ _ _ _ _ _ _ _ _ hn h1
   have leave:∀x',x=x'->x'≠ .normal->Res.ok x' tm1 hp1 nx1= .ok e tm' h' nx'->nx.num<=nx'.num/\fA cx.lm nx.num nx'.num (geH h) (geH h')/\sP (lJ (.seq a b)) tm tm'/\eA P (EKf cx.lm) (.seq a b) cx.n cx.ro (tmF tm) (geH h) nx.num nx'.num e (tmF tm') (geH h'):=by
    rintro x' rfl hne hr
    cases hr
    refine⟨a1,a2,λt ht=>a3 t λq=>ht (e0p _ q),λE Ow ρ Fr r k ac W hE hro hfr hsp hs=>e6d (e7d (a4 E Ow ρ Fr r k ac W hE hro hfr hsp hs) ?_)⟩
    rintro e' a' W' ⟨rfl,hp⟩
    cases e with
    |normal=>exact absurd rfl hne
    |ret=>exact⟨rfl,hp⟩
    |exit i=>exact⟨rfl,hp⟩
   cases x with
   |ret=>exact leave .ret rfl (by simp) hr
   |exit i=>exact leave (.exit i) rfl (by simp) hr
   |normal=>
    have hr:ih cx b tm1 hp1 nx1= .ok e tm' h' nx':=hr
    obtain⟨b1,b2,b3,b4⟩:=hR _ _ _ _ _ _ _ _ _ hn hr
    refine⟨e2h a1 b1,a2.trans b2 a1 b1,a3.trans b3 (λt q=>e0p _ q) (λt q=>e0n _ q),λE Ow ρ Fr r k ac W hE hro hfr hsp hs=>e6d (e7d (a4 E Ow ρ Fr r k ac W hE hro (λid z=>hfr id ⟨z.1,by have:=z.2;omega⟩) (let⟨sp,s1,s2⟩:=hsp;⟨sp,s1,λz=>s2 ⟨z.1,by have:=z.2;omega⟩⟩) hs) ?_)⟩
    rintro e' a' W' ⟨rfl,hp⟩
    exact b4.after hE hro hfr hsp hp a1 b1
 |cond c a b=>
  refine⟨?_,λd q=>(by cases q)⟩
  have hr:b0n c a b ih cx tm h nx= .ok e tm' h' nx':=hr
  unfold b0n at hr
  split at hr
  ·rename_i x hx
   rw[tW]at hx
   have hev:∀{E:Vl} {Ow:Nat->Prop} {ρ:Rh} {Fr:Id->Prop} {ac:Act} {W:World},SR E Ow ρ cx.n (tmF tm) (geH h) Fr ac W->ac.eval c= .bool x:=λhs=>by have:=hs.rt.ev c;rw[hx]at this;exact this
   cases x with
   |true=>
    obtain⟨a1,a2,a3,a4⟩:=hR _ _ _ _ _ _ _ _ _ hn hr
    exact⟨a1,a2,λt ht=>a3 t λq=>ht (e0p _ q),λE Ow ρ Fr r k ac W hE hro hfr hsp hs=>wpIn_cond_true (hev hs) (a4 E Ow ρ Fr r k ac W hE hro hfr hsp hs)⟩
   |false=>
    obtain⟨a1,a2,a3,a4⟩:=hR _ _ _ _ _ _ _ _ _ hn hr
    exact⟨a1,a2,λt ht=>a3 t λq=>ht (e0n _ q),λE Ow ρ Fr r k ac W hE hro hfr hsp hs=>wpIn_cond_false (hev hs) (a4 E Ow ρ Fr r k ac W hE hro hfr hsp hs)⟩
  ·cases hr
 |block id c=>
  refine⟨?_,λd q=>(by cases q)⟩
  have hr:ifR (ih cx c tm h nx) .no (blk id)= .ok e tm' h' nx':=hr
  cases h1:ih cx c tm h nx with
  |no=>rw[h1]at hr;cases hr
  |ok x tm1 hp1 nx1=>
   rw[h1]at hr
   obtain⟨a1,a2,a3,a4⟩:=hR _ _ _ _ _ _ _ _ _ hn h1
   have fin:∀x',Res.ok x' tm1 hp1 nx1= .ok e tm' h' nx'->(∀(Q:Exit->Act->World->Prop) a' W',Q (exE x') a' W'->Exit.inBlock id Q (exE x) a' W')->nx.num<=nx'.num/\fA cx.lm nx.num nx'.num (geH h) (geH h')/\sP (lJ (.block id c)) tm tm'/\eA P (EKf cx.lm) (.block id c) cx.n cx.ro (tmF tm) (geH h) nx.num nx'.num e (tmF tm') (geH h'):=by
    intro x' hr hq
    cases hr
    refine⟨a1,a2,a3,λE Ow ρ Fr r k ac W hE hro hfr hsp hs=>wpIn_block (e7d (a4 E Ow ρ Fr r k ac W hE hro hfr hsp hs) ?_)⟩
    rintro e' a' W' ⟨rfl,hp⟩
    exact hq _ _ _ ⟨rfl,hp⟩
   cases x with
   |normal=>exact fin .normal hr λQ a' W' q=>q
   |ret=>exact fin .ret hr λQ a' W' q=>q
   |exit j=>
    have hr:(bif Nat.beq id j then Res.ok .normal tm1 hp1 nx1 else .ok (.exit j) tm1 hp1 nx1)= .ok e tm' h' nx':=hr
    cases hb:Nat.beq id j with
    |true=>
     rw[hb]at hr
     have:=d9s hb
     subst this
     exact fin .normal hr λQ a' W' q=>by show Exit.inBlock id Q (.exit id) a' W';simp only[Exit.inBlock,e4b];exact q
    |false=>
     rw[hb]at hr
     have hne:j≠id:=λq=>by rw[q,e3k]at hb;cases hb
     exact fin (.exit j) hr λQ a' W' q=>by show Exit.inBlock id Q (.exit j) a' W';simp only[Exit.inBlock,d9z hne];exact q
 |loop d=>
  cases hmr:mrO d with
  |some mr=>
   have hr:b0o hs mr ih cx tm h nx= .ok e tm' h' nx':=by
    have hr':=hr
    unfold b9q d2g at hr'
    simp only[hmr]at hr'
    exact hr'
   refine⟨hpar cx d mr tm h nx e tm' h' nx' hn hmr hr,λd' q hq=>?_⟩
   cases q;rw[hmr]at hq;cases hq
  |none=>
   have hr:ifR (ih cx d tm h nx) .no (andThen (ih cx (.loop d)))= .ok e tm' h' nx':=by
    have hr':=hr
    unfold b9q d2g at hr'
    simp only[hmr]at hr'
    exact hr'
   cases h1:ih cx d tm h nx with
   |no=>rw[h1]at hr;cases hr
   |ok x tm1 hp1 nx1=>
    rw[h1]at hr
    obtain⟨a1,a2,a3,a4⟩:=hR _ _ _ _ _ _ _ _ _ hn h1
    have fin:nx.num<=nx'.num->fA cx.lm nx.num nx'.num (geH h) (geH h')->sP (lJ d) tm tm'->(∃m,Lps P (EKf cx.lm) d cx.n cx.ro e (tmF tm') (geH h') nx'.num (tmF tm) (geH h) nx.num m)->
      (nx.num<=nx'.num/\fA cx.lm nx.num nx'.num (geH h) (geH h')/\sP (lJ (.loop d)) tm tm'/\eA P (EKf cx.lm) (.loop d) cx.n cx.ro (tmF tm) (geH h) nx.num nx'.num e (tmF tm') (geH h'))/\∀d',Code.loop d= .loop d'->mrO d'=none->∃m,Lps P (EKf cx.lm) d' cx.n cx.ro e (tmF tm') (geH h') nx'.num (tmF tm) (geH h) nx.num m:=by
     rintro q1 q2 q3 ⟨m,q4⟩
     exact⟨⟨q1,q2,q3,q4.tr⟩,λd' q _=>by cases q;exact⟨m,q4⟩⟩
    have leave:∀x',x=x'->x'≠ .normal->Res.ok x' tm1 hp1 nx1= .ok e tm' h' nx'->(nx.num<=nx'.num/\fA cx.lm nx.num nx'.num (geH h) (geH h')/\sP (lJ (.loop d)) tm tm'/\eA P (EKf cx.lm) (.loop d) cx.n cx.ro (tmF tm) (geH h) nx.num nx'.num e (tmF tm') (geH h'))/\∀d',Code.loop d= .loop d'->mrO d'=none->∃m,Lps P (EKf cx.lm) d' cx.n cx.ro e (tmF tm') (geH h') nx'.num (tmF tm) (geH h) nx.num m:=by
     rintro x' rfl hne hr
     cases hr
     exact fin a1 a2 a3 ⟨0,.out a4 hne a1⟩
    cases x with
    |ret=>exact leave .ret rfl (by simp) hr
    |exit i=>exact leave (.exit i) rfl (by simp) hr
    |normal=>
     have hr:ih cx (.loop d) tm1 hp1 nx1= .ok e tm' h' nx':=hr
     obtain⟨b1,b2,b3,b4⟩:=hR _ _ _ _ _ _ _ _ _ hn hr
     obtain⟨m,hl⟩:=hL cx d tm1 hp1 nx1 e tm' h' nx' hn hmr hr
     exact fin (e2h a1 b1) (a2.trans b2 a1 b1) (a3.trans b3 (λt q=>q) (λt q=>q)) ⟨m+1,.more a4 a1 b1 hl⟩
 |rangeFunc f ps as body=>
  obtain⟨q1,q2,q3,q4⟩:=d4p (hs:=hs) hR hcl (ps:=ps) hn hr
  exact⟨⟨q1,q2,by rw[q3];exact sP.refl _ _,q4⟩,λd q=>(by cases q)⟩
 |exit i=>exact⟨wD (x:= .exit i) (λF k Q a W hq=>wpIn_exit hq) hr,λd q=>(by cases q)⟩
 |scope c=>
  have hr:ih cx c tm h nx= .ok e tm' h' nx':=hr
  obtain⟨a1,a2,a3,a4⟩:=hR _ _ _ _ _ _ _ _ _ hn hr
  refine⟨⟨a1,a2,a3,λE Ow ρ Fr r k ac W hE hro hfr hsp hs=>a3y (e7d (a4 E Ow ρ Fr r k ac W hE hro hfr hsp hs) ?_)⟩,λd q=>(by cases q)⟩
  rintro e' a' W' ⟨rfl,hp⟩
  cases e<;>exact⟨rfl,hp⟩
 |label l=>exact⟨wD (x:= .normal) (λF k Q a W hq=>wpIn_label hq) hr,λd q=>(by cases q)⟩
 |goto l=>cases hr
 |ret=>exact⟨wD (x:= .ret) (λF k Q a W hq=>wpIn_ret hq) hr,λd q=>(by cases q)⟩
 |refuse w=>cases hr
theorem c1h (hm:P.follows .mixedOrders=true)(hcl:HsOk P hs)(hpar:∀ih,vC P ih->c1t P hs ih):∀n,vC P (run P hs n)/\c0e P (run P hs n)
 |0=>⟨λcx c tm h nx e tm' h' nx' _ hr=>(by cases hr),λcx c tm h nx e tm' h' nx' _ _ hr=>(by cases hr)⟩
 |n+1=>by
  obtain⟨h1,h2⟩:=c1h hm hcl hpar n
  exact⟨λcx c tm h nx e tm' h' nx' hn hr=>(b0x hm hcl h1 h2 (hpar _ h1) (c:=c) hn hr).1,λcx d tm h nx e tm' h' nx' hn hmr hr=>(b0x hm hcl h1 h2 (hpar _ h1) (c:= .loop d) hn hr).2 d rfl hmr⟩
end
set_option linter.unusedVariables false
open Go.Px (KT aJ KeyOk EqT eL)
mutual
theorem RV.back {E:Vl}{ρ ρ':Rh}(hl:Le ρ ρ'):∀{v:V} {u0 u:Value},RV Vl.z ρ v u0->RV E ρ' v u->RV Vl.z ρ v u
 | .i k n,_,_,_,h=>h
 | .b x,_,_,_,h=>h
 | .z v,_,_,_,h=>h
 | .p id off,_,_,⟨l,h1,_⟩,⟨l',k1,k2⟩=>by have:=hl _ _ h1;rw[k1]at this;cases this;exact⟨l,h1,k2⟩
 | .s id off len cap ex,_,_,⟨l,c,a,h1,_⟩,⟨l',c',a',k1,k2⟩=>by have:=hl _ _ h1;rw[k1]at this;cases this;exact⟨l,c',a',h1,k2⟩
 | .m id,_,_,⟨l,h1,_⟩,⟨l',k1,k2⟩=>by have:=hl _ _ h1;rw[k1]at this;cases this;exact⟨l,h1,k2⟩
 | .f g fs cs,_,_,⟨a,c,_,h2,h3⟩,⟨a',c',k1,k2,k3⟩=>⟨a',c',k1,RVs.back hl h2 k2,RVs.back hl h3 k3⟩
 | .y id,_,_,⟨l,h1,_⟩,⟨l',k1,k2⟩=>by have:=hl _ _ h1;rw[k1]at this;cases this;exact⟨l,h1,k2⟩
 | .a cs,_,_,⟨us,_,h2,_⟩,⟨us',k1,k2,k3⟩=>⟨us',k1,RVs.back hl h2 k2,k3⟩
 | .t cs,_,_,⟨us,_,h2⟩,⟨us',k1,k2⟩=>⟨us',k1,RVs.back hl h2 k2⟩
 | .q id,_,_,⟨l,h1,_⟩,⟨l',k1,k2⟩=>by have:=hl _ _ h1;rw[k1]at this;cases this;exact⟨l,h1,k2⟩
 | .w s c,_,_,⟨x,h1,_⟩,_=>by cases h1
 | .e t id,_,_,⟨l,h1,_⟩,⟨l',k1,k2⟩=>by have:=hl _ _ h1;rw[k1]at this;cases this;exact⟨l,h1,k2⟩
 | .un,_,_,_,_=>trivial
theorem RVs.back {E:Vl}{ρ ρ':Rh}(hl:Le ρ ρ'):∀{l:List V} {us0 us:List Value},RVs Vl.z ρ l us0->RVs E ρ' l us->RVs Vl.z ρ l us
 |[],_,_,_,h=>h
 |_::_,_,_,⟨_,_,_,h2,h3⟩,⟨u,r,k1,k2,k3⟩=>⟨u,r,k1,RV.back hl h2 k2,RVs.back hl h3 k3⟩
end
mutual
theorem RV.up {E:Vl}{ρ:Rh}:∀{v:V} {u:Value},RV Vl.z ρ v u->RV E ρ v u
 | .i k n,_,h=>h
 | .b x,_,h=>h
 | .z v,_,h=>h
 | .p id off,_,h=>h
 | .s id off len cap ex,_,h=>h
 | .m id,_,h=>h
 | .f g fs cs,_,⟨a,c,h1,h2,h3⟩=>⟨a,c,h1,RVs.up h2,RVs.up h3⟩
 | .y id,_,h=>h
 | .a cs,_,⟨us,h1,h2,h3⟩=>⟨us,h1,RVs.up h2,h3⟩
 | .t cs,_,⟨us,h1,h2⟩=>⟨us,h1,RVs.up h2⟩
 | .q id,_,h=>h
 | .w s c,_,⟨x,h1,_⟩=>by cases h1
 | .e t id,_,h=>h
 | .un,_,_=>trivial
theorem RVs.up {E:Vl}{ρ:Rh}:∀{l:List V} {us:List Value},RVs Vl.z ρ l us->RVs E ρ l us
 |[],_,h=>h
 |_::_,_,⟨u,r,k1,k2,k3⟩=>⟨u,r,k1,RV.up k2,RVs.up k3⟩
end
def Kn (ρ:Rh)(v:V):Prop:=∃u,RV Vl.z ρ v u
theorem tX {E:Vl}{ρ ρ':Rh}{v:V}{u:Value}(h:b7p v=true)(hv:RV E ρ' v u):RV Vl.z ρ v u:=by
 cases v<;>first|exact hv|cases h
theorem tY {E:Vl}{ρ ρ':Rh}:∀{l:List V} {us:List Value},l.all b7p=true->RVs E ρ' l us->RVs Vl.z ρ l us
 |[],_,_,h=>h
 |v::l,_,hf,⟨u,r,h1,h2,h3⟩=>by
  rw[List.all_cons,e0d]at hf
  exact⟨u,r,h1,tX hf.1 h2,tY hf.2 h3⟩
theorem b1o {E:Vl}{ρ ρ':Rh}{v:V}{u:Value}(h:b1n v=true)(hv:RV E ρ' v u):RV Vl.z ρ v u:=by
 cases v with
 |a cs=>obtain⟨us,h1,h2,h3⟩:=hv;exact⟨us,h1,tY h h2,h3⟩
 |_=>exact tX h hv
theorem Kn.back {E:Vl}{ρ ρ':Rh}(hl:Le ρ ρ'){v:V}{u:Value}(h:Kn ρ v\/b1n v=true)(hv:RV E ρ' v u):RV Vl.z ρ v u:=by
 rcases h with⟨u0,h⟩|h
 ·exact RV.back hl h hv
 ·exact b1o h hv
theorem Mok.known {ρ:Rh}{ag:Nat}{es:Es}{ents:Array MapEntry}{clock:Nat}(h:Mok Vl.z ρ ag es ents clock):∀k v,(k,v)∈es->Kn ρ v:=by
 intro k v hkv
 obtain⟨hk,e,he,hek⟩:=h.all k v hkv
 obtain⟨k',v',h1,h2,h3,h4⟩:=h.ent e he
 have:=fF h2 hk (h3.symm.trans hek)
 subst this
 have:=mP h.kd hkv h1
 subst this
 exact⟨_,h4⟩
theorem Mok.back {E : Vl} {ρ ρ' : Rh} (hl : Le ρ ρ') {ag : Nat} {es : Es} {ents : Array MapEntry} {clock : Nat} (h : Mok E ρ' ag es ents clock) (hk : ∀ k v, (k, v) ∈ es → Kn ρ v ∨ b1n v = true) : Mok Vl.z ρ ag es ents clock :=
  ⟨h.kd, fun e he => let ⟨k, v, h1, h2, h3, h4⟩ := h.ent e he; ⟨k, v, h1, h2, h3, Kn.back hl (hk k v h1) h4⟩, h.all, h.nd, h.lt, h.kn⟩
theorem Mok.up {E : Vl} {ρ : Rh} {ag : Nat} {es : Es} {ents : Array MapEntry} {clock : Nat} (h : Mok Vl.z ρ ag es ents clock) : Mok E ρ ag es ents clock :=
  ⟨h.kd, fun e he => let ⟨k, v, h1, h2, h3, h4⟩ := h.ent e he; ⟨k, v, h1, h2, h3, RV.up h4⟩, h.all, h.nd, h.lt, h.kn⟩
theorem RO.back {E:Vl}{ρ ρ':Rh}(hl:Le ρ ρ'){W0 W':World}{id:Id}{l:Lc}{o:O}(h0:RO Vl.z ρ W0 id l o)(h:RO E ρ' W' id l o)(hg:tG o=false):RO Vl.z ρ W' id l o:=by
 cases o with
 |c cs=>
  obtain⟨c0,T0,a1,a2,a3,a4⟩:=h0
  obtain⟨c,T,b1,b2,b3,b4⟩:=h
  exact⟨c,T,b1,b2,b3,λj x hj=>⟨RV.back hl (a4 j x hj).1 (b4 j x hj).1,(b4 j x hj).2⟩⟩
 |m ag es op=>
  obtain⟨en0,cl0,a1,a2,a3⟩:=h0
  obtain⟨en,cl,b1,b2,b3⟩:=h
  refine⟨en,cl,b1,b2.back hl λk v hkv=> .inl (a2.known k v hkv),λg k hg=>?_⟩
  obtain⟨lg0,c1,_⟩:=a3 g k hg
  obtain⟨lg,d1,d2⟩:=b3 g k hg
  have:=hl _ _ c1
  rw[d1]at this;cases this
  exact⟨lg0,c1,d2⟩
 |it m g=>
  obtain⟨lg0,lm0,a1,a2,a3,a4⟩:=h0
  obtain⟨lg,lm,b1,b2,b3,b4⟩:=h
  have e1:=hl _ _ a1;rw[b1]at e1;cases e1
  have e2:=hl _ _ a2;rw[b2]at e2;cases e2
  exact⟨lg0,lm0,a1,a2,b3,b4⟩
 |lp tm ps a b st pend gn=>
  obtain⟨fn0,tmps0,D0,a1,a2⟩:=h0
  obtain⟨fn,tmps,D,b1,b2⟩:=h
  exact⟨fn,tmps,D,b1,b2.size,b2.le,λt ht=>RV.back hl (a2.get t ht) (b2.get t ht)⟩
 |_=>cases hg
theorem RO.up {E:Vl}{ρ:Rh}{W:World}{id:Id}{l:Lc}{o:O}(h:RO Vl.z ρ W id l o)(hg:tG o=false):RO E ρ W id l o:=by
 cases o with
 |c cs=>obtain⟨c,T,b1,b2,b3,b4⟩:=h;exact⟨c,T,b1,b2,b3,λj x hj=>⟨RV.up (b4 j x hj).1,(b4 j x hj).2⟩⟩
 |m ag es op=>obtain⟨en,cl,b1,b2,b3⟩:=h;exact⟨en,cl,b1,b2.up,b3⟩
 |it m g=>exact h
 |lp tm ps a b st pend gn=>obtain⟨fn,tmps,D,b1,b2⟩:=h;exact⟨fn,tmps,D,b1,b2.size,b2.le,λt ht=>RV.up (b2.get t ht)⟩
 |_=>cases hg
def lkL (l:List (List Int×Option V))(k:List Int):Option (Option V):=match l with
  |[]=>none
  |e::l=>if k=e.1 then some e.2 else lkL l k
theorem wF {k:List Int}{r:Option V}:∀{l:List (List Int×Option V)},lkL l k=some r->(k,r)∈l
 |e::l,h=>by
  unfold lkL at h
  split at h
  ·rename_i q;cases h;subst q;exact d9y ..
  ·exact d9v _ (wF h)
theorem pY {k:List Int}{v:V}{es:Es}(hn:(es.map (·.1)).Nodup):find k es=some v↔(k,v)∈es:=by
 constructor
 ·exact eR
 ·intro h
  cases hf:find k es with
  |none=>exact absurd h (mF hf v)
  |some w=>rw[mP hn (eR hf) h]
theorem pX {k k':List Int}{es:Es}(hn:(es.map (·.1)).Nodup):find k (del k' es)=if k=k' then none else find k es:=by
 have hn':((del k' es).map (·.1)).Nodup:=hn.sublist ((qV k' es).map _)
 by_cases e:k=k'
 ·rw[e0c e]
  cases hf:find k (del k' es)with
  |none=>rfl
  |some v=>exact absurd e ((nM hn).1 (eR hf)).1
 ·rw[d9z e]
  cases hf:find k es with
  |none=>
   cases hf2:find k (del k' es)with
   |none=>rfl
   |some v=>exact absurd ((nM hn).1 (eR hf2)).2 (mF hf v)
  |some v=>exact(pY hn').2 ((nM hn).2 ⟨e,eR hf⟩)
theorem a4i {es:Es}(hn:(es.map (·.1)).Nodup):∀(l:List (List Int×Option V)),((apM l es).map (·.1)).Nodup/\∀k,find k (apM l es)=match lkL l k with
  |some r=>r
  |none=>find k es
 |[]=>⟨hn,λk=>rfl⟩
 |e::l=>by
  obtain⟨h1,h2⟩:=a4i hn l
  obtain⟨k0,r⟩:=e
  cases r with
  |none=>
   have e0:apM ((k0,none)::l) es=del k0 (apM l es):=rfl
   rw[e0]
   refine⟨h1.sublist ((qV k0 _).map _),λk=>?_⟩
   rw[pX h1,h2]
   unfold lkL
   by_cases q:k=k0
   ·rw[e0c q,e0c q]
   ·rw[d9z q,d9z q];cases l<;>rfl
  |some v=>
   have e0:apM ((k0,some v)::l) es=upd k0 v (apM l es):=rfl
   rw[e0]
   refine⟨nE h1,λk=>?_⟩
   rw[vR,h2]
   unfold lkL
   by_cases q:k=k0
   ·rw[e0c q,e0c q]
   ·rw[d9z q,d9z q];cases l<;>rfl
structure Fin (R:List (List (List Int×Option V)))(es esF:Es):Prop where
  a:∀l,l∈R->∀k r,lkL l k=some r->find k esF=r
  b:∀k,(∀l,l∈R->lkL l k=none)->find k esF=find k es
theorem Fin.step {p q:List (List (List Int×Option V))}{l:List (List Int×Option V)}{es esF:Es}(h:Fin (p++l::q) es esF)(hn:(es.map (·.1)).Nodup):Fin (p++q) (apM l es) esF:=by
 have hm:∀x,x∈p++q->x∈p++l::q:=λx hx=>by
  rcases e0x.1 hx with hx|hx
  ·exact e0p _ hx
  ·exact e0n _ (d9v _ hx)
 refine⟨λx hx=>h.a x (hm x hx),λk hk=>?_⟩
 rw[(a4i hn l).2]
 cases hl:lkL l k with
 |some r=>exact h.a l (e0n _ (d9y ..)) k r hl
 |none=>
  refine h.b k λx hx=>?_
  rcases e0x.1 hx with hx|hx
  ·exact hk x (e0p _ hx)
  ·rcases e0b.1 hx with rfl|hx
   ·exact hl
   ·exact hk x (e0n _ hx)
theorem a5l {k:List Int}:∀{l:List (List Int)},c3t k l=true↔k∈l
 |[]=>⟨λh=>(by cases h),λh=>(by cases h)⟩
 |x::l=>by
  show(bif kq k x then true else c3t k l)=true↔_
  rw[fG,e0b]
  by_cases e:k=x
  ·rw[e1r e];exact⟨λ_=> .inl e,λ_=>rfl⟩
  ·rw[e1o e]
   show c3t k l=true↔_
   rw[a5l]
   exact⟨.inr,λh=>h.resolve_left e⟩
theorem c3o {k:List Int}{r:Option V}{l:List (List Int×Option V)}(h:lkL l k=some r):k∈l.map (·.1):=e0l.2 ⟨_,wF h,rfl⟩
theorem a9x:∀{lss:List (List (List Int×Option V))} {seen:List (List Int)} {es esF:Es},(es.map (·.1)).Nodup->c7b lss seen es=some esF->Fin lss es esF/\(esF.map (·.1)).Nodup/\∀l,l∈lss->∀k r,lkL l k=some r->k∉seen
 |[],seen,es,esF,hn,h=>by cases h;exact⟨⟨λl hl=>(by cases hl),λk _=>rfl⟩,hn,λl hl=>(by cases hl)⟩
 |l::lss,seen,es,esF,hn,h=>by
  have h:(bif l.any λe=>c3t e.1 seen then none else c7b lss (l.map (·.1)++seen) (apM l es))=some esF:=h
  cases hb:l.any λe=>c3t e.1 seen with
  |true=>rw[hb]at h;cases h
  |false=>
   rw[hb]at h
   obtain⟨h1,h2⟩:=a4i hn l
   obtain⟨q1,q2,q3⟩:=a9x h1 h
   have hl:∀k r,lkL l k=some r->k∉seen:=λk r hk hs=>by
    rw[List.any_eq_false]at hb
    exact hb _ (wF hk) (a5l.2 hs)
   have hother:∀k r,lkL l k=some r->∀x,x∈lss->lkL x k=none:=λk r hk x hx=>by
    cases hxk:lkL x k with
    |none=>rfl
    |some r'=>exact absurd (e0p _ (c3o hk)) (q3 x hx k r' hxk)
   refine⟨⟨λx hx k r hk=>?_,λk hk=>?_⟩,q2,λx hx k r hk hs=>?_⟩
   ·rcases e0b.1 hx with rfl|hx
    ·rw[q1.b k (hother k r hk),h2,hk]
    ·exact q1.a x hx k r hk
   ·rw[q1.b k λx hx=>hk x (d9v _ hx),h2,hk l (d9y ..)]
   ·rcases e0b.1 hx with rfl|hx
    ·exact hl k r hk hs
    ·exact q3 x hx k r hk (e0n _ hs)
def dlL (p:List Int×Bool):List (List Int×Option V):=if p.2 then []else [(p.1,none)]
def dlP:List (List Int×Lg)->Option (List (List Int×Bool))
  |[]=>some []
  |(k,.d th)::r=>(dlP r).map ((k,th):: ·)
  |_::_=>none
theorem b2p:∀{lss:List (List Int×Lg)} {es esF:Es},(es.map (·.1)).Nodup->lgD lss es=some esF->∃ps,dlP lss=some ps/\Fin (ps.map dlL) es esF/\(esF.map (·.1)).Nodup/\∀k,find k es=none->find k esF=none
 |[],es,esF,hn,h=>by cases h;exact⟨[],rfl,⟨λl hl=>(by cases hl),λk _=>rfl⟩,hn,λk h=>h⟩
 |(k0,.m _ _)::lss,es,esF,hn,h=>by cases h
 |(k0,.c _)::lss,es,esF,hn,h=>by cases h
 |(k0,.d th)::lss,es,esF,hn,h=>by
  have h:lgD lss (bif th then es else del k0 es)=some esF:=h
  cases th with
  |true=>
   obtain⟨ps,q0,q1,q2,q3⟩:=b2p (es:=es) hn h
   refine⟨(k0,true)::ps,by show(dlP lss).map _=_;rw[q0];rfl,⟨λl hl k r hk=>?_,λk hk=>?_⟩,q2,q3⟩
   ·rcases e0b.1 hl with rfl|hl
    ·cases hk
    ·exact q1.a l hl k r hk
   ·exact q1.b k λl hl=>hk l (d9v _ hl)
  |false=>
   obtain⟨ps,q0,q1,q2,q3⟩:=b2p (es:=del k0 es) (hn.sublist ((qV k0 es).map _)) h
   refine⟨(k0,false)::ps,by show(dlP lss).map _=_;rw[q0];rfl,⟨λl hl k r hk=>?_,λk hk=>?_⟩,q2,λk hk=>q3 k ?_⟩
   ·rcases e0b.1 hl with rfl|hl
    ·have hk:(if k=k0 then some none else none)=some r:=hk
     split at hk
     ·rename_i e;cases hk;subst e
      exact q3 k (by rw[pX hn,e0c rfl])
     ·cases hk
    ·exact q1.a l hl k r hk
   ·have h0:=hk (dlL (k0,false)) (d9y ..)
    have h0:(if k=k0 then some none else none:Option (Option V))=none:=h0
    have hne:k≠k0:=λe=>by rw[e0c e]at h0;cases h0
    rw[q1.b k λl hl=>hk l (d9v _ hl),pX hn,d9z hne]
   ·rw[pX hn];split
    ·rfl
    ·exact hk
theorem Mok.eqf {E:Vl}{ρ:Rh}{ag:Nat}{es esF:Es}{ents:Array MapEntry}{clock:Nat}(h:Mok E ρ ag es ents clock)(hn:(esF.map (·.1)).Nodup)(hf:∀k,find k esF=find k es):Mok E ρ ag esF ents clock:=by
 have hm:∀k v,(k,v)∈esF↔(k,v)∈es:=λk v=>by rw[<-pY hn,<-pY h.kd,hf]
 exact⟨hn,λe he=>let⟨k,v,h1,h2⟩:=h.ent e he;⟨k,v,(hm k v).2 h1,h2⟩,λk v hkv=>h.all k v ((hm k v).1 hkv),h.nd,h.lt,h.kn⟩
def lkC (l:List (Nat×V))(i:Nat):Option V:=match l with
  |[]=>none
  |e::l=>if i=e.1 then some e.2 else lkC l i
theorem wE {i:Nat}{r:V}:∀{l:List (Nat×V)},lkC l i=some r->(i,r)∈l
 |e::l,h=>by
  unfold lkC at h
  split at h
  ·rename_i q;cases h;subst q;exact d9y ..
  ·exact d9v _ (wE h)
theorem b4t:∀(l:List V) (k:Nat) (x:V),c6v l k x=l.set k x
 |[],k,x=>rfl
 |y::l,0,x=>rfl
 |y::l,k+1,x=>e2r (y:: ·) (b4t l k x)
theorem a4f (cs:List V):∀(l:List (Nat×V)),(apC l cs).length=cs.length/\∀i,(apC l cs)[i]?=match lkC l i with
  |some v=>if i<cs.length then some v else none
  |none=>cs[i]?
 |[]=>⟨rfl,λi=>rfl⟩
 |e::l=>by
  obtain⟨h1,h2⟩:=a4f cs l
  have e0:apC (e::l) cs=c6v (apC l cs) e.1 e.2:=rfl
  rw[e0,b4t]
  refine⟨by rw[List.length_set,h1],λi=>?_⟩
  rw[e4w,h2,h1]
  unfold lkC
  by_cases q:i=e.1
  ·rw[e0c q,e0c q.symm,q]
  ·rw[d9z q,d9z (λz=>q z.symm)];cases l<;>rfl
structure FinC (R:List (List (Nat×V)))(cs csF:List V):Prop where
  l:csF.length=cs.length
  a:∀l,l∈R->∀i r,lkC l i=some r->i<cs.length->csF[i]?=some r
  b:∀i,(∀l,l∈R->lkC l i=none)->csF[i]?=cs[i]?
theorem FinC.step {p q:List (List (Nat×V))}{l:List (Nat×V)}{cs csF:List V}(h:FinC (p++l::q) cs csF):FinC (p++q) (apC l cs) csF:=by
 have hm:∀x,x∈p++q->x∈p++l::q:=λx hx=>by
  rcases e0x.1 hx with hx|hx
  ·exact e0p _ hx
  ·exact e0n _ (d9v _ hx)
 obtain⟨h1,h2⟩:=a4f cs l
 refine⟨h.l.trans h1.symm,λx hx i r hi hlt=>h.a x (hm x hx) i r hi (by omega),λi hk=>?_⟩
 rw[h2]
 cases hl:lkC l i with
 |some r=>
  simp only
  by_cases hlt:i<cs.length
  ·rw[e0c hlt];exact h.a l (e0n _ (d9y ..)) i r hl hlt
  ·rw[d9z hlt,e1w];rw[h.l];omega
 |none=>
  refine h.b i λx hx=>?_
  rcases e0x.1 hx with hx|hx
  ·exact hk x (e0p _ hx)
  ·rcases e0b.1 hx with rfl|hx
   ·exact hl
   ·exact hk x (e0n _ hx)
theorem FinC.end {cs csF:List V}(h:FinC [] cs csF):csF=cs:=e3u λi=>h.b i λl hl=>(by cases hl)
theorem c3n {i:Nat}{r:V}{l:List (Nat×V)}(h:lkC l i=some r):i∈l.map (·.1):=e0l.2 ⟨_,wE h,rfl⟩
theorem a9w:∀{lss:List (List (Nat×V))} {seen:List Nat} {cs csF:List V},d1j lss seen cs=some csF->FinC lss cs csF/\∀l,l∈lss->∀i r,lkC l i=some r->i∉seen
 |[],seen,cs,csF,h=>by cases h;exact⟨⟨rfl,λl hl=>(by cases hl),λi _=>rfl⟩,λl hl=>(by cases hl)⟩
 |l::lss,seen,cs,csF,h=>by
  have h:(bif l.any λe=>lN e.1 seen then none else d1j lss (l.map (·.1)++seen) (apC l cs))=some csF:=h
  cases hb:l.any λe=>lN e.1 seen with
  |true=>rw[hb]at h;cases h
  |false=>
   rw[hb]at h
   obtain⟨h1,h2⟩:=a4f cs l
   obtain⟨q1,q3⟩:=a9w h
   have hl:∀i r,lkC l i=some r->i∉seen:=λi r hi hs=>by
    rw[List.any_eq_false]at hb
    exact hb _ (wE hi) (eS.2 hs)
   have hother:∀i r,lkC l i=some r->∀x,x∈lss->lkC x i=none:=λi r hi x hx=>by
    cases hxk:lkC x i with
    |none=>rfl
    |some r'=>exact absurd (e0p _ (c3n hi)) (q3 x hx i r' hxk)
   refine⟨⟨q1.l.trans h1,λx hx i r hi hlt=>?_,λi hi=>?_⟩,λx hx i r hi hs=>?_⟩
   ·rcases e0b.1 hx with rfl|hx
    ·rw[q1.b i (hother i r hi),h2,hi];exact e0c hlt
    ·exact q1.a x hx i r hi (by omega)
   ·rw[q1.b i λx hx=>hi x (d9v _ hx),h2,hi l (d9y ..)]
   ·rcases e0b.1 hx with rfl|hx
    ·exact hl i r hi hs
    ·exact q3 x hx i r hi (e0n _ hs)
set_option linter.unusedVariables false
open Go.Px (KT aJ KeyOk EqT eL)
theorem c1m:∀(l:List Nat) (tm:Tm) (K:Tm->Res),(∀t,t∈l->t<512)->∃tm',unS l tm K=K tm'/\∀t,rdT t tm'=if t∈l then .un else rdT t tm
 |[],tm,K,_=>⟨tm,rfl,λt=>by simp⟩
 |s::l,tm,K,hl=>by
  obtain⟨tm',e1,e2⟩:=c1m l (stT s .un tm) K λt ht=>hl t (d9v _ ht)
  refine⟨tm',by show wtT s .un tm (unS l · K)=_;rw[lF];exact e1,λt=>?_⟩
  have hs:=hl s (d9y ..)
  rw[e2]
  by_cases h1:t∈l
  ·rw[e0c h1,e0c (d9v _ h1)]
  ·rw[d9z h1]
   by_cases h2:t=s
   ·subst h2;rw[sC hs,e0c (d9y ..)]
   ·rw[iS hs h2,d9z (by simp[h1,h2])]
theorem a9r:∀(l:List Nat) (tm:Tm) (K:Tm->Res),(∀t,t∈l->t<512)->∃tm',d1g l tm K=K tm'/\∀t,rdT t tm'=if t∈l then .w t 0 else rdT t tm
 |[],tm,K,_=>⟨tm,rfl,λt=>by simp⟩
 |s::l,tm,K,hl=>by
  obtain⟨tm',e1,e2⟩:=a9r l (stT s (.w s 0) tm) K λt ht=>hl t (d9v _ ht)
  refine⟨tm',by show wtT s (.w s 0) tm (d1g l · K)=_;rw[lF];exact e1,λt=>?_⟩
  have hs:=hl s (d9y ..)
  rw[e2]
  by_cases h1:t∈l
  ·rw[e0c h1,e0c (d9v _ h1)]
  ·rw[d9z h1]
   by_cases h2:t=s
   ·subst h2;rw[sC hs,e0c (d9y ..)]
   ·rw[iS hs h2,d9z (by simp[h1,h2])]
def opn:O->Option O
  | .m ag _ _=>some (.lg ag [])
  | .c cs=>some (.lc cs.length [])
  |_=>none
theorem b3a:∀{l:List Id},c8v l=true->l.Nodup
 |[],_=>e4k
 |x::l,h=>by
  have h:(!bN x l&&c8v l)=true:=h
  simp only[e0d,e5i]at h
  exact e2b.2 ⟨gP.1 h.1,b3a h.2⟩
theorem a2r {mid:Id}:∀(l:List Id) (h:Hp) (K:Hp->Res),l.Nodup->a8i mid l h K= .no\/∃h1,a8i mid l h K=K h1/\(∀id,(id∉l\/id=mid)->geH h1 id=geH h id)/\∀id,id∈l->id≠mid->∃o o',geH h id=some o/\opn o=some o'/\geH h1 id=some o'
 |[],h,K,_=> .inr ⟨h,rfl,λid _=>rfl,λid q=>(by cases q)⟩
 |x::l,h,K,hn=>by
  rw[e2b]at hn
  have e0:a8i mid (x::l) h K=bif gH x mid then a8i mid l h K else match geH h x with
   |some (.m ag _ _)=>stH h x (some (.lg ag [])) λh=>a8i mid l h K
   |some (.c cs)=>stH h x (some (.lc (nQ cs) [])) λh=>a8i mid l h K
   |_=> .no:=rfl
  rw[e0]
  cases hx:gH x mid with
  |true=>
   have hx:=bI.1 hx
   rcases a2r l h K hn.2 with e1|⟨h1,e1,e2,e3⟩
   ·exact .inl e1
   ·refine .inr ⟨h1,e1,λid hid=>e2 id ?_,λid hid hne=>?_⟩
    ·rcases hid with q|q
     ·exact .inl λz=>q (d9v _ z)
     ·exact .inr q
    ·rcases e0b.1 hid with rfl|hid
     ·exact absurd hx hne
     ·exact e3 id hid hne
  |false=>
   have hx:=dS.1 hx
   have key:∀(o o':O),geH h x=some o->opn o=some o'->∀r:Res,r=(stH h x (some o') λh=>a8i mid l h K)->r= .no\/∃h1,r=K h1/\(∀id,(id∉x::l\/id=mid)->geH h1 id=geH h id)/\∀id,id∈x::l->id≠mid->∃o o',geH h id=some o/\opn o=some o'/\geH h1 id=some o':=by
    rintro o o' ho ho' r rfl
    rw[dH]
    rcases a2r l (eK h x (some o')) K hn.2 with e1|⟨h1,e1,e2,e3⟩
    ·exact .inl e1
    ·refine .inr ⟨h1,e1,λid hid=>?_,λid hid hne=>?_⟩
     ·have hne:id≠x:=by
       rcases hid with q|q
       ·exactλz=>q (z▸d9y ..)
       ·exactλz=>hx (z▸q)
      rw[e2 id (hid.imp (λq z=>q (d9v _ z)) λq=>q),fU _ hne]
     ·by_cases he:id=x
      ·subst he
       exact⟨o,o',ho,ho',by rw[e2 id (.inl hn.1),vS]⟩
      ·rcases e0b.1 hid with q|hid
       ·exact absurd q he
       ·obtain⟨o1,o2,q1,q2,q3⟩:=e3 id hid hne
        rw[fU _ he]at q1
        exact⟨o1,o2,q1,q2,q3⟩
   simp only[e2n]
   split
   ·rename_i ag es op ho;exact key _ _ ho rfl _ rfl
   ·rename_i cs ho;exact key _ (.lc (nQ cs) []) ho (by show some (O.lc cs.length [])=_;rw[gE]) _ rfl
   ·exact .inl rfl
structure Ro1 where
  k:List Int
  v:V
  cs:List Int
  ls:List Lg
  ne:Id
theorem c8r (a b:Id):a.num<=(mxI a b).num/\b.num<=(mxI a b).num:=by
 unfold mxI
 cases hb:Nat.blt a.num b.num with
 |true=>have:=aL.1 hb;exact⟨by show a.num<=b.num;omega,e0g _⟩
 |false=>
  refine⟨e0g _,?_⟩
  show b.num<=a.num
  rcases e4r a.num b.num with q|q
  ·rw[show Nat.blt a.num b.num=true from aL.2 q]at hb;cases hb
  ·exact q
theorem a0b {one:List Int->V->(List Int->List Lg->Id->Res)->Res}{Ok:Ro1->Prop}(h1:∀k v K,one k v K= .no\/∃cs ls ne,Ok ⟨k,v,cs,ls,ne⟩/\one k v K=K cs ls ne):∀(es:Es) (cs:List Int) (lss:List (List Int×List Lg)) (mx:Id) (K:List Int->List (List Int×List Lg)->Id->Res),
  lD one es cs lss mx K= .no\/∃(rs:List Ro1) (mf:Id),rs.map (λr=>(r.k,r.v))=es/\(∀r,r∈rs->Ok r/\r.ne.num<=mf.num)/\mx.num<=mf.num/\lD one es cs lss mx K=K (rs.foldl (λc r=>a7i c r.cs) cs) ((rs.map λr=>(r.k,r.ls)).reverse++lss) mf
 |[],cs,lss,mx,K=> .inr ⟨[],mx,rfl,λr hr=>(by cases hr),e0g _,rfl⟩
 |e::es,cs,lss,mx,K=>by
  have e0:lD one (e::es) cs lss mx K=one e.1 e.2 λc l n=>lD one es (a7i cs c) ((e.1,l)::lss) (mxI mx n) K:=rfl
  rw[e0]
  rcases h1 e.1 e.2 (λc l n=>lD one es (a7i cs c) ((e.1,l)::lss) (mxI mx n) K)with e1|⟨c,l,n,hok,e1⟩
  ·exact .inl e1
  ·rcases a0b h1 es (a7i cs c) ((e.1,l)::lss) (mxI mx n) K with e2|⟨rs,mf,q1,q2,q3,q4⟩
   ·exact .inl (e1.trans e2)
   ·obtain⟨m1,m2⟩:=c8r mx n
    refine .inr ⟨⟨e.1,e.2,c,l,n⟩::rs,mf,by rw[e0o,q1],λr hr=>?_,by omega,e1.trans (q4.trans ?_)⟩
    ·rcases e0b.1 hr with rfl|hr
     ·exact⟨hok,by show n.num<=mf.num;omega⟩
     ·exact q2 r hr
    ·rw[e5j,e0o,List.reverse_cons,e6g];rfl
def b6d (ih:Ih)(cx:Cx)(mr:Mr)(ag:Nat)(es:Es)(iid mid:Id)(ids:List Id)(acc:List Nat)(tm:Tm)(h:Hp)(nx nx':Id)(r:Ro1):Prop:=
  ∃tmE hE,ih ⟨⟨some nx'.num,[]⟩,cx.g,cx.n,cx.ro⟩ mr.rest (stT mr.k (.b true) (stT mr.n (.t [.b true,eN ag r.k,r.v]) tm)) (eK (eK h iid (some (.it mid nx))) mid (some (bif bN mid ids then .dl ag r.k r.v true nx else .m ag es (some (nx,some r.k))))) nx'= .ok .normal tmE hE r.ne/\
    c1y tmE acc=some r.cs/\c3p hE mid ag r.k nx ids=some r.ls/\r.ls.all yI=true
theorem b4i {ih:Ih}{cx:Cx}{mr:Mr}{ag:Nat}{es:Es}{iid mid:Id}{ids:List Id}{acc:List Nat}{tm:Tm}{h:Hp}{nx nx':Id}(k:List Int)(v:V)(K:List Int->List Lg->Id->Res):oU ih cx mr ag es iid mid ids acc tm h nx nx' k v K= .no\/
  ∃cs ls ne,b6d ih cx mr ag es iid mid ids acc tm h nx nx' ⟨k,v,cs,ls,ne⟩/\oU ih cx mr ag es iid mid ids acc tm h nx nx' k v K=K cs ls ne:=by
 unfold oU
 simp only[dH,lF]
 generalize hS:eK (eK h iid (some (.it mid nx))) mid (some (bif bN mid ids then O.dl ag k v true nx else .m ag es (some (nx,some k))))=hs
 generalize hT:stT mr.k (.b true) (stT mr.n (.t [.b true,eN ag k,v]) tm)=ts
 cases hr:ih ⟨⟨some nx'.num,[]⟩,cx.g,cx.n,cx.ro⟩ mr.rest ts hs nx' with
 |no=>exact .inl rfl
 |ok e tmE hE ne=>
  cases e with
  |ret=>exact .inl rfl
  |exit i=>exact .inl rfl
  |normal=>
   have key:∀r:Res,r=(match c1y tmE acc,c3p hE mid ag k nx ids with
     |some cs,some ls=>bif ls.all yI then K cs ls ne else Res.no
     |_,_=>Res.no)->r= .no\/∃cs ls ne,b6d ih cx mr ag es iid mid ids acc tm h nx nx' ⟨k,v,cs,ls,ne⟩/\r=K cs ls ne:=by
    rintro r rfl
    split
    ·rename_i cs ls h1 h2
     cases hf:ls.all yI with
     |false=>exact .inl rfl
     |true=>exact .inr ⟨cs,ls,ne,⟨tmE,hE,by subst hS;subst hT;exact hr,h1,h2,hf⟩,rfl⟩
    ·exact .inl rfl
   exact key _ rfl
theorem a4e {lss:List (List Int×List Lg)}{h0:Hp}{K:Hp->Res}:∀{ids:List Id} {j:Nat} {h:Hp},ids.Nodup->pF ids j lss h0 h K= .no\/∃h3,pF ids j lss h0 h K=K h3/\(∀id,id∉ids->geH h3 id=geH h id)/\∀i id,ids[i]?=some id->∃o l o',geH h0 id=some o/\uO (j+i) lss=some l/\apO o l=some o'/\geH h3 id=some o'
 |[],j,h,_=> .inr ⟨h,rfl,λid _=>rfl,λi id q=>(by simp at q)⟩
 |x::ids,j,h,hn=>by
  rw[e2b]at hn
  have e0:pF (x::ids) j lss h0 h K=match geH h0 x,uO j lss with
   |some o,some l=>match apO o l with
    |some o=>stH h x (some o) λh=>pF ids (Nat.succ j) lss h0 h K
    |none=> .no
   |_,_=> .no:=rfl
  rw[e0]
  split
  ·rename_i o l h1 h2
   split
   ·rename_i o' h3
    rw[dH]
    rcases a4e (lss:=lss) (h0:=h0) (K:=K) (ids:=ids) (j:=Nat.succ j) (h:=eK h x (some o')) hn.2 with e1|⟨hF,e1,e2,e3⟩
    ·exact .inl e1
    ·refine .inr ⟨hF,e1,λid hid=>?_,λi id hi=>?_⟩
     ·rw[e2 id (λq=>hid (d9v _ q)),fU _ (λq=>hid (by rw[q];exact d9y ..))]
     ·cases i with
      |zero=>
       cases hi
       exact⟨o,l,o',h1,h2,h3,by rw[e2 _ hn.1,vS]⟩
      |succ i=>
       obtain⟨o1,l1,o2,q1,q2,q3,q4⟩:=e3 i id hi
       exact⟨o1,l1,o2,q1,by rw[show j+(i+1)=Nat.succ j+i by omega];exact q2,q3,q4⟩
   ·exact .inl rfl
  ·exact .inl rfl
def cAt:List Nat->List Int->Nat->Int
  |a::l,c::cs,s=>if s=a then c else cAt l cs s
  |_,_,_=>0
theorem a1k {tm:Tm}:∀{l:List Nat} {cs:List Int},c1y tm l=some cs->cs.length=l.length/\∀s,s∈l->rdT s tm= .w s (cAt l cs s)
 |[],cs,h=>by cases h;exact⟨rfl,λs q=>(by cases q)⟩
 |a::l,cs,h=>by
  have h:(match rdT a tm,c1y tm l with
   | .w s' c,some r=>bif Nat.beq a s' then some (c::r)else none
   |_,_=>none)=some cs:=h
  split at h
  ·rename_i s' c r h1 h2
   cases hb:Nat.beq a s' with
   |false=>rw[hb]at h;cases h
   |true=>
    rw[hb]at h;cases h
    have:=d9s hb
    subst this
    obtain⟨q1,q2⟩:=a1k h2
    refine⟨by rw[e0r,e0r,q1],λs hs=>?_⟩
    show rdT s tm= .w s (if s=a then c else cAt l r s)
    by_cases e:s=a
    ·subst e;rw[e0c rfl];exact h1
    ·rw[d9z e];exact q2 s ((e0b.1 hs).resolve_left e)
  ·cases h
theorem a9s {tm:Tm}:∀{l:List Nat} {ns:List Int},d1h tm l=some ns->ns.length=l.length/\∀s,s∈l->rdT s tm= .i .i64 (cAt l ns s)/\IntKind.i64.wrap (cAt l ns s)=cAt l ns s
 |[],cs,h=>by cases h;exact⟨rfl,λs q=>(by cases q)⟩
 |a::l,cs,h=>by
  have h:(match rdT a tm,d1h tm l with
   | .i .i64 n,some r=>bif inR .i64 n then some (n::r)else none
   |_,_=>none)=some cs:=h
  split at h
  ·rename_i n r h1 h2
   cases hb:inR .i64 n with
   |false=>rw[hb]at h;cases h
   |true=>
    rw[hb]at h
    cases h
    obtain⟨q1,q2⟩:=a9s h2
    refine⟨by rw[e0r,e0r,q1],λs hs=>?_⟩
    show rdT s tm= .i .i64 (if s=a then n else cAt l r s)/\IntKind.i64.wrap (if s=a then n else cAt l r s)=if s=a then n else cAt l r s
    by_cases e:s=a
    ·subst e;simp only[e0c];exact⟨h1,vY hb⟩
    ·simp only[d9z e];exact q2 s ((e0b.1 hs).resolve_left e)
  ·cases h
theorem b0l:∀{l:List Nat} {cs ds:List Int},cs.length=l.length->ds.length=l.length->(a7i cs ds).length=l.length/\∀s,cAt l (a7i cs ds) s=cAt l cs s+cAt l ds s
 |[],[],[],_,_=>⟨rfl,λs=>rfl⟩
 |a::l,c::cs,d::ds,h1,h2=>by
  obtain⟨q1,q2⟩:=b0l (l:=l) (cs:=cs) (ds:=ds) (by simpa using h1) (by simpa using h2)
  refine⟨by show(a7i cs ds).length+1=_;rw[q1];rfl,λs=>?_⟩
  show(if s=a then c+d else cAt l (a7i cs ds) s)=(if s=a then c else cAt l cs s)+(if s=a then d else cAt l ds s)
  by_cases e:s=a
  ·rw[e0c e,e0c e,e0c e]
  ·rw[d9z e,d9z e,d9z e];exact q2 s
theorem a7d:∀{l:List Nat},(oE l).length=l.length/\∀s,cAt l (oE l) s=0
 |[]=>⟨rfl,λs=>rfl⟩
 |a::l=>by
  obtain⟨q1,q2⟩:=a7d (l:=l)
  refine⟨by show(oE l).length+1=_;rw[q1];rfl,λs=>?_⟩
  show(if s=a then(0:Int)else cAt l (oE l) s)=0
  split
  ·rfl
  ·exact q2 s
def uX (acc:List Nat)(s:Nat):List Ro1->Int
  |[]=>0
  |r::rs=>cAt acc r.cs s+uX acc s rs
theorem xD (acc:List Nat)(s:Nat):∀(p q:List Ro1),uX acc s (p++q)=uX acc s p+uX acc s q
 |[],q=>by show _=0+_;rw[Int.zero_add];rfl
 |r::p,q=>by
  show cAt acc r.cs s+uX acc s (p++q)=cAt acc r.cs s+uX acc s p+uX acc s q
  rw[xD acc s p q,Int.add_assoc]
theorem a4w {acc:List Nat}:∀{rs:List Ro1} {cs:List Int},cs.length=acc.length->(∀r,r∈rs->r.cs.length=acc.length)->(rs.foldl (λc r=>a7i c r.cs) cs).length=acc.length/\∀s,cAt acc (rs.foldl (λc r=>a7i c r.cs) cs) s=cAt acc cs s+uX acc s rs
 |[],cs,h,_=>⟨h,λs=>by show _=_+(0:Int);rw[e6w];rfl⟩
 |r::rs,cs,h,hr=>by
  obtain⟨a1,a2⟩:=b0l h (hr r (d9y ..))
  obtain⟨q1,q2⟩:=a4w (rs:=rs) a1 λx hx=>hr x (d9v _ hx)
  refine⟨q1,λs=>?_⟩
  rw[e5j,q2,a2]
  show _=_+(cAt acc r.cs s+uX acc s rs)
  rw[Int.add_assoc]
theorem a9q:∀{l:List Nat} {ns cs:List Int} {tm:Tm} (K:Tm->Res),(∀t,t∈l->t<512)->a9p l ns cs tm K= .no\/∃tm',a9p l ns cs tm K=K tm'/\∀t,(t∉l->rdT t tm'=rdT t tm)/\(t∈l->l.Nodup->rdT t tm'= .i .i64 (cAt l ns t+cAt l cs t)/\IntKind.i64.wrap (cAt l ns t+cAt l cs t)=cAt l ns t+cAt l cs t)
 |[],[],[],tm,K,_=> .inr ⟨tm,rfl,λt=>⟨λ_=>rfl,λq=>(by cases q)⟩⟩
 |[],_::_,_,tm,K,_=> .inl rfl
 |[],[],_::_,tm,K,_=> .inl rfl
 |_::_,[],_,tm,K,_=> .inl rfl
 |_::_,_::_,[],tm,K,_=> .inl rfl
 |a::l,n::ns,c::cs,tm,K,hl=>by
  have e0:a9p (a::l) (n::ns) (c::cs) tm K=fI (Int.add n c) λx=>bif inR .i64 x then wtT a (.i .i64 x) tm λtm=>a9p l ns cs tm K else .no:=rfl
  rw[e0,a2c]
  cases hb:inR .i64 (Int.add n c)with
  |false=>exact .inl rfl
  |true=>
   simp only[e0q]
   rw[lF]
   have ha:=hl a (d9y ..)
   rcases a9q (l:=l) (ns:=ns) (cs:=cs) (tm:=stT a (.i .i64 (Int.add n c)) tm) K (λt ht=>hl t (d9v _ ht))with e1|⟨tm',e1,e2⟩
   ·exact .inl e1
   ·refine .inr ⟨tm',e1,λt=>⟨λht=>?_,λht hn=>?_⟩⟩
    ·rw[(e2 t).1 (λq=>ht (d9v _ q)),iS ha (λq=>ht (by rw[q];exact d9y ..))]
    ·rw[e2b]at hn
     show rdT t tm'= .i .i64 ((if t=a then n else cAt l ns t)+(if t=a then c else cAt l cs t))/\IntKind.i64.wrap ((if t=a then n else cAt l ns t)+(if t=a then c else cAt l cs t))=(if t=a then n else cAt l ns t)+(if t=a then c else cAt l cs t)
     by_cases e:t=a
     ·subst e
      simp only[e0c]
      exact⟨by rw[(e2 t).1 hn.1,sC ha];rfl,vY hb⟩
     ·simp only[d9z e]
      exact(e2 t).2 ((e0b.1 ht).resolve_left e) hn.2
set_option linter.unusedVariables false
open Go.Px (KT aJ KeyOk EqT eL)
def b2r (rs:List Ro1):List (List Int×List Lg):=(rs.map λr=>(r.k,r.ls)).reverse
def slR (mr:Mr):List Nat:=mr.n::mr.k::lJ mr.rest
structure PI (hs:Hs)(mr:Mr)(ih:Ih)(cx:Cx)(tm:Tm)(h:Hp)(nx:Id)(tm':Tm)(h':Hp)(nf:Id)(acc:List Nat)(ns:List Int)(iid mid:Id)(ag:Nat)(es:Es)(ids:List Id)(tm1:Tm)(h1:Hp)(nx1:Id)(rs:List Ro1):Prop where
  fl:cx.lm.fl=none
  it:rdT mr.it tm= .p iid 0
  hi:geH h iid=some (.it mid iid)
  hm:geH h mid=some (.m ag es (some (iid,none)))
  idn:ids.Nodup
  acn:acc.Nodup
  acd:∀s,s∈acc->s∈slR mr
  acx:∀s,s∈acc->s∉[mr.n,mr.k]
  pr:∀id,id∈iid::ids->bN id cx.lm.pr=false
  ini:iid∉ids
  inm:iid≠mid
  itd:mr.it∉slR mr
  sln:∀p,p∈slR mr->p<cx.n
  av:∀s,s∈acc->rdT s tm= .i .i64 (cAt acc ns s)/\IntKind.i64.wrap (cAt acc ns s)=cAt acc ns s
  t1:∀t,rdT t tm1=if t∈acc then .w t 0 else if t∈slR mr then .un else rdT t tm
  l1:∀id,(id∉ids\/id=mid)->geH h1 id=geH h id
  l2:∀id,id∈ids->id≠mid->∃o o',geH h id=some o/\opn o=some o'/\geH h1 id=some o'
  nxe:nx1.num=nx.num+1
  rse:rs.map (λr=>(r.k,r.v))=es
  rok:∀r,r∈rs->b6d ih cx mr ag es iid mid ids acc tm1 h1 nx nx1 r/\r.ne.num<=nf.num
  nf:nx1.num<=nf.num
  t2:∀t,(t∉acc->rdT t tm'=rdT t tm1)/\(t∈acc->rdT t tm'= .i .i64 (cAt acc ns t+uX acc t rs)/\IntKind.i64.wrap (cAt acc ns t+uX acc t rs)=cAt acc ns t+uX acc t rs)
  f1:geH h' iid=none
  f2:∀id,id∉ids->id≠iid->geH h' id=geH h1 id
  f3:∀i id,ids[i]?=some id->∃o l o',geH h id=some o/\uO i (b2r rs)=some l/\apO o l=some o'/\geH h' id=some o'
theorem kX {a b:Bool}(h:(a&&b)=true):a=true/\b=true:=by simpa using h
theorem c4l {hs:Hs}{mr:Mr}{ih:Ih}{cx:Cx}{tm:Tm}{h:Hp}{nx:Id}{e:Ex}{tm':Tm}{h':Hp}{nf:Id}(hn:cx.n<=512)(hr:b0o hs mr ih cx tm h nx= .ok e tm' h' nf):
  e= .exit mr.b/\∃acc ns iid mid ag es ids tm1 h1 nx1 rs,PI hs mr ih cx tm h nx tm' h' nf acc ns iid mid ag es ids tm1 h1 nx1 rs:=by
 unfold b0o at hr
 split at hr
 ·rename_i ht iid hht hfl hit
  split at hr
  ·rename_i mid g hiid
   split at hr
   ·rename_i ag es g' ids ns hmid hids hns
    generalize hacc:ht.acc=acc at*
    cases hb:(gH g iid&&(gH g' iid&&(c8v ids&&(c8w acc&&acc.all λs=>lN s (mr.n::mr.k::lJ mr.rest)&& !lN s [mr.n,mr.k])))&&((iid::ids).all (λid=> !bN id cx.lm.pr)&& !bN iid ids&&(!gH iid mid&&(!lN mr.it (mr.n::mr.k::lJ mr.rest)&&ltL (mr.n::mr.k::lJ mr.rest) cx.n))))with
    |false=>rw[hb]at hr;cases hr
    |true=>
     rw[hb]at hr
     simp only[e0q]at hr
     obtain⟨hb,hb'⟩:=kX hb
     obtain⟨b1,hb⟩:=kX hb
     obtain⟨b2,hb⟩:=kX hb
     obtain⟨b3,hb⟩:=kX hb
     obtain⟨b4,b5⟩:=kX hb
     obtain⟨hb,hb'⟩:=kX hb'
     obtain⟨b6,b7⟩:=kX hb
     obtain⟨b8,hb'⟩:=kX hb'
     obtain⟨b9,b10⟩:=kX hb'
     have b1:=bI.1 b1
     have b2:=bI.1 b2
     subst b1;subst b2
     have b3:=b3a b3
     have b4:=b3b b4
     have b5x:∀s,s∈acc->s∉[mr.n,mr.k]:=λs hs=>eW.1 (by have:=(kX (e1d.1 b5 s hs)).2;simpa using this)
     have b5:∀s,s∈acc->s∈slR mr:=λs hs=>eS.1 (kX (e1d.1 b5 s hs)).1
     have b6:∀id,id∈g'::ids->bN id cx.lm.pr=false:=λid hid=>by have:=e1d.1 b6 id hid;simpa using this
     have b7:g'∉ids:=gP.1 (by simpa using b7)
     have b8:g'≠mid:=dS.1 (by simpa using b8)
     have b9:mr.it∉slR mr:=eW.1 (show lN mr.it (mr.n::mr.k::lJ mr.rest)=false by simpa using b9)
     have b10:=c0v b10
     have hac5:∀t,t∈acc->t<512:=λt ht=>e1g (b10 t (b5 t ht)) hn
     obtain⟨tm0,u1,u2⟩:=c1m (mr.n::mr.k::lJ mr.rest) tm (λtm1=>d1g acc tm1 λtm1=>a8i mid ids h λh1=>nxI nx .no λnx'=>lD (oU ih cx mr ag es g' mid ids acc tm1 h1 nx nx') es (oE acc) [] nx' λcs lss nf=>a9p acc ns cs tm1 λtm2=>stH h1 g' none λh2=>pF ids 0 lss h h2 λh3=> .ok (.exit mr.b) tm2 h3 nf) (λt ht=>e1g (b10 t ht) hn)
     rw[u1]at hr
     obtain⟨tm1,v1,v2⟩:=a9r acc tm0 (λtm1=>a8i mid ids h λh1=>nxI nx .no λnx'=>lD (oU ih cx mr ag es g' mid ids acc tm1 h1 nx nx') es (oE acc) [] nx' λcs lss nf=>a9p acc ns cs tm1 λtm2=>stH h1 g' none λh2=>pF ids 0 lss h h2 λh3=> .ok (.exit mr.b) tm2 h3 nf) hac5
     rw[v1]at hr
     rcases a2r (mid:=mid) ids h (λh1=>nxI nx .no λnx'=>lD (oU ih cx mr ag es g' mid ids acc tm1 h1 nx nx') es (oE acc) [] nx' λcs lss nf=>a9p acc ns cs tm1 λtm2=>stH h1 g' none λh2=>pF ids 0 lss h h2 λh3=> .ok (.exit mr.b) tm2 h3 nf) b3 with w1|⟨h1,w1,w2,w3⟩
     ·rw[w1]at hr;cases hr
     ·rw[w1]at hr
      rcases fK nx Res.no (λnx'=>lD (oU ih cx mr ag es g' mid ids acc tm1 h1 nx nx') es (oE acc) [] nx' λcs lss nf=>a9p acc ns cs tm1 λtm2=>stH h1 g' none λh2=>pF ids 0 lss h h2 λh3=> .ok (.exit mr.b) tm2 h3 nf)with x1|⟨nx1,x1,x2⟩
      ·rw[x1]at hr;cases hr
      ·rw[x1]at hr
       rcases a0b (Ok:=b6d ih cx mr ag es g' mid ids acc tm1 h1 nx nx1) (λk v K=>b4i k v K) es (oE acc) [] nx1 (λcs lss nf=>a9p acc ns cs tm1 λtm2=>stH h1 g' none λh2=>pF ids 0 lss h h2 λh3=> .ok (.exit mr.b) tm2 h3 nf)with y1|⟨rs,mf,y1,y2,y3,y4⟩
       ·rw[y1]at hr;cases hr
       ·rw[y4]at hr
        obtain⟨av1,av2⟩:=a9s hns
        obtain⟨z1,z2⟩:=a7d (l:=acc)
        have hcs:∀r,r∈rs->r.cs.length=acc.length:=λr hr=>by
         obtain⟨⟨tmE,hE,_,q2,_⟩,_⟩:=y2 r hr
         exact(a1k q2).1
        obtain⟨f1,f2⟩:=a4w (acc:=acc) (rs:=rs) (cs:=oE acc) z1 hcs
        rcases a9q (ns:=ns) (cs:=rs.foldl (λc r=>a7i c r.cs) (oE acc)) (tm:=tm1) (λtm2=>stH h1 g' none λh2=>pF ids 0 ((rs.map λr=>(r.k,r.ls)).reverse++[]) h h2 λh3=> .ok (.exit mr.b) tm2 h3 mf) hac5 with a1|⟨tm2,a1,a2⟩
        ·rw[a1]at hr;cases hr
        ·rw[a1,dH]at hr
         rcases a4e (lss:=(rs.map λr=>(r.k,r.ls)).reverse++[]) (h0:=h) (K:=λh3=> .ok (.exit mr.b) tm2 h3 mf) (ids:=ids) (j:=0) (h:=eK h1 g' none) b3 with c1|⟨h3,c1,c2,c3⟩
         ·rw[c1]at hr;cases hr
         ·rw[c1]at hr
          cases hr
          refine⟨rfl,acc,ns,g',mid,ag,es,ids,tm1,h1,nx1,rs,hfl,hit,hiid,hmid,b3,b4,b5,b5x,b6,b7,b8,b9,b10,av2,λt=>?_,w2,w3,x2,y1,y2,y3,λt=>⟨(a2 t).1,λht=>?_⟩,?_,λid q1 q2=>?_,λi id hid=>?_⟩
          ·rw[v2,u2];rfl
          ·have:=(a2 t).2 ht b4
           rw[f2,z2,Int.zero_add]at this
           exact this
          ·rw[c2 _ b7,vS]
          ·rw[c2 _ q1,fU _ q2]
          ·obtain⟨o,l,o',q1,q2,q3,q4⟩:=c3 i id hid
           rw[e0f,e7o]at q2
           exact⟨o,l,o',q1,q2,q3,q4⟩
   ·cases hr
  ·cases hr
 ·cases hr
def pO (i:Nat)(r:Ro1):List (List Int×Option V):=match r.ls[i]? with
  |some (.m _ l)=>l
  |some (.d th)=>dlL (r.k,th)
  |_=>[]
def a1p (i:Nat)(r:Ro1):List (Nat×V):=match r.ls[i]? with
  |some (.c l)=>l
  |_=>[]
theorem Fin.congr {R R':List (List (List Int×Option V))}{es esF:Es}(h:Fin R es esF)(hm:∀x,x∈R'↔x∈R):Fin R' es esF:=⟨λl hl=>h.a l ((hm l).1 hl),λk hk=>h.b k λl hl=>hk l ((hm l).2 hl)⟩
theorem FinC.congr {R R':List (List (Nat×V))}{cs csF:List V}(h:FinC R cs csF)(hm:∀x,x∈R'↔x∈R):FinC R' cs csF:=⟨h.l,λl hl=>h.a l ((hm l).1 hl),λk hk=>h.b k λl hl=>hk l ((hm l).2 hl)⟩
theorem a5r {i:Nat}:∀{lss:List (List Int×List Lg)} {l:List (List Int×Lg)},uO i lss=some l->l.map (λp=>(p.1,some p.2))=lss.map λp=>(p.1,p.2[i]?)
 |[],l,h=>by cases h;rfl
 |(k0,ls0)::lss,l,h=>by
  have h:(match nth ls0 i,uO i lss with
   |some x,some m=>some ((k0,x)::m)
   |_,_=>none)=some l:=h
  split at h
  ·rename_i x m h1 h2
   cases h
   rw[uP]at h1
   rw[e0o,e0o,a5r h2,h1]
  ·cases h
theorem c0u {ag:Nat}:∀{l:List Lg} {lgs:List (List (List Int×Option V))},lgM ag l=some lgs->l=lgs.map (Lg.m ag)
 |[],lgs,h=>by cases h;rfl
 | .m a x::l,lgs,h=>by
  have h:(bif Nat.beq a ag then(lgM ag l).map (x:: ·)else none)=some lgs:=h
  cases hb:Nat.beq a ag with
  |false=>rw[hb]at h;cases h
  |true=>
   rw[hb]at h
   have:=d9s hb
   subst this
   obtain⟨r,h1,rfl⟩:=e0u.1 (show(lgM a l).map (x:: ·)=some lgs from h)
   rw[e0o,<-c0u h1]
 | .c x::l,lgs,h=>by cases h
 | .d x::l,lgs,h=>by cases h
theorem c0t:∀{l:List Lg} {lgs:List (List (Nat×V))},lgC l=some lgs->l=lgs.map Lg.c
 |[],lgs,h=>by cases h;rfl
 | .c x::l,lgs,h=>by
  obtain⟨r,h1,rfl⟩:=e0u.1 (show(lgC l).map (x:: ·)=some lgs from h)
  rw[e0o,<-c0t h1]
 | .m _ x::l,lgs,h=>by cases h
 | .d x::l,lgs,h=>by cases h
theorem c0j:∀{l:List (List Int×Lg)} {ps:List (List Int×Bool)},dlP l=some ps->l=ps.map λp=>(p.1,Lg.d p.2)
 |[],ps,h=>by cases h;rfl
 |(k,.d th)::l,ps,h=>by
  obtain⟨r,h1,rfl⟩:=e0u.1 (show(dlP l).map ((k,th):: ·)=some ps from h)
  rw[e0o,<-c0j h1]
 |(k,.m _ x)::l,ps,h=>by cases h
 |(k,.c x)::l,ps,h=>by cases h
theorem a5j {i:Nat}{rs:List Ro1}{l:List (List Int×Lg)}(hl:uO i (b2r rs)=some l):(∀r,r∈rs->∃x,r.ls[i]?=some x/\(r.k,x)∈l)/\∀p,p∈l->∃r,r∈rs/\r.k=p.1/\r.ls[i]?=some p.2:=by
 have hm:=a5r hl
 unfold b2r at hm
 rw[List.map_reverse,e7l]at hm
 constructor
 ·intro r hr
  have h1:(r.k,r.ls[i]?)∈l.map λp=>(p.1,some p.2):=by
   rw[hm,List.mem_reverse]
   exact e0l.2 ⟨r,hr,rfl⟩
  obtain⟨p,hp,he⟩:=e0l.1 h1
  rw[e0i]at he
  exact⟨p.2,he.2.symm,by rw[<-he.1];exact hp⟩
 ·intro p hp
  have h1:(p.1,some p.2)∈l.map λp=>(p.1,some p.2):=e0l.2 ⟨p,hp,rfl⟩
  rw[hm,List.mem_reverse]at h1
  obtain⟨r,hr,he⟩:=e0l.1 h1
  have he:(r.k,r.ls[i]?)=(p.1,some p.2):=he
  rw[e0i]at he
  exact⟨r,hr,he.1,he.2⟩
theorem a2f {i:Nat}{rs:List Ro1}{l:List (List Int×Lg)}(hl:uO i (b2r rs)=some l){a:Nat}{es:Es}{op:Option (Id×Option (List Int))}{o':O}(hn:(es.map (·.1)).Nodup)(ho:apO (.m a es op) l=some o'):
  ∃esF,o'= .m a esF none/\Fin (rs.map (pO i)) es esF/\(esF.map (·.1)).Nodup/\∀r,r∈rs->(∃x,r.ls[i]?=some (.m a x))\/∃th,r.ls[i]?=some (.d th):=by
 obtain⟨m1,m2⟩:=a5j hl
 have viaM:∀lss,lgM a (l.map (·.2))=some lss->(c7b lss [] es).map (λes=>O.m a es none)=some o'->∃esF,o'= .m a esF none/\Fin (rs.map (pO i)) es esF/\(esF.map (·.1)).Nodup/\∀r,r∈rs->(∃x,r.ls[i]?=some (.m a x))\/∃th,r.ls[i]?=some (.d th):=by
  intro lss h1 h2
  obtain⟨esF,h3,rfl⟩:=e0u.1 h2
  obtain⟨q1,q2,_⟩:=a9x hn h3
  have h1:=c0u h1
  have hr:∀r,r∈rs->∃x,r.ls[i]?=some (.m a x)/\x∈lss:=by
   intro r hr
   obtain⟨x,x1,x2⟩:=m1 r hr
   have:x∈lss.map (Lg.m a):=by rw[<-h1];exact e0l.2 ⟨_,x2,rfl⟩
   obtain⟨y,hy,rfl⟩:=e0l.1 this
   exact⟨y,x1,hy⟩
  refine⟨esF,rfl,q1.congr λy=>⟨λhy=>?_,λhy=>?_⟩,q2,λr hr'=> .inl (let⟨x,hx,_⟩:=hr r hr';⟨x,hx⟩)⟩
  ·obtain⟨r,hr',rfl⟩:=e0l.1 hy
   obtain⟨x,x1,x2⟩:=hr r hr'
   unfold pO;rw[x1];exact x2
  ·have:Lg.m a y∈l.map (·.2):=by rw[h1];exact e0l.2 ⟨y,hy,rfl⟩
   obtain⟨p,hp,he⟩:=e0l.1 this
   obtain⟨r,r1,r2,r3⟩:=m2 p hp
   refine e0l.2 ⟨r,r1,?_⟩
   unfold pO;rw[r3,he]
 unfold apO at ho
 simp only at ho
 split at ho
 ·rename_i k0 th0 l0
  obtain⟨esF,h3,rfl⟩:=e0u.1 ho
  obtain⟨ps,q0,q1,q2,_⟩:=b2p hn h3
  have h1:=c0j q0
  have hr:∀r,r∈rs->∃th,r.ls[i]?=some (.d th)/\(r.k,th)∈ps:=by
   intro r hr
   obtain⟨x,x1,x2⟩:=m1 r hr
   rw[h1]at x2
   obtain⟨p,hp,he⟩:=e0l.1 x2
   rw[e0i]at he
   exact⟨p.2,by rw[x1,<-he.2],by rw[<-he.1];exact hp⟩
  refine⟨esF,rfl,q1.congr λy=>⟨λhy=>?_,λhy=>?_⟩,q2,λr hr'=> .inr (let⟨x,hx,_⟩:=hr r hr';⟨x,hx⟩)⟩
  ·obtain⟨r,hr',rfl⟩:=e0l.1 hy
   obtain⟨th,x1,x2⟩:=hr r hr'
   refine e0l.2 ⟨(r.k,th),x2,?_⟩
   unfold pO;rw[x1]
  ·obtain⟨p,hp,rfl⟩:=e0l.1 hy
   obtain⟨r,r1,r2,r3⟩:=m2 (p.1,Lg.d p.2) (by rw[h1];exact e0l.2 ⟨p,hp,rfl⟩)
   refine e0l.2 ⟨r,r1,?_⟩
   have r3:r.ls[i]?=some (.d p.2):=r3
   have r2:r.k=p.1:=r2
   unfold pO;rw[r3,r2]
 ·split at ho
  ·rename_i lss h1;exact viaM lss h1 ho
  ·cases ho
theorem c7v {i:Nat}{rs:List Ro1}{l:List (List Int×Lg)}(hl:uO i (b2r rs)=some l){cs:List V}{o':O}(ho:apO (.c cs) l=some o'):
  ∃csF,o'= .c csF/\FinC (rs.map (a1p i)) cs csF/\∀r,r∈rs->∃x,r.ls[i]?=some (.c x):=by
 obtain⟨m1,m2⟩:=a5j hl
 unfold apO at ho
 simp only at ho
 split at ho
 ·rename_i lss h1
  obtain⟨csF,h3,rfl⟩:=e0u.1 ho
  obtain⟨q1,_⟩:=a9w h3
  have h1:=c0t h1
  have hr:∀r,r∈rs->∃x,r.ls[i]?=some (.c x)/\x∈lss:=by
   intro r hr
   obtain⟨x,x1,x2⟩:=m1 r hr
   have:x∈lss.map Lg.c:=by rw[<-h1];exact e0l.2 ⟨_,x2,rfl⟩
   obtain⟨y,hy,rfl⟩:=e0l.1 this
   exact⟨y,x1,hy⟩
  refine⟨csF,rfl,q1.congr λy=>⟨λhy=>?_,λhy=>?_⟩,λr hr'=>let⟨x,hx,_⟩:=hr r hr';⟨x,hx⟩⟩
  ·obtain⟨r,hr',rfl⟩:=e0l.1 hy
   obtain⟨x,x1,x2⟩:=hr r hr'
   unfold a1p;rw[x1];exact x2
  ·have:Lg.c y∈l.map (·.2):=by rw[h1];exact e0l.2 ⟨y,hy,rfl⟩
   obtain⟨p,hp,he⟩:=e0l.1 this
   obtain⟨r,r1,r2,r3⟩:=m2 p hp
   refine e0l.2 ⟨r,r1,?_⟩
   unfold a1p;rw[r3,he]
 ·cases ho
theorem wG {h:Hp}{mid:Id}{ag:Nat}{k:List Int}{nx:Id}:∀{ids:List Id} {ls:List Lg},c3p h mid ag k nx ids=some ls->∀(i:Nat) (id:Id),ids[i]?=some id->
  (id≠mid/\((∃a x,geH h id=some (.lg a x)/\ls[i]?=some (Lg.m a x))\/∃n x,geH h id=some (.lc n x)/\ls[i]?=some (Lg.c x)))\/(id=mid/\∃v th,geH h id=some (.dl ag k v th nx)/\ls[i]?=some (Lg.d th))
 |[],ls,_,i,id,hi=>by simp at hi
 |x::ids,ls,h1,i,id,hi=>by
  have h1:(match geH h x,c3p h mid ag k nx ids with
   |some (.lg a y),some r=>bif gH x mid then none else some (.m a y::r)
   |some (.lc _ y),some r=>bif gH x mid then none else some (.c y::r)
   |some (.dl a k' _ th g),some r=>bif gH x mid&&(Nat.beq a ag&&(kq k' k&&gH g nx))then some (.d th::r)else none
   |_,_=>none)=some ls:=h1
  split at h1
  ·rename_i a y r e1 e2
   cases hb:gH x mid with
   |true=>rw[hb]at h1;cases h1
   |false=>
    rw[hb]at h1;cases h1
    cases i with
    |zero=>cases hi;exact .inl ⟨dS.1 hb,.inl ⟨a,y,e1,rfl⟩⟩
    |succ i=>exact wG e2 i id hi
  ·rename_i n y r e1 e2
   cases hb:gH x mid with
   |true=>rw[hb]at h1;cases h1
   |false=>
    rw[hb]at h1;cases h1
    cases i with
    |zero=>cases hi;exact .inl ⟨dS.1 hb,.inr ⟨n,y,e1,rfl⟩⟩
    |succ i=>exact wG e2 i id hi
  ·rename_i a k' v th g r e1 e2
   cases hb:(gH x mid&&(Nat.beq a ag&&(kq k' k&&gH g nx)))with
   |false=>rw[hb]at h1;cases h1
   |true=>
    rw[hb]at h1;cases h1
    obtain⟨b1,hb⟩:=kX hb
    obtain⟨b2,hb⟩:=kX hb
    obtain⟨b3,b4⟩:=kX hb
    have b1:=bI.1 b1
    have b2:=d9s b2
    rw[fG]at b3
    have b3:=e2u b3
    have b4:=bI.1 b4
    cases i with
    |zero=>cases hi;exact .inr ⟨b1,v,th,by rw[e1,b2,b3,b4],rfl⟩
    |succ i=>exact wG e2 i id hi
  ·cases h1
set_option linter.unusedVariables false
open Go.Px (KT aJ KeyOk EqT eL)
def ixI (id:Id):List Id->Nat
  |[]=>0
  |x::l=>if id=x then 0 else ixI id l+1
theorem uF {id:Id}:∀{l:List Id} {i:Nat},l.Nodup->l[i]?=some id->ixI id l=i
 |[],i,_,h=>by simp at h
 |x::l,0,hn,h=>by cases h;exact e0c rfl
 |x::l,i+1,hn,h=>by
  rw[e2b]at hn
  have h:l[i]?=some id:=h
  have hne:id≠x:=λe=>hn.1 (e▸e1j h)
  show(if id=x then 0 else ixI id l+1)=i+1
  rw[d9z hne,uF hn.2 h]
def hhF (iid mid:Id)(ag:Nat)(h1:Hf)(esm:Es):Hf:=λid=>if id=iid then none else if id=mid then some (.m ag esm none)else h1 id
structure Bs (cx:Cx)(mr:Mr)(tm:Tm)(h:Hp)(nx nf:Id)(iid mid:Id)(ag:Nat)(es:Es)(Ow0:Nat->Prop)(ρ:Rh)(Fr:Id->Prop)(a0:Act)(W0:World)(li lm:Lc)(ents0:Array MapEntry)(clock:Nat):Prop where
  sr:SR Vl.z Ow0 ρ cx.n (tmF tm) (geH h) Fr a0 W0
  fr:∀id,Rg nx.num nf.num id->Fr id
  ri:ρ iid=some li
  rm:ρ mid=some lm
  lo:li.o=0
  mp:li.mp= .map ents0 clock
  hi:W0.heap[li.b]?=some (.mapIter (some lm.b) clock #[] clock)
  hm:W0.heap[lm.b]?=some (.map ents0 clock)
  mo:Mok Vl.z ρ ag es ents0 clock
  ow:Ow0 li.b
  inb:∀id l,geH h id≠none->id≠iid->ρ id=some l->l.b≠li.b
structure Head (cx:Cx)(tm1:Tm)(h1 h':Hp)(acc:List Nat)(ns:List Int)(iid mid:Id)(ag:Nat)(es:Es)(ids:List Id)(rs:List Ro1)(Ow0:Nat->Prop)(ρ:Rh)(Fr:Id->Prop)(a0:Act)(W0:World)(li lm:Lc)(ents0:Array MapEntry)(clock:Nat)(R:List Ro1)(a1:Act)(W1:World)(E1:Vl)(Ow1:Nat->Prop)(esm:Es)(ents1:Array MapEntry)(seen:Array Nat):Prop where
  sub:∀b,Ow1 b->Ow0 b
  gr:Gr Ow0 W0 W1
  dm:Dm Ow0 a0 a1
  sr:SR E1 Ow1 ρ cx.n (tmF tm1) (hhF iid mid ag (geH h1) esm) Fr a1 W1
  itb:W1.heap[li.b]?=some (.mapIter (some lm.b) clock seen clock)
  ito:Ow1 li.b
  map:W1.heap[lm.b]?=some (.map ents1 clock)
  mo:Mok Vl.z ρ ag esm ents1 clock
  nomid:mid∉ids->esm=es/\ents1=ents0
  nd:(R.map (·.k)).Nodup
  r1:∀e,e∈ents1.toList->seen.contains e.born=false->∃r,r∈R/\e.key=aJ (cU ag) r.k/\r.k.length=(cU ag).n/\RV Vl.z ρ r.v e.val
  r2:∀r,r∈R->r.k.length=(cU ag).n/\∃e,e∈ents1.toList/\e.key=aJ (cU ag) r.k/\seen.contains e.born=false
  X:∀s,s∈acc->E1.X s=some (cAt acc ns s+uX acc s rs-uX acc s R)
  B:∀i id a esF,ids[i]?=some id->id≠mid->geH h' id=some (.m a esF none)->∃es1,E1.B id=some es1/\(es1.map (·.1)).Nodup/\Fin (R.map (pO i)) es1 esF/\∀k v,(k,v)∈es1->Kn ρ v
  C:∀i id csF,ids[i]?=some id->id≠mid->geH h' id=some (.c csF)->∃cs1,E1.C id=some cs1/\FinC (R.map (a1p i)) cs1 csF/\∀v,v∈cs1->Kn ρ v
  D:∀i esF,ids[i]?=some mid->geH h' mid=some (.m ag esF none)->E1.B mid=some esm/\Fin (R.map (pO i)) esm esF
section
variable {hs:Hs} {mr:Mr} {ih:Ih} {cx:Cx} {tm:Tm} {h:Hp} {nx:Id} {tm':Tm} {h':Hp} {nf:Id} {acc:List Nat} {ns:List Int} {iid mid:Id} {ag:Nat} {es:Es} {ids:List Id} {tm1:Tm} {h1:Hp} {nx1:Id} {rs:List Ro1}
variable {Ow0:Nat->Prop} {ρ:Rh} {Fr:Id->Prop} {a0:Act} {W0:World} {li lm:Lc} {ents0:Array MapEntry} {clock:Nat}
theorem jZ {o o':O}{l:List (List Int×Lg)}(h:apO o l=some o'):(∃a es op esF,o= .m a es op/\o'= .m a esF none)\/∃cs csF,o= .c cs/\o'= .c csF:=by
 unfold apO at h
 split at h
 ·rename_i a es op
  refine .inl ⟨a,es,op,?_⟩
  split at h
  ·obtain⟨esF,_,q⟩:=e0u.1 h;exact⟨esF,rfl,q.symm⟩
  ·split at h
   ·obtain⟨esF,_,q⟩:=e0u.1 h;exact⟨esF,rfl,q.symm⟩
   ·cases h
 ·rename_i cs
  refine .inr ⟨cs,?_⟩
  split at h
  ·obtain⟨csF,_,q⟩:=e0u.1 h;exact⟨csF,rfl,q.symm⟩
  ·cases h
 ·cases h
theorem mY {ρ:Rh}{W:World}{id:Id}{l:Lc}{o:O}(h:RO Vl.z ρ W id l o):tG o=false:=by
 cases o with
 |lg a x=>obtain⟨es,q,_⟩:=h;cases q
 |lc n x=>obtain⟨cs,q,_⟩:=h;cases q
 |dl a k v th g=>obtain⟨_,_,_,_,_,_,_,_,_,_,_,_,_,es,q,_⟩:=h;cases q
 |_=>rfl
theorem c2c (hp:PI hs mr ih cx tm h nx tm' h' nf acc ns iid mid ag es ids tm1 h1 nx1 rs)(hsr:SR Vl.z Ow0 ρ cx.n (tmF tm) (geH h) Fr a0 W0)(hfr:∀id,Rg nx.num nf.num id->Fr id):∃li lm ents0 clock,Bs cx mr tm h nx nf iid mid ag es Ow0 ρ Fr a0 W0 li lm ents0 clock:=by
 obtain⟨li,r1,r2,r3,lg,lm,q1,q2,q3,q4⟩:=hsr.hr.obj iid _ hp.hi
 rw[r1]at q1;cases q1
 obtain⟨lm',s1,s2,s3,ents0,clock,s4,s5,s6⟩:=hsr.hr.obj mid _ hp.hm
 rw[q2]at s1;cases s1
 obtain⟨lg',t1,t2,_⟩:=s6 iid none rfl
 rw[r1]at t1;cases t1
 rcases q4 with⟨_,ents,cl,u1,u2⟩|⟨u1,_⟩
 ·rw[t2]at u1;cases u1
  exact⟨li,lm,ents0,clock,hsr,hfr,r1,q2,q3,t2,u2,s4,s5,r2,λid l hid hne hl e=>hne (hsr.hr.inj id iid l li hid (by rw[hp.hi];simp) hl r1 e)⟩
 ·exact absurd rfl u1
theorem Bs.nrg (hb:Bs cx mr tm h nx nf iid mid ag es Ow0 ρ Fr a0 W0 li lm ents0 clock){id:Id}{l:Lc}(hl:ρ id=some l):¬Rg nx.num nf.num id:=λq=>by
 have:=hb.sr.hr.fr id (hb.fr id q);rw[hl]at this;cases this
theorem PI.dom (hp:PI hs mr ih cx tm h nx tm' h' nf acc ns iid mid ag es ids tm1 h1 nx1 rs){esm:Es}{id:Id}(hid:hhF iid mid ag (geH h1) esm id≠none):geH h id≠none/\id≠iid:=by
 unfold hhF at hid
 split at hid
 ·exact absurd rfl hid
 ·rename_i e
  refine⟨?_,e⟩
  split at hid
  ·rename_i e2;rw[e2,hp.hm];simp
  ·rename_i e2
   by_cases hi:id∈ids
   ·obtain⟨o,o',q1,_⟩:=hp.l2 id hi e2;rw[q1];simp
   ·rw[<-hp.l1 id (.inl hi)];exact hid
theorem a8d (hp:PI hs mr ih cx tm h nx tm' h' nf acc ns iid mid ag es ids tm1 h1 nx1 rs)(hb:Bs cx mr tm h nx nf iid mid ag es Ow0 ρ Fr a0 W0 li lm ents0 clock):
  ∃E1,Head cx tm1 h1 h' acc ns iid mid ag es ids rs Ow0 ρ Fr a0 W0 li lm ents0 clock rs a0 W0 E1 Ow0 es ents0 #[]:=by
 let Bf:Id->Option Es:=λid=>match geH h id with
  |some (.m _ es' _)=>some es'
  |_=>none
 let Cf:Id->Option (List V):=λid=>match geH h id with
  |some (.c cs)=>some cs
  |_=>none
 let Xf:Nat->Option Int:=λs=>if s∈acc then some (cAt acc ns s)else none
 have hkn:∀{id o},geH h id=some o->∃l,ρ id=some l/\Ow0 l.b/\l.b<W0.heap.size/\RO Vl.z ρ W0 id l o:=λ{id o} ho=>hb.sr.hr.obj id o ho
 refine⟨⟨Xf,Bf,Cf⟩,λ_ q=>q,Gr.refl _ _,Dm.of_eq rfl,⟨⟨hb.sr.rt.size,λt=>?_⟩,⟨λid o hid=>?_,λi j li' lj hi hj=>?_,hb.sr.hr.fr,hb.sr.hr.up⟩,hb.sr.df⟩,hb.hi,hb.ow,hb.hm,hb.mo,λ_=>⟨rfl,rfl⟩,?_,λe he _=>?_,λr hr=>?_,λs hs=>?_,λi id a esF hi hne hF=>?_,λi id csF hi hne hF=>?_,λi esF hi hF=>?_⟩
 ·have h0:=hb.sr.rt.get t
  show RV _ ρ (rdT t tm1) _
  rw[hp.t1]
  by_cases h1:t∈acc
  ·rw[e0c h1]
   have h0:RV Vl.z ρ (rdT t tm) _:=h0
   rw[(hp.av t h1).1]at h0
   refine⟨cAt acc ns t,e0c h1,?_⟩
   rw[e6w,(hp.av t h1).2];exact h0
  ·rw[d9z h1]
   split
   ·trivial
   ·exact RV.up h0
 ·have hd:=hp.dom (esm:=es) (id:=id) (by rw[hid];simp)
  unfold hhF at hid
  rw[d9z hd.2]at hid
  split at hid
  ·rename_i e;cases hid;subst e
   obtain⟨l,q1,q2,q3,ents,cl,q4,q5,q6⟩:=hkn hp.hm
   exact⟨l,q1,q2,q3,ents,cl,q4,q5.up,λg k q=>(by cases q)⟩
  ·rename_i e
   by_cases hi:id∈ids
   ·obtain⟨o0,o',q1,q2,q3⟩:=hp.l2 id hi e
    rw[hid]at q3;cases q3
    obtain⟨l,s1,s2,s3,s4⟩:=hkn q1
    refine⟨l,s1,s2,s3,?_⟩
    cases o0<;>first|cases q2|skip
    ·rename_i cs
     exact⟨cs,by show Cf id=_;simp only[Cf,q1],rfl,RO.up (E:=⟨Xf,Bf,Cf⟩) s4 rfl⟩
    ·rename_i a es' op
     obtain⟨ents,cl,q4,q5,q6⟩:=s4
     exact⟨es',by show Bf id=_;simp only[Bf,q1],ents,cl,q4,q5.up,λg k q=>(by cases q)⟩
   ·rw[hp.l1 id (.inl hi)]at hid
    obtain⟨l,s1,s2,s3,s4⟩:=hkn hid
    exact⟨l,s1,s2,s3,RO.up s4 (mY s4)⟩
 ·exact hb.sr.hr.inj i j li' lj (hp.dom hi).1 (hp.dom hj).1
 ·have:=hb.mo.kd
  rw[<-hp.rse,e7l]at this
  exact this
 ·obtain⟨k,v,q1,q2,q3,q4⟩:=hb.mo.ent e he
  rw[<-hp.rse]at q1
  obtain⟨r,hr,e1⟩:=e0l.1 q1
  cases e1
  exact⟨r,hr,q3,q2,q4⟩
 ·obtain⟨q0,e,q1,q2⟩:=hb.mo.all r.k r.v (by rw[<-hp.rse];exact e0l.2 ⟨r,hr,rfl⟩)
  exact⟨q0,e,q1,q2,by simp⟩
 ·show(if s∈acc then some (cAt acc ns s)else none)=_
  rw[e0c hs];congr 1;omega
 ·obtain⟨o,l,o',q1,q2,q3,q4⟩:=hp.f3 i id hi
  rw[hF]at q4;cases q4
  obtain⟨lc,s1,s2,s3,s4⟩:=hkn q1
  rcases jZ q3 with⟨a',es',op,esF',rfl,z⟩|⟨_,_,_,z⟩<;>cases z
  obtain⟨ents,cl,q4,q5,q6⟩:=s4
  obtain⟨esF',z1,z2,z3,z4⟩:=a2f q2 q5.kd q3
  cases z1
  exact⟨es',by show Bf id=_;simp only[Bf,q1],q5.kd,z2,q5.known⟩
 ·obtain⟨o,l,o',q1,q2,q3,q4⟩:=hp.f3 i id hi
  rw[hF]at q4;cases q4
  obtain⟨lc,s1,s2,s3,s4⟩:=hkn q1
  rcases jZ q3 with⟨_,_,_,_,_,z⟩|⟨cs,csF',rfl,z⟩<;>cases z
  obtain⟨csF',z1,z2,z3⟩:=c7v q2 q3
  cases z1
  obtain⟨c,T,y1,y2,y3,y4⟩:=s4
  refine⟨cs,by show Cf id=_;simp only[Cf,q1],z2,λv hv=>?_⟩
  obtain⟨j,hj⟩:=e2g hv
  exact⟨_,(y4 j v hj).1⟩
 ·obtain⟨o,l,o',q1,q2,q3,q4⟩:=hp.f3 i mid hi
  rw[hF]at q4;cases q4
  rw[hp.hm]at q1;cases q1
  obtain⟨esF',z1,z2,z3,z4⟩:=a2f q2 hb.mo.kd q3
  cases z1
  exact⟨by show Bf mid=_;simp only[Bf,hp.hm],z2⟩
end
set_option linter.unusedVariables false
open Go.Px (KT aJ KeyOk EqT eL)
section
variable {P:Program} {hs:Hs} {mr:Mr} {ih:Ih} {cx:Cx} {tm:Tm} {h:Hp} {nx:Id} {tm':Tm} {h':Hp} {nf:Id} {acc:List Nat} {ns:List Int} {iid mid:Id} {ag:Nat} {es:Es} {ids:List Id} {tm1:Tm} {h1:Hp} {nx1:Id} {rs:List Ro1}
variable {Ow0:Nat->Prop} {ρ:Rh} {Fr:Id->Prop} {a0:Act} {W0:World} {li lm:Lc} {ents0:Array MapEntry} {clock:Nat}
variable {R:List Ro1} {a1:Act} {W1:World} {E1:Vl} {Ow1:Nat->Prop} {esm:Es} {ents1:Array MapEntry} {seen:Array Nat}
def fP (h1:Hp)(iid mid:Id)(ids:List Id)(ag:Nat)(es:Es)(nx:Id)(r:Ro1):Hf:=
  upH (upH (geH h1) iid (some (.it mid nx))) mid (some (bif bN mid ids then .dl ag r.k r.v true nx else .m ag es (some (nx,some r.k))))
def lcR (lm:Lc)(ents1:Array MapEntry)(clock:Nat)(seen:Array Nat)(e:MapEntry):Lc:=⟨e.born,clock,0,.mapIter (some lm.b) clock (seen.push e.born) clock,.map ents1 clock⟩
theorem b9p (hp:PI hs mr ih cx tm h nx tm' h' nf acc ns iid mid ag es ids tm1 h1 nx1 rs)(hb:Bs cx mr tm h nx nf iid mid ag es Ow0 ρ Fr a0 W0 li lm ents0 clock)(hh:Head cx tm1 h1 h' acc ns iid mid ag es ids rs Ow0 ρ Fr a0 W0 li lm ents0 clock R a1 W1 E1 Ow1 esm ents1 seen)
  {r:Ro1} {e:MapEntry} (he:e∈ents1.toList) (hek:e.key=aJ (cU ag) r.k) (hkl:r.k.length=(cU ag).n) (hev:RV Vl.z ρ r.v e.val) {W2:World} (w1:W2.heap[li.b]?=some (.mapIter (some lm.b) clock (seen.push e.born) clock)) (w2:∀b,b≠li.b->W2.heap[b]?=W1.heap[b]?) (w3:W2.heap.size=W1.heap.size):
  HR E1 Ow1 (upR ρ nx (lcR lm ents1 clock seen e)) (fP h1 iid mid ids ag es nx r) (λj=>Fr j/\j≠nx) W2:=by
 have hnx:ρ nx=none:=hb.sr.hr.fr nx (hb.fr nx ⟨e0g _,by have:=hp.nxe;have:=hp.nf;omega⟩)
 have hle:=dN (l:=lcR lm ents1 clock seen e) hnx
 have hmb:lm.b≠li.b:=hb.inb mid lm (by rw[hp.hm];simp) (λz=>hp.inm z.symm) hb.rm
 have hmid:hhF iid mid ag (geH h1) esm mid=some (.m ag esm none):=by unfold hhF;rw[d9z (λz=>hp.inm z.symm),e0c rfl]
 have hsz:∀{b o},W1.heap[b]?=some o->b<W2.heap.size:=λ{b o} q=>by rw[w3];exact(d9w.1 q).1
 have hst:∀{id},id≠mid->id≠iid->fP h1 iid mid ids ag es nx r id=hhF iid mid ag (geH h1) esm id:=λ{id} q1 q2=>by
  unfold fP upH hhF;rw[d9z q1,d9z q2,d9z q2,d9z q1]
 have hdom:∀{id},fP h1 iid mid ids ag es nx r id≠none->geH h id≠none:=λ{id} hid=>by
  by_cases q1:id=mid
  ·rw[q1,hp.hm];simp
  ·by_cases q2:id=iid
   ·rw[q2,hp.hi];simp
   ·rw[hst q1 q2]at hid;exact(hp.dom hid).1
 have hback:∀{id l},geH h id≠none->upR ρ nx (lcR lm ents1 clock seen e) id=some l->ρ id=some l:=λ{id l} hid hl=>by
  have hne:id≠nx:=λz=>by
   cases ho:geH h id with
   |none=>exact hid ho
   |some o=>obtain⟨l',q,_⟩:=hb.sr.hr.obj id o ho;rw[z,hnx]at q;cases q
  unfold upR at hl;rwa[d9z hne]at hl
 refine⟨λid o hid=>?_,λi j l1 l2 hi hj r1 r2 eb=>hb.sr.hr.inj i j l1 l2 (hdom hi) (hdom hj) (hback (hdom hi) r1) (hback (hdom hj) r2) eb,λid hid=>?_,λb hbb=>hh.sr.hr.up b (by omega)⟩
 ·by_cases q1:id=mid
  ·subst q1
   obtain⟨lm',t1,t2,t3,_⟩:=hh.sr.hr.obj id _ hmid
   rw[hb.rm]at t1;cases t1
   refine⟨lm,hle _ _ hb.rm,t2,by rw[w3];exact t3,?_⟩
   have hid:some (bif bN id ids then O.dl ag r.k r.v true nx else .m ag es (some (nx,some r.k)))=some o:=by
    have hid':=hid
    unfold fP upH at hid'
    rw[e0c rfl]at hid';exact hid'
   have hm2:W2.heap[lm.b]?=some (.map ents1 clock):=(w2 _ hmb).trans hh.map
   cases hb2:bN id ids with
   |true=>
    rw[hb2]at hid;cases hid
    obtain⟨i,hi⟩:=e2g (bU.1 hb2)
    obtain⟨o0,l0,o',z1,z2,z3,z4⟩:=hp.f3 i id hi
    rw[hp.hm]at z1;cases z1
    obtain⟨esF,y1,_⟩:=a2f z2 hb.mo.kd z3
    subst y1
    obtain⟨d1,_⟩:=hh.D i esF hi z4
    obtain⟨j,hj⟩:=e2g he
    exact⟨_,ents1,clock,bL _ _ _,rfl,rfl,hkl,j,e,by rw[<-e0s];exact hj,rfl,hek,(RV.up hev).le hle,esm,d1,hh.mo.up.le hle,hm2⟩
   |false=>
    rw[hb2]at hid;cases hid
    obtain⟨n1,n2⟩:=hh.nomid (gP.1 hb2)
    refine⟨ents1,clock,hm2,by rw[<-n1];exact hh.mo.up.le hle,λg k hg=>?_⟩
    cases hg
    exact⟨_,bL _ _ _,rfl,λk' hk'=>by cases hk';exact⟨rfl,e,he,rfl,hek,hkl⟩⟩
  ·by_cases q2:id=iid
   ·subst q2
    have hid:fP h1 id mid ids ag es nx r id=some o:=hid
    unfold fP upH at hid
    rw[d9z q1,e0c rfl]at hid
    cases hid
    exact⟨li,hle _ _ hb.ri,hh.ito,by rw[w3];exact(d9w.1 hh.itb).1,_,lm,bL _ _ _,hle _ _ hb.rm,hb.lo,.inr ⟨λz=>(by rw[z,hb.ri]at hnx;cases hnx),w1,clock,seen,rfl⟩⟩
   ·have hid:fP h1 iid mid ids ag es nx r id=some o:=hid
    have hid':=hid
    rw[hst q1 q2]at hid
    obtain⟨l,t1,t2,t3,t4⟩:=hh.sr.hr.obj id o hid
    exact⟨l,hle _ _ t1,t2,by rw[w3];exact t3,t4.go hle (w2 _ (hb.inb id l (hdom (by rw[hid'];simp)) q2 t1))⟩
 ·unfold upR;rw[d9z hid.2];exact hb.sr.hr.fr id hid.1
theorem b2d (hp:PI hs mr ih cx tm h nx tm' h' nf acc ns iid mid ag es ids tm1 h1 nx1 rs)(hb:Bs cx mr tm h nx nf iid mid ag es Ow0 ρ Fr a0 W0 li lm ents0 clock){p q:List Ro1}{r:Ro1}(hh:Head cx tm1 h1 h' acc ns iid mid ag es ids rs Ow0 ρ Fr a0 W0 li lm ents0 clock (p++r::q) a1 W1 E1 Ow1 esm ents1 seen)
  (hrr:r∈rs) {e:MapEntry} (he:e∈ents1.toList) (hek:e.key=aJ (cU ag) r.k) (hkl:r.k.length=(cU ag).n)
  {tmE:Tm} {hE:Hp} (hsame:sP (lJ mr.rest) (stT mr.k (.b true) (stT mr.n (.t [.b true,eN ag r.k,r.v]) tm1)) tmE) (hkeep:fA ⟨some nx1.num,[]⟩ nx1.num r.ne.num (fP h1 iid mid ids ag es nx r) (geH hE)) (hacc:c1y tmE acc=some r.cs) (hlog:c3p hE mid ag r.k nx ids=some r.ls) (hflat:r.ls.all yI=true)
  {Ow3:Nat->Prop} {ρ3:Rh} {Fr3:Id->Prop} {a3:Act} {W3:World} (hsub:∀b,Ow3 b->Ow1 b) (hnm:Nm (upR ρ nx (lcR lm ents1 clock seen e)) ρ3 nx1.num r.ne.num) (hsr:SR E1 Ow3 ρ3 cx.n (tmF tmE) (geH hE) Fr3 a3 W3) (hgr:Gr Ow0 W0 W3) (hdm:Dm Ow0 a0 a3) (hne:r.ne.num<=nf.num) (hn:cx.n<=512):
  ∃E3 esm3 ents3,Head cx tm1 h1 h' acc ns iid mid ag es ids rs Ow0 ρ Fr a0 W0 li lm ents0 clock (p++q) a3 W3 E3 Ow3 esm3 ents3 (seen.push e.born):=by
 have hnx:ρ nx=none:=hb.sr.hr.fr nx (hb.fr nx ⟨e0g _,by have:=hp.nxe;have:=hp.nf;omega⟩)
 have hle1:=dN (l:=lcR lm ents1 clock seen e) hnx
 have hle:Le ρ ρ3:=hle1.trans hnm.le
 have hr3:ρ3 nx=some (lcR lm ents1 clock seen e):=hnm.le _ _ (bL _ _ _)
 have hmi:mid≠iid:=λz=>hp.inm z.symm
 have hkp:∀{id o l},fP h1 iid mid ids ag es nx r id=some o->tG o=false->ρ id=some l->geH hE id=some o:=λ{id o l} q1 q2 q3=>by
  have hng:=hb.nrg q3
  exact hkeep id o (λz=>hng ⟨by have:=z.1;have:=hp.nxe;omega,by have:=z.2;omega⟩) q1 (.inr ⟨nx1.num,rfl,λz=>hng ⟨by have:=z.1;have:=hp.nxe;omega,by have:=z.2;omega⟩,q2⟩)
 have hat:∀{id o l},geH hE id=some o->ρ id=some l->Ow3 l.b/\l.b<W3.heap.size/\RO E1 ρ3 W3 id l o:=λ{id o l} q1 q2=>by
  obtain⟨l',z1,z2⟩:=hsr.hr.obj id o q1
  rw[hle _ _ q2]at z1;cases z1;exact z2
 have hitE:geH hE iid=some (.it mid nx):=hkp (by unfold fP upH;rw[d9z hp.inm,e0c rfl]) rfl hb.ri
 obtain⟨io,ib,lg,lm',i1,i2,i3,i4⟩:=hat hitE hb.ri
 rw[hr3]at i1;cases i1
 have hitb:W3.heap[li.b]?=some (.mapIter (some lm.b) clock (seen.push e.born) clock):=by
  rcases i4 with⟨z,_⟩|⟨_,z,_⟩
  ·rw[z,hb.ri]at hnx;cases hnx
  ·exact z
 have hlg:=wG hlog
 have hfl:∀{i x},r.ls[i]?=some x->yI x=true:=λ{i x} q=>e1d.1 hflat x (e1j q)
 obtain⟨j,hj⟩:=e2g he
 have hmap:∃esm3 ents3,W3.heap[lm.b]?=some (.map ents3 clock)/\Mok Vl.z ρ ag esm3 ents3 clock/\(mid∉ids->esm3=es/\ents3=ents0)/\(∀e',e'∈ents3.toList->e'∈ents1.toList)/\(∀e',e'∈ents1.toList->e'.born≠e.born->e'∈ents3.toList)/\(∀i,ids[i]?=some mid->esm3=apM (pO i r) esm)/\Ow3 lm.b/\lm.b<W3.heap.size:=by
  cases hb2:bN mid ids with
  |false=>
   have hmid:geH hE mid=some (.m ag es (some (nx,some r.k))):=hkp (by unfold fP upH;rw[e0c rfl,hb2];rfl) rfl hb.rm
   obtain⟨m1,m2,en,cl,m3,m4,m5⟩:=hat hmid hb.rm
   obtain⟨lg',m6,m7,_⟩:=m5 nx (some r.k) rfl
   rw[hr3]at m6;cases m6
   have m7:Obj.map ents1 clock= .map en cl:=m7
   cases m7
   obtain⟨n1,n2⟩:=hh.nomid (gP.1 hb2)
   exact⟨esm,ents1,m3,hh.mo,hh.nomid,λ_ z=>z,λ_ z _=>z,λi hi=>absurd (e1j hi) (gP.1 hb2),m1,m2⟩
  |true=>
   obtain⟨i,hi⟩:=e2g (bU.1 hb2)
   rcases hlg i mid hi with⟨z,_⟩|⟨_,v,th,z1,z2⟩
   ·exact absurd rfl z
   obtain⟨o0,l0,o',y1,y2,y3,y4⟩:=hp.f3 i mid hi
   rw[hp.hm]at y1;cases y1
   obtain⟨esF,y5,_⟩:=a2f y2 hb.mo.kd y3
   subst y5
   obtain⟨d1,_⟩:=hh.D i esF hi y4
   obtain⟨m1,m2,lg',en,cl,m3,m4,m5,m6,j',e',m7,m8,m9,m10,es',m11,m12,m13⟩:=hat z1 hb.rm
   rw[hr3]at m3;cases m3
   have m4:Obj.map ents1 clock= .map en cl:=m4
   cases m4
   rw[d1]at m11;cases m11
   have m12:Mok Vl.z ρ ag esm ents1 clock:=hh.mo
   have hee:e'=e/\j'=j:=by
    have hj':ents1.toList[j']?=some e':=by rw[e0s];exact m7
    have hjj:j'=j:=(e3l (by rw[e0z];exact(e1l.1 hj').1) hh.mo.nd).1 (by rw[e0j,e0j,hj',hj];exact e2r some m8)
    subst hjj
    rw[hj]at hj';cases hj';exact⟨rfl,rfl⟩
   obtain⟨rfl,rfl⟩:=hee
   have hml:pO i r=dlL (r.k,th):=by unfold pO;rw[z2]
   have hesm:∀x,∀i',ids[i']?=some mid->x=apM (pO i r) esm->x=apM (pO i' r) esm:=λx i' hi' hx=>by
    have:i'=i:=by rw[<-uF hp.idn hi',<-uF hp.idn hi]
    rw[this];exact hx
   cases th with
   |true=>exact⟨esm,ents1,m13,hh.mo,λz=>absurd (bU.1 hb2) z,λ_ z=>z,λ_ z _=>z,λi' hi'=>hesm _ i' hi' (by rw[hml];rfl),m1,m2⟩
   |false=>
    refine⟨del r.k esm,ents1.eraseIdxIfInBounds j',m13,hh.mo.erase hkl hj hek,λz=>absurd (bU.1 hb2) z,λx hx=>?_,λx hx hne=>?_,λi' hi'=>hesm _ i' hi' (by rw[hml];rfl),m1,m2⟩
    ·have hlt:=(e1l.1 hj).1
     rw[e1c]at hlt
     rw[Array.eraseIdxIfInBounds,e8c hlt,e6x]at hx
     exact List.mem_of_mem_eraseIdx hx
    ·have hlt:=(e1l.1 hj).1
     rw[e1c]at hlt
     rw[Array.eraseIdxIfInBounds,e8c hlt,e6x,e5b]
     obtain⟨i2,hi2⟩:=e2g hx
     exact⟨i2,λz=>hne (by rw[z,hj]at hi2;cases hi2;rfl),hi2⟩
 obtain⟨esm3,ents3,hm1,hm2,hm3,hm4,hm5,hm6,hm7,hm8⟩:=hmap
 let E3:Vl:=⟨λs=>(E1.X s).map (· +cAt acc r.cs s),λid=>(E1.B id).map (apM (pO (ixI id ids) r)),λid=>(E1.C id).map (apC (a1p (ixI id ids) r))⟩
 have hB:∀i id a esF,ids[i]?=some id->id≠mid->geH h' id=some (.m a esF none)->∃es1 l,E1.B id=some es1/\E3.B id=some (apM (pO i r) es1)/\((apM (pO i r) es1).map (·.1)).Nodup/\Fin ((p++q).map (pO i)) (apM (pO i r) es1) esF/\geH h1 id=some (.lg a [])/\ρ id=some l/\Ow3 l.b/\l.b<W3.heap.size/\RM Vl.z ρ W3 l a (apM (pO i r) es1) none:=by
  intro i id a esF hi hne hF
  obtain⟨es1,b1,b2,b3,b4⟩:=hh.B i id a esF hi hne hF
  obtain⟨o0,l0,o',y1,y2,y3,y4⟩:=hp.f3 i id hi
  rw[hF]at y4;cases y4
  rcases jZ y3 with⟨a',es',op,esF',rfl,z⟩|⟨_,_,_,z⟩<;>cases z
  obtain⟨l,s1,s2,s3,s4⟩:=hb.sr.hr.obj id _ y1
  obtain⟨ents',cl',s5,s6,_⟩:=s4
  obtain⟨esF',y5,_,_,y6⟩:=a2f y2 s6.kd y3
  cases y5
  obtain⟨o1,o2,u1,u2,u3⟩:=hp.l2 id (e1j hi) hne
  rw[y1]at u1;cases u1;cases u2
  have hix:=uF hp.idn hi
  have hlt:∃x,geH hE id=some (.lg a x)/\pO i r=x/\yI (.m a x)=true:=by
   rcases hlg i id hi with⟨_,⟨a2,x,v1,v2⟩|⟨n2,x,v1,v2⟩⟩|⟨z,_⟩
   ·rcases y6 r hrr with⟨x',v3⟩|⟨th,v3⟩
    ·rw[v2]at v3;cases v3
     exact⟨x,v1,by unfold pO;rw[v2],hfl v2⟩
    ·rw[v2]at v3;cases v3
   ·rcases y6 r hrr with⟨x',v3⟩|⟨th,v3⟩<;>(rw[v2]at v3;cases v3)
   ·exact absurd z hne
  obtain⟨x,v1,v2,v3⟩:=hlt
  obtain⟨k1,k2⟩:=a4i b2 (pO i r)
  obtain⟨x1,x2,esx,x3,en,cl,x4,x5,_⟩:=hat v1 s1
  rw[b1]at x3;cases x3
  refine⟨es1,l,b1,by show(E1.B id).map (apM (pO (ixI id ids) r))=_;rw[hix,b1];rfl,k1,?_,u3,s1,x1,x2,en,cl,x4,?_,λg k z=>(by cases z)⟩
  ·rw[e1z,e0o]at b3
   rw[e1z]
   exact b3.step b2
  ·rw[v2]
   refine x5.back hle λk v hkv=>?_
   rw[<-v2]at hkv
   have hf:=(pY k1).2 hkv
   rw[k2]at hf
   cases hl:lkL (pO i r) k with
   |none=>rw[hl]at hf;exact .inl (b4 k v (eR hf))
   |some rr=>
    rw[hl]at hf
    have hf:rr=some v:=hf
    subst hf
    have hm:=wF hl
    rw[v2]at hm
    exact .inr (e1d.1 v3 _ hm)
 have hC:∀i id csF,ids[i]?=some id->id≠mid->geH h' id=some (.c csF)->∃cs1 l,E1.C id=some cs1/\E3.C id=some (apC (a1p i r) cs1)/\FinC ((p++q).map (a1p i)) (apC (a1p i r) cs1) csF/\geH h1 id=some (.lc (apC (a1p i r) cs1).length [])/\ρ id=some l/\Ow3 l.b/\l.b<W3.heap.size/\RC Vl.z ρ W3 l (apC (a1p i r) cs1):=by
  intro i id csF hi hne hF
  obtain⟨cs1,b1,b3,b4⟩:=hh.C i id csF hi hne hF
  obtain⟨o0,l0,o',y1,y2,y3,y4⟩:=hp.f3 i id hi
  rw[hF]at y4;cases y4
  rcases jZ y3 with⟨_,_,_,_,_,z⟩|⟨cs,csF',rfl,z⟩<;>cases z
  obtain⟨l,s1,s2,s3,s4⟩:=hb.sr.hr.obj id _ y1
  obtain⟨csF',y5,y7,y6⟩:=c7v y2 y3
  cases y5
  obtain⟨o1,o2,u1,u2,u3⟩:=hp.l2 id (e1j hi) hne
  rw[y1]at u1;cases u1;cases u2
  have hix:=uF hp.idn hi
  have hlt:∃n x,geH hE id=some (.lc n x)/\a1p i r=x/\yI (.c x)=true:=by
   obtain⟨x',v3⟩:=y6 r hrr
   rcases hlg i id hi with⟨_,⟨a2,x,v1,v2⟩|⟨n2,x,v1,v2⟩⟩|⟨z,_⟩
   ·rw[v2]at v3;cases v3
   ·rw[v2]at v3;cases v3
    exact⟨n2,_,v1,by unfold a1p;rw[v2],hfl v2⟩
   ·exact absurd z hne
  obtain⟨n2,x,v1,v2,v3⟩:=hlt
  obtain⟨k1,k2⟩:=a4f cs1 (a1p i r)
  obtain⟨x1,x2,csx,x3,x4,c,T,x5,x6,x7,x8⟩:=hat v1 s1
  rw[b1]at x3;cases x3
  refine⟨cs1,l,b1,by show(E1.C id).map (apC (a1p (ixI id ids) r))=_;rw[hix,b1];rfl,?_,?_,s1,x1,x2,c,T,x5,x6,by rw[v2];exact x7,λj' v hj'=>?_⟩
  ·rw[e1z,e0o]at b3
   rw[e1z]
   exact b3.step
  ·rw[u3,k1,<-b3.l,y7.l]
  ·have hj2:=hj'
   rw[k2]at hj2
   rw[v2]at hj'
   obtain⟨g1,g2⟩:=x8 j' v hj'
   refine⟨Kn.back hle ?_ g1,g2⟩
   cases hl:lkC (a1p i r) j' with
   |none=>rw[hl]at hj2;exact .inl (b4 v (e1j hj2))
   |some vv=>
    rw[hl]at hj2
    simp only at hj2
    split at hj2
    ·cases hj2
     have hm:=wE hl
     rw[v2]at hm
     exact .inr (e1d.1 v3 _ hm)
    ·cases hj2
 refine⟨E3,esm3,ents3,λb z=>hh.sub b (hsub b z),hgr,hdm,⟨⟨hsr.rt.size,λt=>?_⟩,⟨λid o hid=>?_,λi1 j1 l1 l2 h1' h2'=>hb.sr.hr.inj i1 j1 l1 l2 (hp.dom h1').1 (hp.dom h2').1,hb.sr.hr.fr,hsr.hr.up⟩,hsr.df⟩,hitb,io,hm1,hm2,hm3,?_,λe' he' hs'=>?_,λr' hr'=>?_,λs hs'=>?_,λi id a esF hi hne hF=>?_,λi id csF hi hne hF=>?_,λi esF hi hF=>?_⟩
 ·
  have h3:RV E1 ρ3 (rdT t tmE) (a3.tmps.getD t undef):=hsr.rt.get t
  show RV E3 ρ (rdT t tm1) _
  by_cases q1:t∈acc
  ·rw[(a1k hacc).2 t q1]at h3
   obtain⟨x0,x1,x2⟩:=h3
   rw[hp.t1,e0c q1]
   refine⟨x0+cAt acc r.cs t,by show(E1.X t).map _=_;rw[x1];rfl,by rw[e6w];exact x2⟩
  ·by_cases q2:t∈slR mr
   ·rw[hp.t1,d9z q1,e0c q2];trivial
   ·have e1:rdT t tm1=rdT t tm:=by rw[hp.t1,d9z q1,d9z q2]
    have e2:rdT t tmE=rdT t tm1:=by
     have d1:t∉lJ mr.rest:=λz=>q2 (d9v _ (d9v _ z))
     rw[hsame t d1,iS (e1g (hp.sln mr.k (d9v _ (d9y ..))) hn) (λz=>q2 (by rw[z];exact d9v _ (d9y ..))),iS (e1g (hp.sln mr.n (d9y ..)) hn) (λz=>q2 (by rw[z];exact d9y ..))]
    rw[e2,e1]at h3
    rw[e1]
    exact RV.up (RV.back hle (hb.sr.rt.get t) h3)
 ·
  have hd:=hp.dom (esm:=esm3) (id:=id) (by rw[hid];simp)
  unfold hhF at hid
  rw[d9z hd.2]at hid
  split at hid
  ·rename_i e1;cases hid;subst e1
   exact⟨lm,hb.rm,hm7,hm8,ents3,clock,hm1,hm2.up,λg k z=>(by cases z)⟩
  ·rename_i e1
   by_cases hi:id∈ids
   ·obtain⟨i,hi'⟩:=e2g hi
    obtain⟨o0,l0,o',y1,y2,y3,y4⟩:=hp.f3 i id hi'
    rcases jZ y3 with⟨a',es',op,esF,rfl,rfl⟩|⟨cs,csF,rfl,rfl⟩
    ·obtain⟨es1,l,z1,z2,z3,z4,z5,z6,z7,z8,z9⟩:=hB i id a' esF hi' e1 y4
     rw[hid]at z5;cases z5
     obtain⟨en,cl,z10,z11,z12⟩:=z9
     exact⟨l,z6,z7,z8,_,z2,en,cl,z10,z11.up,z12⟩
    ·obtain⟨cs1,l,z1,z2,z3,z5,z6,z7,z8,z9⟩:=hC i id csF hi' e1 y4
     rw[hid]at z5;cases z5
     exact⟨l,z6,z7,z8,_,z2,rfl,RO.up (id:=id) (o:= .c _) z9 rfl⟩
   ·rw[hp.l1 id (.inl hi)]at hid
    obtain⟨l,s1,s2,s3,s4⟩:=hb.sr.hr.obj id o hid
    have hE':geH hE id=some o:=hkp (by unfold fP upH;rw[d9z e1,d9z hd.2,hp.l1 id (.inl hi)];exact hid) (mY s4) s1
    obtain⟨x1,x2,x3⟩:=hat hE' s1
    exact⟨l,s1,x1,x2,(RO.back hle s4 x3 (mY s4)).up (mY s4)⟩
 ·
  have:=hh.nd
  rw[e1z,e0o]at this
  rw[e1z]
  exact this.sublist (e7i (e4x _) (e5o ..))
 ·
  have hs2:seen.contains e'.born=false/\e'.born≠e.born:=by
   rw[Array.contains_push]at hs'
   rw[Bool.or_eq_false_iff]at hs'
   exact⟨hs'.1,by simpa using hs'.2⟩
  obtain⟨r',z1,z2,z3,z4⟩:=hh.r1 e' (hm4 e' he') hs2.1
  refine⟨r',?_,z2,z3,z4⟩
  rcases e0x.1 z1 with z1|z1
  ·exact e0p _ z1
  ·rcases e0b.1 z1 with rfl|z1
   ·exfalso
    apply hs2.2
    obtain⟨i1,hi1⟩:=e2g (hm4 e' he')
    have hij:i1=j:=(e3l (by rw[e0z];exact(e1l.1 hi1).1) hh.mo.kn).1 (by rw[e0j,e0j,hi1,hj];exact e2r some (z2.trans hek.symm))
    rw[hij,hj]at hi1;cases hi1;rfl
   ·exact e0n _ z1
 ·
  have hr2:r'∈p++r::q:=by
   rcases e0x.1 hr' with z|z
   ·exact e0p _ z
   ·exact e0n _ (d9v _ z)
  have hkne:r'.k≠r.k:=by
   intro z
   have hnd:=hh.nd
   rw[e1z,e0o,e6h]at hnd
   rcases e0x.1 hr' with y|y
   ·exact hnd.2.2 _ (e0l.2 ⟨r',y,rfl⟩) _ (d9y ..) z
   ·exact(e2b.1 hnd.2.1).1 (e0l.2 ⟨r',y,z⟩)
  obtain⟨hkr,e',z1,z2,z3⟩:=hh.r2 r' hr2
  obtain⟨k',v',y1,y2,y3,_⟩:=hh.mo.ent e' z1
  have hne:e'.born≠e.born:=by
   intro z
   obtain⟨i1,hi1⟩:=e2g z1
   have hij:i1=j:=(e3l (by rw[e0z];exact(e1l.1 hi1).1) hh.mo.nd).1 (by rw[e0j,e0j,hi1,hj];exact e2r some z)
   rw[hij,hj]at hi1;cases hi1
   exact hkne (fF hkr hkl (z2.symm.trans hek))
  refine⟨hkr,e',hm5 e' z1 hne,z2,?_⟩
  rw[Array.contains_push,z3]
  simpa using hne
 ·show(E1.X s).map _=_
  rw[hh.X s hs',xD,xD]
  show some (cAt acc ns s+uX acc s rs-(uX acc s p+(cAt acc r.cs s+uX acc s q))+cAt acc r.cs s)=_
  congr 1;omega
 ·obtain⟨es1,l,z1,z2,z3,z4,z5,z6,z7,z8,en,cl,z9,z10,_⟩:=hB i id a esF hi hne hF
  exact⟨_,z2,z3,z4,z10.known⟩
 ·obtain⟨cs1,l,z1,z2,z3,z5,z6,z7,z8,c,T,z9,z10,z11,z12⟩:=hC i id csF hi hne hF
  exact⟨_,z2,z3,λv hv=>let⟨jj,hjj⟩:=e2g hv;⟨_,(z12 jj v hjj).1⟩⟩
 ·obtain⟨d1,d2⟩:=hh.D i esF hi hF
  have hix:=uF hp.idn hi
  refine⟨by show(E1.B mid).map (apM (pO (ixI mid ids) r))=_;rw[hix,d1,hm6 i hi];rfl,?_⟩
  rw[hm6 i hi]
  rw[e1z,e0o]at d2
  rw[e1z]
  exact d2.step hh.mo.kd
end
set_option linter.unusedVariables false
open Go.Px (KT aJ KeyOk EqT eL)
open Go.ChangeMaps (setBlock)
theorem c8q {c:Code}{mr:Mr}(h:mrO c=some mr):∃(rid:Nat) (o1 o2:Oper),c= .seq (.region rid #[o1,o2] false) (.seq (.cond (.tmp mr.k) .skip (.exit mr.b)) mr.rest)/\o1.op= .next (.tmp mr.it) false/\o1.dst=some mr.n/\o1.guard=none/\o2.op= .extract (.tmp mr.n) 0/\o2.dst=some mr.k/\o2.guard=none/\mr.n≠mr.k:=by
 unfold mrO at h
 split at h
 ·rename_i rid ops k b rest
  split at h
  ·rename_i n it t1 a1 p1 k' n' t2 a2 p2 hl
   cases hb:(Nat.beq n n'&&(Nat.beq k k'&& !Nat.beq n k))with
   |false=>rw[hb]at h;cases h
   |true=>
    rw[hb]at h;cases h
    obtain⟨b1,hb⟩:=kX hb
    obtain⟨b2,b3⟩:=kX hb
    have b1:=d9s b1
    have b2:=d9s b2
    subst b1;subst b2
    have hops:ops=_:=(e6a (xs:=ops)).symm.trans (e2r List.toArray hl)
    refine⟨rid,_,_,by rw[hops],rfl,rfl,rfl,rfl,rfl,rfl,λe=>?_⟩
    have e:n=k:=e
    rw[e,e3k]at b3;cases b3
  ·cases h
 ·cases h
theorem b8p {P:Program}{a:Act}{o:Oper}{it:Nat}{b:Nat}(ho:o.op= .next (.tmp it) false)(hv:a.eval (.tmp it)= .pointer (some ⟨b,0,none⟩)){W W':World}{v:Value}(hr:(Instr.next (.pointer (some ⟨b,0,none⟩)) false o.type).run P W= .ok v W'):(execOp a.eval o).run P W= .ok (.value v) W':=by
 simp only[execOp,ho,hv,d9t,hr,d9q,d9u]
section
variable {P:Program} {hs:Hs} {ih:Ih}
theorem b0e {ops:Array Oper}{i:Nat}{o:Oper}(hi:ops[i]?=some o)(hg:o.guard=none){l:Option Nat}{k:Nat}{Q:Exit->Act->World->Prop}{K:Act->World->Prop}{a:Act}{W W':World}{v:Value}(hnd:∀c,o.op≠ .defer c)(hr:(execOp a.eval o).run P W= .ok (.value v) W')(hk:K (a.put o.dst v) W'):wpOpIn (Fw l) k P ops Q i K a W:=by
 unfold wpOpIn
 rw[hi]
 simp only
 have hw:Region.wanted o (yielded ops a.tmps)=true:=by unfold Region.wanted;rw[hg]
 rw[hw]
 simp only[e4b]
 refine⟨λ_ _=>trivial,?_⟩
 show o.uponIn (Fw l) k P a K Q ((o.semAt l a.eval).run P W)
 rw[e3x _ _ _ hnd,hr]
 exact hk
theorem c9h (hR:vC P ih):c1t P hs ih:=by
 intro cx c mr tm h nx e tm' h' nf hn hmr hrun
 obtain⟨rfl,acc,ns,iid,mid,ag,es,ids,tm1,h1,nx1,rs,hp⟩:=c4l hn hrun
 obtain⟨rid,o1,o2,rfl,n1,n2,n3,x1,x2,x3,hnk⟩:=c8q hmr
 have hds:∀t,t∈slR mr->t∈lJ (.loop (.seq (.region rid #[o1,o2] false) (.seq (.cond (.tmp mr.k) .skip (.exit mr.b)) mr.rest))):=by
  intro t ht
  show t∈[o1,o2].filterMap (·.dst)++((([]:List Nat)++[])++lJ mr.rest)
  rcases e0b.1 ht with rfl|ht
  ·exact e0p _ (by rw[e5l,n2];exact d9y ..)
  ·rcases e0b.1 ht with rfl|ht
   ·exact e0p _ (by rw[e5l,n2,e5l,x2];exact d9v _ (d9y ..))
   ·exact e0n _ (e0n _ ht)
 refine⟨by have:=hp.nxe;have:=hp.nf;omega,λid o hr ho hpr=>?_,λt ht=>?_,λE Ow ρ Fr r k a W hE hro hfr hsp hsr=>?_⟩
 ·
  have hnp:∀id',id'∈iid::ids->id≠id':=by
   intro id' hid e
   subst e
   rcases hpr with q|⟨f,q,_⟩
   ·rw[hp.pr id hid]at q;cases q
   ·rw[hp.fl]at q;cases q
  have h3:id∉ids:=λz=>hnp id (d9v _ z) rfl
  rw[hp.f2 id h3 (hnp iid (d9y ..)),hp.l1 id (.inl h3)]
  exact ho
 ·have h2:t∉slR mr:=λz=>ht (hds t z)
  have h3:t∉acc:=λz=>h2 (hp.acd t z)
  rw[(hp.t2 t).1 h3,hp.t1,d9z h3,d9z h2]
 ·have hz:E=Vl.z:=hE hp.fl
  subst hz
  obtain⟨li,lm,ents0,clock,hb⟩:=c2c hp hsr hfr
  obtain⟨E1,hst⟩:=a8d hp hb
  obtain⟨sp,sp1,sp2⟩:=hsp
  have hnx1:=hp.nxe
  have hnf:=hp.nf
  have hn5:∀t,t∈slR mr->t<512:=λt ht=>e1g (hp.sln t ht) hn
  have hmn:=d9y (a:=mr.n) (l:=mr.k::lJ mr.rest)
  have hmk:mr.k∈slR mr:=d9v _ (d9y ..)
  refine nH (ι:=List Ro1) (λR a1 W1=>(∀x,x∈R->x∈rs)/\∃E1 Ow1 esm ents1 seen,Head cx tm1 h1 h' acc ns iid mid ag es ids rs Ow ρ Fr a W li lm ents0 clock R a1 W1 E1 Ow1 esm ents1 seen) (λR=>R.length) rs ⟨λ_ z=>z,E1,Ow,es,ents0,#[],hst⟩ ?_
  rintro R a1 W1 ⟨hRs,E1,Ow1,esm,ents1,seen,hh⟩
  have hitv:a1.eval (.tmp mr.it)= .pointer (some ⟨li.b,0,none⟩):=by
   have h0:RV E1 ρ (rdT mr.it tm1) (a1.eval (.tmp mr.it)):=hh.sr.rt.get mr.it
   rw[hp.t1,d9z (λz=>hp.itd (hp.acd _ z)),d9z hp.itd,hp.it]at h0
   obtain⟨l,q1,q2⟩:=h0
   rw[hb.ri]at q1;cases q1
   rw[q2,hb.lo]
  have hmb:lm.b≠li.b:=hb.inb mid lm (by rw[hp.hm];simp) (λz=>hp.inm z.symm) hb.rm
  have hdF:∀{id},geH h' id≠none->geH h id≠none:=by
   intro id hid
   by_cases q1:id=iid
   ·rw[q1,hp.f1]at hid;exact absurd rfl hid
   ·by_cases q2:id∈ids
    ·obtain⟨i,hi⟩:=e2g q2
     obtain⟨o0,_,_,y1,_⟩:=hp.f3 i id hi
     rw[y1];simp
    ·rw[hp.f2 id q2 q1,hp.l1 id (.inl q2)]at hid;exact hid
  have hnd1:∀c,o1.op≠ .defer c:=by rw[n1];simp
  have hnd2:∀c,o2.op≠ .defer c:=by rw[x1];simp
  have hreg:∀(a2:Act) (W2:World) (u:Value) (us:Array Value) (bb:Bool) (Q:Exit->Act->World->Prop),(Instr.next (.pointer (some ⟨li.b,0,none⟩)) false o1.type).run P W1= .ok u W2->u= .tuple us->us[0]?=some (.bool bb)->Q .normal ((a1.put (some mr.n) u).put (some mr.k) (.bool bb)) W2->(Code.region rid #[o1,o2] false).wpIn (Fw r) k P Q a1 W1:=by
   intro a2 W2 u us bb Q q1 q2 q3 q4
   subst q2
   refine wpIn_region ?_
   have e0:List.range (#[o1,o2]:Array Oper).size=[0,1]:=rfl
   rw[e0,wpOpsIn_cons]
   refine b0e (o:=o1) rfl n3 hnd1 (b8p n1 hitv q1) ?_
   rw[wpOpsIn_cons,n2]
   have hsz:mr.n<a1.tmps.size:=by rw[hh.sr.rt.size];exact hp.sln _ hmn
   have hev:(a1.put (some mr.n) (.tuple us)).eval (.tmp mr.n)= .tuple us:=by
    show(a1.tmps.setIfInBounds mr.n (.tuple us)).getD mr.n undef=_
    simp[Array.getD,hsz]
   refine b0e (o:=o2) rfl x3 hnd2 (v:= .bool bb) (W':=W2) ?_ ?_
   ·simp only[execOp,x1,hev,Instr.extract,d9t,q3,d9q,d9u]
   ·rw[x2];exact q4
  have hput:∀{E':Vl} {u:Value} {v w:V} {bb:Bool},RT E' ρ cx.n (tmF tm1) a1.tmps->∀{ρ':Rh},Le ρ ρ'->RV E' ρ' v u->RV E' ρ' w (.bool bb)->RT E' ρ' cx.n (lW (lW (tmF tm1) (some mr.n) v) (some mr.k) w) ((a1.put (some mr.n) u).put (some mr.k) (.bool bb)).tmps:=by
   intro E' u v w bb ht ρ' hl hv hw
   refine RT.put (a:=a1.put (some mr.n) u) (RT.put (a:=a1) (ht.mono hl) (λt z=>by cases z;exact hp.sln _ hmn) hv) (λt z=>by cases z;exact hp.sln _ hmk) hw
  have hdef:∀{u:Value} {bb:Bool},((a1.put (some mr.n) u).put (some mr.k) (.bool bb)).defers=a1.defers:=rfl
  refine e6d ?_
  have hold:∀x∈ents1.toList,x.born<clock:=hh.mo.lt
  rcases run_next_at (P:=P) W1 o1.type li.b lm.b clock clock seen ents1 clock hh.itb hh.map hold (e0g _)with⟨hz,hnr⟩|⟨e,he,w1,hw1,hnr⟩
  ·
   have hRe:R=[]:=by
    cases R with
    |nil=>rfl
    |cons x R=>
     exfalso
     obtain⟨_,e,q1,_,q3⟩:=hh.r2 x (d9y ..)
     have:e∈leftOf ents1 seen:=by
      unfold leftOf
      rw[e6m]
      exact⟨e1p.1 q1,by simpa using q3⟩
     have:=Array.size_pos_of_mem this
     omega
   subst hRe
   refine hreg a1 W1 _ _ false _ hnr rfl rfl ?_
   refine e6d (wpIn_cond_false (by
    show((a1.put (some mr.n) _).tmps.setIfInBounds mr.k (.bool false)).getD mr.k undef= .bool false
    have hsz:mr.k<(a1.put (some mr.n) (.tuple #[.bool false])).tmps.size:=by
     show mr.k<(a1.tmps.setIfInBounds _ _).size
     rw[e2i,hh.sr.rt.size];exact hp.sln _ hmk
    simp[Array.getD,hsz]) (wpIn_exit ⟨rfl,Ow1,ρ,hh.sub,Nm.refl _ _ _,⟨?_,?_,?_⟩,hh.gr,hh.dm.trans (Dm.of_eq hdef) hh.sub⟩))
   ·
    have h0:=hput (E':=E1) (u:= .tuple #[.bool false]) (v:= .un) (w:= .un) (bb:=false) hh.sr.rt (e7n _) trivial trivial
    refine⟨h0.size,λt=>?_⟩
    have h1t:=h0.get t
    by_cases q1:t∈slR mr
    ·by_cases q2:t∈acc
     ·have hx:=hp.acx t q2
      have e2:lW (lW (tmF tm1) (some mr.n) .un) (some mr.k) .un t= .w t 0:=by
       rw[cO (λz=>hx (by cases z;exact d9v _ (d9y ..))),cO (λz=>hx (by cases z;exact d9y ..))]
       show rdT t tm1=_
       rw[hp.t1,e0c q2]
      rw[e2]at h1t
      obtain⟨x,y1,y2⟩:=h1t
      rw[hh.X t q2]at y1
      cases y1
      show RV Vl.z ρ (rdT t tm') _
      rw[((hp.t2 t).2 q2).1,y2]
      show Value.int _ _=Value.int _ _
      have:cAt acc ns t+uX acc t rs-uX acc t []+0=cAt acc ns t+uX acc t rs:=by
       show _-(0:Int)+0=_;omega
      rw[this,((hp.t2 t).2 q2).2]
     ·show RV Vl.z ρ (rdT t tm') _
      rw[(hp.t2 t).1 q2,hp.t1,d9z q2,e0c q1];trivial
    ·have q2:t∉acc:=λz=>q1 (hp.acd t z)
     show RV Vl.z ρ (rdT t tm') _
     have e1:rdT t tm1=rdT t tm:=by rw[hp.t1,d9z q2,d9z q1]
     rw[(hp.t2 t).1 q2,e1]
     have e2:lW (lW (tmF tm1) (some mr.n) .un) (some mr.k) .un t=rdT t tm:=by
      rw[cO (λz=>q1 (by cases z;exact hmk)),cO (λz=>q1 (by cases z;exact hmn))];exact e1
     rw[e2]at h1t
     exact RV.back (e7n _) (hb.sr.rt.get t) h1t
   ·
    refine⟨λid o hid=>?_,λi j l1 l2 h1' h2'=>hb.sr.hr.inj i j l1 l2 (hdF h1') (hdF h2'),λid hid=>hb.sr.hr.fr id hid.1,hh.sr.hr.up⟩
    by_cases q1:id=iid
    ·rw[q1,hp.f1]at hid;cases hid
    ·by_cases q2:id∈ids
     ·obtain⟨i,hi⟩:=e2g q2
      obtain⟨o0,l0,o',y1,y2,y3,y4⟩:=hp.f3 i id hi
      rw[y4]at hid;cases hid
      by_cases q3:id=mid
      ·subst q3
       rw[hp.hm]at y1;cases y1
       obtain⟨esF,z1,z2,z3,z4⟩:=a2f y2 hb.mo.kd y3
       subst z1
       obtain⟨d1,d2⟩:=hh.D i esF hi y4
       obtain⟨l,t1,t2,t3,_⟩:=hh.sr.hr.obj id (.m ag esm none) (by unfold hhF;rw[d9z q1,e0c rfl])
       rw[hb.rm]at t1;cases t1
       exact⟨lm,hb.rm,t2,t3,ents1,clock,hh.map,hh.mo.eqf z3 λk=>d2.b k λl hl=>(by cases hl),λg k z=>(by cases z)⟩
      ·obtain⟨o1,o2,u1,u2,u3⟩:=hp.l2 id q2 q3
       rw[y1]at u1;cases u1
       rcases jZ y3 with⟨a',es',op,esF,rfl,rfl⟩|⟨cs,csF,rfl,rfl⟩
       ·cases u2
        obtain⟨l0',s1,s2,s3,s4⟩:=hb.sr.hr.obj id _ y1
        obtain⟨en0,cl0,s5,s6,_⟩:=s4
        obtain⟨esF',z1,z2,z3,z4⟩:=a2f y2 s6.kd y3
        cases z1
        obtain⟨es1,b1,b2,b3,b4⟩:=hh.B i id a' esF hi q3 y4
        obtain⟨l,t1,t2,t3,esx,t4,en,cl,t5,t6,_⟩:=hh.sr.hr.obj id (.lg a' []) (by unfold hhF;rw[d9z q1,d9z q3];exact u3)
        rw[b1]at t4;cases t4
        have t6:Mok E1 ρ a' es1 en cl:=t6
        exact⟨l,t1,t2,t3,en,cl,t5,(t6.back (e7n _) λk v hkv=> .inl (b4 k v hkv)).eqf z3 λk=>b3.b k λl hl=>(by cases hl),λg k z=>(by cases z)⟩
       ·cases u2
        obtain⟨cs1,b1,b3,b4⟩:=hh.C i id csF hi q3 y4
        obtain⟨l,t1,t2,t3,csx,t4,_,c,T,t5,t6,t7,t8⟩:=hh.sr.hr.obj id (.lc cs.length []) (by unfold hhF;rw[d9z q1,d9z q3];exact u3)
        rw[b1]at t4;cases t4
        rw[b3.end]
        exact⟨l,t1,t2,t3,c,T,t5,t6,t7,λj x hj=>⟨Kn.back (e7n _) (.inl (b4 x (e1j hj))) (t8 j x hj).1,(t8 j x hj).2⟩⟩
     ·rw[hp.f2 id q2 q1,hp.l1 id (.inl q2)]at hid
      by_cases q3:id=mid
      ·subst q3
       rw[hp.hm]at hid;cases hid
       obtain⟨m1,m2⟩:=hh.nomid q2
       obtain⟨l,t1,t2,t3,_⟩:=hh.sr.hr.obj id (.m ag esm none) (by unfold hhF;rw[d9z q1,e0c rfl])
       rw[hb.rm]at t1;cases t1
       refine⟨lm,hb.rm,t2,t3,ents1,clock,hh.map,by rw[<-m1];exact hh.mo,λg k z=>?_⟩
       cases z
       exact⟨li,hb.ri,by rw[m2];exact hb.mp,λk' z=>(by cases z)⟩
      ·obtain⟨l0',s1,s2,s3,s4⟩:=hb.sr.hr.obj id _ hid
       obtain⟨l,t1,t2,t3,t4⟩:=hh.sr.hr.obj id o (by unfold hhF;rw[d9z q1,d9z q3,hp.l1 id (.inl q2)];exact hid)
       rw[s1]at t1;cases t1
       exact⟨_,s1,t2,t3,RO.back (e7n _) s4 t4 (mY s4)⟩
   ·rw[hdef];exact hh.sr.df
  ·
   unfold leftOf at he
   rw[e1p,e6m]at he
   obtain⟨he,hse⟩:=he
   have he:e∈ents1.toList:=e1p.2 he
   have hse:seen.contains e.born=false:=by simpa using hse
   obtain⟨x,hx,hek,hkl,hev⟩:=hh.r1 e he hse
   obtain⟨p,q,rfl⟩:=e5w hx
   have hxr:=hRs x hx
   obtain⟨⟨tmE,hE,hih,hacc,hlog,hflat⟩,hne⟩:=hp.rok x hxr
   obtain⟨k1,k2,k3,k4⟩:=hR _ _ _ _ _ _ _ _ _ (by exact hn) hih
   have k1:nx1.num<=x.ne.num:=k1
   have k2:fA ⟨some nx1.num,[]⟩ nx1.num x.ne.num _ (geH hE):=k2
   have hSt:geH (eK (eK h1 iid (some (.it mid nx))) mid (some (bif bN mid ids then O.dl ag x.k x.v true nx else .m ag es (some (nx,some x.k)))))=fP h1 iid mid ids ag es nx x:=by
    rw[fT,fT];rfl
   rw[hSt]at k2 k4
   have hheap:w1.heap=W1.heap:=by rcases hw1 with rfl|rfl<;>rfl
   have hw:(setBlock w1 li.b (.mapIter (some lm.b) clock (seen.push e.born) clock)).heap[li.b]?=some (.mapIter (some lm.b) clock (seen.push e.born) clock):=by
    have hlt:=(d9w.1 hh.itb).1
    unfold setBlock
    simp only[hheap]
    simp[hlt]
   have hw2:∀b,b≠li.b->(setBlock w1 li.b (.mapIter (some lm.b) clock (seen.push e.born) clock)).heap[b]?=W1.heap[b]?:=λb hbb=>by
    unfold setBlock
    simp only[hheap]
    rw[e3t (λz=>hbb z.symm)]
   have hw3:(setBlock w1 li.b (.mapIter (some lm.b) clock (seen.push e.born) clock)).heap.size=W1.heap.size:=by
    unfold setBlock
    simp only[hheap,e2i]
   have hgr2:Gr Ow1 W1 (setBlock w1 li.b (.mapIter (some lm.b) clock (seen.push e.born) clock)):=by
    refine⟨?_,?_,?_,by rw[hw3];exact e0g _,λb _ hbo=>hw2 b λz=>hbo (by rw[z];exact hh.ito)⟩<;>(rcases hw1 with rfl|rfl<;>rfl)
   have hs0:=b9p hp hb hh he hek hkl hev hw hw2 hw3
   have hnx:ρ nx=none:=hb.sr.hr.fr nx (hb.fr nx ⟨e0g _,by omega⟩)
   have hle1:=dN (l:=lcR lm ents1 clock seen e) hnx
   have hkey:RV E1 (upR ρ nx (lcR lm ents1 clock seen e)) (.t [.b true,eN ag x.k,x.v]) (.tuple #[.bool true,e.key,e.val]):=⟨_,rfl,_,_,rfl,rfl,_,_,rfl,by rw[hek];exact yQ hkl,_,_,rfl,(RV.up hev).le hle1,rfl⟩
   refine hreg a1 _ _ _ true _ hnr rfl rfl ?_
   refine e6d (wpIn_cond_true (by
    show((a1.put (some mr.n) _).tmps.setIfInBounds mr.k (.bool true)).getD mr.k undef= .bool true
    have hsz:mr.k<(a1.put (some mr.n) (.tuple #[.bool true,e.key,e.val])).tmps.size:=by
     show mr.k<(a1.tmps.setIfInBounds _ _).size
     rw[e2i,hh.sr.rt.size];exact hp.sln _ hmk
    simp[Array.getD,hsz]) (wpIn_skip ?_))
   have htm:tmF (stT mr.k (.b true) (stT mr.n (.t [.b true,eN ag x.k,x.v]) tm1))=lW (lW (tmF tm1) (some mr.n) (.t [.b true,eN ag x.k,x.v])) (some mr.k) (.b true):=by
    obtain⟨t1,z1,z2⟩:=jT (d:=some mr.n) (v:= .t [.b true,eN ag x.k,x.v]) (tm:=tm1) (λt z=>by cases z;exact hn5 _ hmn) (λt:Tm=>t)
    obtain⟨t2,z3,z4⟩:=jT (d:=some mr.k) (v:= .b true) (tm:=t1) (λt z=>by cases z;exact hn5 _ hmk) (λt:Tm=>t)
    have z1:stT mr.n (.t [.b true,eN ag x.k,x.v]) tm1=t1:=(lF _ _ _ λt:Tm=>t).symm.trans z1
    have z3:stT mr.k (.b true) t1=t2:=(lF _ _ _ λt:Tm=>t).symm.trans z3
    rw[z1,z3,z4,z2]
   have hsrS:SR E1 Ow1 (upR ρ nx (lcR lm ents1 clock seen e)) cx.n (tmF (stT mr.k (.b true) (stT mr.n (.t [.b true,eN ag x.k,x.v]) tm1))) (fP h1 iid mid ids ag es nx x) (λj=>Fr j/\j≠nx) ((a1.put (some mr.n) (.tuple #[.bool true,e.key,e.val])).put (some mr.k) (.bool true)) (setBlock w1 li.b (.mapIter (some lm.b) clock (seen.push e.born) clock)):=by
    refine⟨?_,hs0,?_⟩
    ·rw[htm]
     exact hput hh.sr.rt hle1 hkey rfl
    ·rw[hdef]
     exact mL hh.sr.df (λ_ z=>z) hgr2
   refine e7d (k4 E1 Ow1 (upR ρ nx (lcR lm ents1 clock seen e)) (λj=>Fr j/\j≠nx) r k _ _ (λz=>(by cases z)) (hro.le hle1) (λid z=>⟨hfr id ⟨by have:=z.1;omega,by have:=z.2;omega⟩,λy=>by rw[y]at z;have:=z.1;omega⟩) ⟨sp,⟨sp1,λy=>sp2 (by rw[y];exact⟨e0g _,by omega⟩)⟩,λz=>sp2 ⟨by have:=z.1;omega,by have:=z.2;omega⟩⟩ hsrS) ?_
   rintro e' a3 W3 ⟨rfl,Ow3,ρ3,t1,t2,t3,t4,t5⟩
   have hstep:=b2d hp hb hh hxr he hek hkl k3 k2 hacc hlog hflat t1 t2 t3 ((hh.gr.trans (hgr2.mono hh.sub)).trans (t4.mono hh.sub)) ((hh.dm.trans (Dm.of_eq (a':=(a1.put (some mr.n) (.tuple #[.bool true,e.key,e.val])).put (some mr.k) (.bool true)) hdef) hh.sub).trans t5 hh.sub) hne hn
   obtain⟨E3,esm3,ents3,hfin⟩:=hstep
   refine⟨p++q,⟨λy hy=>hRs y ?_,E3,Ow3,esm3,ents3,_,hfin⟩,?_⟩
   ·rcases e0x.1 hy with z|z
    ·exact e0p _ z
    ·exact e0n _ (d9v _ z)
   ·simp only[e1f,e0r];omega
theorem c0f (hm:P.follows .mixedOrders=true)(hcl:HsOk P hs)(n:Nat):vC P (run P hs n):=(c1h hm hcl (λih hR=>c9h hR) n).1
end
set_option linter.unusedVariables false
def okB (r:Res):Bool:=Res.rec (motive:=λ_=>Bool) false (λ_ _ _ _=>true) r
def tru:Kv:=λv _ _=>match v with
  | .b true=> .ok .normal tm0 hp0 .z
  |_=> .no
def c0h (P:Program)(hs:Hs)(N g:Nat):Bool:=okB (gA P hs (run P hs N) ⟨none,[]⟩ g [] hp0 .z tru)
theorem works_fn {P:Program}{hs:Hs}(hm:P.follows .mixedOrders=true)(hcl:HsOk P hs){N g:Nat}(h:c0h P hs N g=true):Px.Fn P g [] (.v (.bool true)):=by
 have hR:=c0f hm hcl N
 unfold c0h at h
 cases hc:b6w P g with
 |none=>
  exfalso
  have e0:gA P hs (run P hs N) ⟨none,[]⟩ g [] hp0 .z tru=bif lN g hs.cl then clone [] hp0 .z tru else .no:=by
   unfold gA
   rw[hc];rfl
  rw[e0]at h
  cases hm:lN g hs.cl with
  |false=>rw[hm]at h;cases h
  |true=>rw[hm]at h;cases h
 |some fi=>
  rcases b7r (hs:=hs) hR (lm:=⟨none,[]⟩) hc (args:=[]) (h:=hp0) (nx:= .z) tru with e|⟨v,h',nx',e,q1,q2,q3,q4⟩
  ·rw[e]at h;cases h
  ·rw[e]at h
   have hv:v= .b true:=by
    unfold tru at h
    split at h
    ·rfl
    ·cases h
   subst hv
   refine⟨q3,λS w vals hS hvals=>?_⟩
   cases vals with
   |cons u us=>exact hvals.elim
   |nil=>
    have hh:HR Vl.z (λb=>w.heap.size<=b) (λ_=>none) (geH hp0) (λ_=>True) w:=⟨λid o ho=>(by rw[b1z]at ho;cases ho),λi j li lj hi=>absurd (b1z i) hi,λ_ _=>rfl,λb hb=>hb⟩
    have:=q4 Vl.z (λb=>w.heap.size<=b) (λ_=>none) (λ_=>True) none 0 w [] (λ_=>rfl) rfl hh (λ_ _=>trivial) ⟨nx',trivial,λq=>by have:=q.2;omega⟩
    refine(e7m (n:=0)).1 (CallsIn.mono (F:=Fence.wide) this ?_)
    rintro e' W' ⟨u,rfl,ρ',p1,p2,p3,p4⟩
    have hu:u= .bool true:=p2
    subst hu
    exact⟨_,S,rfl,rfl,λ_ q=>q,λb q=> .inl q,p4.os,p4.tape,p4.output,p4.size,λb hb=>p4.block b hb λq=>by omega⟩
set_option linter.unusedVariables false
def c7k (o:Oc):Kv:=λv h nx=>bif gH nx o.hi&&(eqV 9 v o.v&&(c0o o.out h&&c0o o.inp h))then .ok .normal tm0 hp0 .z else .no
def rgB (lo hi:Nat)(l:List (Id×O)):Bool:=List.rec (motive:=λ_=>Bool) true (λe _ ih=>bif Nat.ble lo e.1.num&&Nat.blt e.1.num hi then ih else false) l
def eP (P:Program)(hs:Hs)(N:Nat)(o:Oc):Bool:=ifS (b6w P o.g) false λ_=>rgB o.lo.num o.hi.num o.out&&okB (c4n o.inp hp0 λh=>gA P hs (run P hs N) ⟨none,[]⟩ o.g o.args h o.lo (c7k o))
theorem c1f {lo hi:Nat}:∀{l:List (Id×O)},rgB lo hi l=true->∀e,e∈l->Rg lo hi e.1
 |[],_,e,he=>by cases he
 |e'::l,hb,e,he=>by
  have hb:(bif Nat.ble lo e'.1.num&&Nat.blt e'.1.num hi then rgB lo hi l else false)=true:=hb
  cases hq:(Nat.ble lo e'.1.num&&Nat.blt e'.1.num hi)with
  |false=>rw[hq]at hb;cases hb
  |true=>
   rw[hq]at hb
   rcases e0b.1 he with rfl|he
   ·rw[e0d]at hq
    exact⟨aL.1 hq.1,aL.1 hq.2⟩
   ·exact c1f hb e he
theorem aI {P:Program}{hs:Hs}(hm:P.follows .mixedOrders=true)(hcl:HsOk P hs){N:Nat}{o:Oc}(h:eP P hs N o=true):dO P o:=by
 have hR:=c0f hm hcl N
 unfold eP at h
 cases hc:b6w P o.g with
 |none=>rw[hc]at h;cases h
 |some fi=>
  rw[hc]at h
  have h:(rgB o.lo.num o.hi.num o.out&&okB (c4n o.inp hp0 λh=>gA P hs (run P hs N) ⟨none,[]⟩ o.g o.args h o.lo (c7k o)))=true:=h
  rw[e0d]at h
  obtain⟨ha,h⟩:=h
  obtain⟨h0,e1,_,e3⟩:=a3h o.inp hp0 λh=>gA P hs (run P hs N) ⟨none,[]⟩ o.g o.args h o.lo (c7k o)
  rw[e1]at h
  rcases b7r (hs:=hs) hR (lm:=⟨none,[]⟩) hc (args:=o.args) (h:=h0) (nx:=o.lo) (c7k o)with e|⟨v,h',nx',e,q1,q2,q3⟩
  ·rw[e]at h;cases h
  ·rw[e]at h
   unfold c7k at h
   cases hb:(gH nx' o.hi&&(eqV 9 v o.v&&(c0o o.out h'&&c0o o.inp h')))with
   |false=>rw[hb]at h;cases h
   |true=>
    simp only[e0d]at hb
    obtain⟨b1,b2,b3,b4⟩:=hb
    have b1:=bI.1 b1
    have b2:=yC _ _ _ b2
    subst b1 b2
    have hin:∀id x,geH h0 id=some x->(id,x)∈o.inp:=λid x hx=>by
     rcases e3 id x hx with q|⟨_,q⟩
     ·exact q
     ·rw[b1z]at q;cases q
    refine⟨q1,c1f ha,geH h0,geH h',hin,vZ b3,λid x hx=>vZ b4 _ (hin id x hx),?_⟩
    obtain⟨z1,z2⟩:=q3
    exact⟨z1,λE Ow ρ Fr l k W us hE=>z2 E Ow ρ Fr l k W us λ_=>hE⟩
end Go.Kx
end
