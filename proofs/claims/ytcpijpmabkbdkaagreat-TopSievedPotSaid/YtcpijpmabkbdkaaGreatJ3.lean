/- Texts of this proof, joined. No statement of the seat is proved here. -/
import Derived.Test.YtcpijpmabkbdkaaGreatJ2
import Derived.OpenShut
import Derived.ChangeOld
import Derived.Below
import Derived.ProofKit
import Derived.Test.YtcpijpmabkbdkaaGreatJ1
import Derived.ChangeKeysEq
import Derived.WideKeyRuns
set_option linter.unusedVariables false
set_option linter.unusedSimpArgs false
set_option maxRecDepth 100000
set_option maxHeartbeats 64000000
noncomputable section
namespace Go.Px
open Go Go.RowKit
def All (w:World)(b:Nat):Prop:=b<w.heap.size
def lX (w:World)(xs:List DV)(cs:List Value):Prop:=xs.length=cs.length/\∀j,j<cs.length->Rep (All w) w (xs.getD j .top) (cs.getD j undef)/\(cs.getD j undef).oneCell'=true
def sT (cs:List Value):Prop:=∀v∈cs,∀a l c,v= .slice (some a) l c->a.spot=none
def Opn (q:Bool)(P:Program)(t:TypeId){α:Type}(en:α->List DV)(good:α->Prop):Prop:=
  ∀{H:Type} (enc:TypeId×Value->H) (w:World) (base:Nat) (held:Bool) (bH:Nat) (cs:List Value) (x:DataW H×List MemPlace),DataW.trod enc P w base (λ_=>true) held bH t cs=some x->(q=true->sT cs)->∃a,good a/\lX w (en a) cs
theorem Opn.int {q:Bool}{P:Program}{t:TypeId}{k:IntKind}(ht:P.underlying t=some (.int k)):Opn q P t (λn:Int=>[.v (.int k n)]) (λn=>(Lit.int k n).wf=true):=by
 intro H enc w base held bH cs x h _
 obtain⟨n,rfl,_,hw⟩:=DataW.trod_int ht h
 refine⟨n,hw,rfl,λj hj=>?_⟩
 obtain rfl:j=0:=by simp at hj;omega
 exact⟨rfl,rfl⟩
def elD:List DV->DV
  |[x]=>x
  |l=>st l
theorem lC {α β:Type}{f:α->Option β}:∀{l:List α} {r:List β},l.mapM f=some r->r.length=l.length/\∀j,(hj:j<l.length)->f l[j]=r[j]?
 |[],r,h=>by simp at h;subst h;simp
 |a::l,r,h=>by
  rw[e6p]at h
  simp only[Option.bind_eq_bind,Option.bind_eq_some_iff,Option.pure_def,e0a]at h
  obtain⟨b,hb,r',hr,rfl⟩:=h
  obtain⟨h1,h2⟩:=lC hr
  refine⟨by simp[h1],λj hj=>?_⟩
  cases j with
  |zero=>simpa using hb
  |succ j=>simpa using h2 j (by simpa using hj)
theorem tT {w:World}{base:Nat}{a:Addr}{n:Nat}{cs:List Value}(h:w.cells? base a n=some cs):cs.length=n/\∀j,j<n->w.cell? (a.add j)=some (cs.getD j undef):=by
 unfold World.cells? at h
 split at h
 ·obtain⟨h1,h2⟩:=lC h
  rw[e2o]at h1
  refine⟨h1,λj hj=>?_⟩
  have:=h2 j (by simpa using hj)
  rw[List.getElem_range]at this
  rw[this,d9r,e0e (by omega)];rfl
 ·cases h
theorem a9t {a:Addr}(h:a.spot=none)(n:Nat):a.add n=⟨a.block,a.off+n,none⟩:=by
 unfold Addr.add
 split
 ·rename_i e;subst e;cases a;simp at h;simp[h]
 ·rfl
theorem c1z {b o:Nat}(i j:Nat):(⟨b,o+i,none⟩:Addr).add j=⟨b,o+i+j,none⟩:=a9t rfl j
def Cel:DV->Prop
  | .v _=>True
  | .sl ..=>True
  |_=>False
theorem Cel.mem {S:Nat->Prop}{w:World}{x:DV}(h:Cel x){b o:Nat}{u:Value}(hb:S b)(hu:w.cell? ⟨b,o,none⟩=some u)(hx:Rep S w x u)(h1:u.oneCell'=true):b6e S w x b o:=by
 cases x with
 |v y=>exact⟨hb,u,hu,hx,h1⟩
 |sl t k n f=>exact⟨hb,u,hu,hx,h1⟩
 |_=>exact h.elim
theorem c2v {w:World}{xs:List DV}{b o:Nat}{cs:List Value}(h0:0<xs.length)(hc:∀x∈xs,Cel x)(hb:b<w.heap.size)(h:lX w xs cs)(hm:∀j,j<cs.length->w.cell? ⟨b,o+j,none⟩=some (cs.getD j undef)):b6e (All w) w (elD xs) b o:=by
 match xs,h0 with
 |[x],_=>
  have hl:cs.length=1:=h.1.symm
  have:=h.2 0 (by omega)
  have hm0:=hm 0 (by omega)
  exact(hc x (by simp)).mem hb (by simpa using hm0) (by simpa using this.1) this.2
 |x::y::l,_=>
  intro j hj
  have hl:cs.length=(x::y::l).length:=h.1.symm
  have hj':j<cs.length:=by rw[hl];exact hj
  have:=h.2 j hj'
  exact⟨hb,_,hm j hj',this.1,this.2⟩
theorem c2n {w:World}{a:Addr}{v:Value}(h:w.cell? a=some v):a.block<w.heap.size:=by
 unfold World.cell? at h
 split at h
 ·rename_i hh;exact(d9w.1 hh).1
 ·cases h
theorem Opn.slice {q:Bool}{P:Program}{t e:TypeId}{α:Type}{en:α->List DV}{good:α->Prop}{k:Nat}(ht:P.underlying t=some (.slice e))(hk:P.cellsOf e=k)(hk0:0<k)(hlen:∀a,(en a).length=k)
  (hcell:∀a,∀x∈en a,Cel x) (d:α) (he:Opn false P e en good):
  Opn q P t (λl:List α=>[fQ k (λa=>elD (en a)) d l]) (λl=>(∀a∈l,good a)/\l.length<=maxLen):=by
 intro H enc w base held bH cs x h hp
 rcases DataW.trod_slice ht h with⟨rfl,_⟩|⟨a,len,cap,elems,rest,n,_,rfl,_,hb,hl,hm,hlen',hel,_,_⟩
 ·refine⟨[],⟨by simp,by simp⟩,rfl,λj hj=>?_⟩
  obtain rfl:j=0:=by simp at hj;omega
  refine⟨⟨none,0,rfl,e0g _,(λe=>by cases e),λ_=>rfl,λx e=>by cases e⟩,rfl⟩
 have hspot:0<len->a.spot=none:=by
  intro h0
  have h1:=hel 0 h0
  rw[e0e (by omega),Option.bind_eq_some_iff]at h1
  obtain⟨cs,h2,h3⟩:=h1
  obtain⟨c1,c2⟩:=tT h2
  rw[hk]at c1 c2
  have:=c2 0 (by omega)
  have e:(a.add (0*k)).add 0=a:=by unfold Addr.add;simp
  rw[e]at this
  unfold World.cell? at this
  split at this
  ·split at this
   ·cases this
   ·rename_i hs;cases hh:a.spot with
    |none=>rfl
    |some s=>rw[hh]at hs;exact absurd rfl hs
  ·cases this
 have each:∀i,i<len->∃y,good y/\b6e (All w) w (elD (en y)) a.block (a.off+i*k):=by
  intro i hi
  have hsp:=hspot (by omega)
  have h1:=hel i hi
  rw[e0e (by omega),Option.bind_eq_some_iff]at h1
  obtain⟨cs,h2,h3⟩:=h1
  obtain⟨c1,c2⟩:=tT h2
  obtain⟨y,hg,hy⟩:=he enc w base held n cs _ h3 (λe=>by cases e)
  rw[hk]at c1 c2
  have hc:∀j,j<cs.length->w.cell? ⟨a.block,a.off+i*k+j,none⟩=some (cs.getD j undef):=λj hj=>by
   have:=c2 j (by omega)
   rw[a9t hsp,c1z]at this
   exact this
  have hbl:a.block<w.heap.size:=c2n (a:=⟨a.block,_,none⟩) (hc 0 (by omega))
  exact⟨y,hg,c2v (by rw[hlen];exact hk0) (hcell y) hbl hy hc⟩
 have:∃l:List α,l.length=len/\(∀y∈l,good y)/\∀i,i<len->b6e (All w) w (elD (en (l.getD i d))) a.block (a.off+i*k):=by
  clear hel hlen' hp h
  have gen:∀m,m<=len->∃l:List α,l.length=m/\(∀y∈l,good y)/\∀i,i<m->b6e (All w) w (elD (en (l.getD i d))) a.block (a.off+i*k):=by
   intro m
   induction m with
   |zero=>exactλ_=>⟨[],rfl,by simp,by simp⟩
   |succ m ih=>
    intro hm'
    obtain⟨l,h1,h2,h3⟩:=ih (by omega)
    obtain⟨y,hg,hy⟩:=each m (by omega)
    refine⟨l++[y],by simp[h1],λz hz=>?_,λi hi=>?_⟩
    ·rcases e0x.1 hz with hz|hz
     ·exact h2 z hz
     ·rw[e1k.1 hz];exact hg
    ·by_cases e:i<m
     ·have:(l++[y]).getD i d=l.getD i d:=by rw[d9r,d9r,e1u (by omega)]
      rw[this];exact h3 i e
     ·obtain rfl:i=m:=by omega
      have:(l++[y]).getD i d=y:=by rw[d9r,e1m (by omega),h1];simp
      rw[this];exact hy
  exact gen len (e0g _)
 obtain⟨l,rfl,hg,hr⟩:=this
 refine⟨l,⟨hg,by omega⟩,rfl,λj hj=>?_⟩
 obtain rfl:j=0:=by simp at hj;omega
 refine⟨⟨some a,cap,rfl,hl,(λe=>by cases e),(λe=>by cases e),λx e i hi=>?_⟩,rfl⟩
 cases e;exact⟨hspot (by omega),hr i hi⟩
def c1x {H:Type}(enc:TypeId×Value->H)(P:Program)(w:World)(base:Nat)(held:Bool)(n:Nat):List TypeId->List Value->Prop
  |[],cs=>cs=[]
  |t::l,cs=>P.cellsOf t<=cs.length/\(∃x,DataW.trod enc P w base (λ_=>true) held n t (cs.take (P.cellsOf t))=some x)/\c1x enc P w base held n l (cs.drop (P.cellsOf t))
def tV (P:Program):Nat->List Field->Nat->Bool
  |o,[],e=>Nat.beq o e
  |o,f::l,e=>Nat.beq f.offset o&&tV P (o+P.cellsOf f.type) l e
theorem yB {P:Program}:∀{l:List Field} {o e:Nat},tV P o l e=true->o<=e
 |[],o,e,h=>e1h (d9s h)
 |f::l,o,e,h=>by
  simp only[tV,e0d]at h
  have:=yB h.2
  omega
theorem oX {H:Type}{enc:TypeId×Value->H}{P:Program}{w:World}{base:Nat}{held:Bool}{n:Nat}{cs:List Value}:∀{l:List Field} {o:Nat},tV P o l cs.length=true->
  (∀f∈l,∃x,DataW.trod enc P w base (λ_=>true) held n f.type ((cs.drop f.offset).take (P.cellsOf f.type))=some x)->c1x enc P w base held n (l.map (·.type)) (cs.drop o)
 |[],o,h,_=>by
  have:=d9s h
  rw[this];exact List.drop_length ..
 |f::l,o,h,hx=>by
  simp only[tV,e0d]at h
  obtain rfl:=d9s h.1
  have hle:=yB h.2
  refine⟨by rw[e2p];show P.cellsOf f.type<=_;omega,hx f (by simp),?_⟩
  rw[List.drop_drop]
  exact oX h.2 λg hg=>hx g (by simp[hg])
def a7h (q:Bool)(P:Program)(l:List TypeId){α:Type}(en:α->List DV)(good:α->Prop):Prop:=
  ∀{H:Type} (enc:TypeId×Value->H) (w:World) (base:Nat) (held:Bool) (n:Nat) (cs:List Value),c1x enc P w base held n l cs->(q=true->sT cs)->∃a,good a/\lX w (en a) cs
theorem a7h.nil {q:Bool}{P:Program}:a7h q P [] (λ_:Unit=>[]) (λ_=>True):=by
 intro H enc w base held n cs h _
 have h:cs=[]:=h
 subst h
 exact⟨(),trivial,rfl,λj hj=>absurd hj (e3i j)⟩
theorem lX.app {w:World}{xs ys:List DV}{cs:List Value}{k:Nat}(hk:k<=cs.length)(h:lX w xs (cs.take k))(h':lX w ys (cs.drop k)):lX w (xs++ys) cs:=by
 obtain⟨h1,h2⟩:=h
 obtain⟨h3,h4⟩:=h'
 rw[e4l,Nat.min_eq_left hk]at h1 h2
 rw[e2p]at h3 h4
 refine⟨by simp;omega,λj hj=>?_⟩
 by_cases e:j<k
 ·have:=h2 j e
  rw[show(xs++ys).getD j .top=xs.getD j .top by rw[d9r,d9r,e1u (by omega)]]
  rw[show(cs.take k).getD j undef=cs.getD j undef by rw[d9r,d9r,e4i,e0c e]]at this
  exact this
 ·have:=h4 (j-k) (by omega)
  rw[show(xs++ys).getD j .top=ys.getD (j-k) .top by rw[d9r,d9r,e1m (by omega),h1]]
  rw[show(cs.drop k).getD (j-k) undef=cs.getD j undef by rw[d9r,d9r,e4n,show k+(j-k)=j by omega]]at this
  exact this
theorem sT.take {cs:List Value}(h:sT cs)(k:Nat):sT (cs.take k):=λv hv=>h v (e5f hv)
theorem sT.drop {cs:List Value}(h:sT cs)(k:Nat):sT (cs.drop k):=λv hv=>h v (List.mem_of_mem_drop hv)
theorem a7h.cons {q:Bool}{P:Program}{t:TypeId}{l:List TypeId}{α β:Type}{en:α->List DV}{good:α->Prop}{en':β->List DV}{good':β->Prop}(h:Opn q P t en good)(h':a7h q P l en' good'):
  a7h q P (t::l) (λp:α×β=>en p.1++en' p.2) (λp=>good p.1/\good' p.2):=by
 intro H enc w base held n cs ⟨hk,⟨x,hx⟩,hr⟩ hp
 obtain⟨a,ha,ca⟩:=h enc w base held n _ x hx (λe=>(hp e).take _)
 obtain⟨b,hb,cb⟩:=h' enc w base held n _ hr (λe=>(hp e).drop _)
 exact⟨(a,b),⟨ha,hb⟩,ca.app hk cb⟩
theorem Opn.struct {q:Bool}{P:Program}{t:TypeId}{fs:Array Field}{α:Type}{en:α->List DV}{good:α->Prop}(ht:P.underlying t=some (.struct fs))(hc:tV P 0 fs.toList (P.cellsOf t)=true)(h:a7h q P (fs.toList.map (·.type)) en good):Opn q P t en good:=by
 intro H enc w base held bH cs x hx hp
 obtain⟨xs,n,_,_,hl,hxl,hf⟩:=DataW.trod_struct ht hx
 refine h enc w base held n cs ?_ hp
 have:=oX (enc:=enc) (P:=P) (w:=w) (base:=base) (held:=held) (n:=n) (cs:=cs) (l:=fs.toList) (o:=0) (by rw[hl];exact hc) λf hf'=>by
  obtain⟨i,hi,rfl⟩:=e3w hf'
  have h1:=hf i fs.toList[i] (by simp at hi;simp[hi])
  rw[e0e (by simp at hi;omega)]at h1
  exact⟨_,h1⟩
 simpa using this
theorem Opn.map {q:Bool}{P:Program}{t:TypeId}{α β:Type}{en:α->List DV}{good:α->Prop}{en':β->List DV}{good':β->Prop}(h:Opn q P t en good)(f:α->β)(hf:∀a,good a->en' (f a)=en a/\good' (f a)):Opn q P t en' good':=by
 intro H enc w base held bH cs x hx hp
 obtain⟨a,ha,ca⟩:=h enc w base held bH cs x hx hp
 obtain⟨h1,h2⟩:=hf a ha
 exact⟨f a,h2,h1▸ca⟩
theorem Opn.arg {q:Bool}{P:Program}{t:TypeId}{α:Type}{en:α->List DV}{good:α->Prop}(h:Opn q P t en good){H:Type}{enc:TypeId×Value->H}{w:World}{v:Value}{d:DataW H}{ps:List MemPlace}(hv:DataW.Trod enc P w 0 (λ_=>true) true t v d ps)(hp:q=true->sT v.cells.toList):
  ∃a,good a/\lX w (en a) v.cells.toList:=by
 obtain⟨bH,hf⟩:=hv
 exact h enc w 0 true bH _ _ hf hp
theorem lX.one {w:World}{x:DV}{v:Value}(h:lX w [x] v.cells.toList)(hv:v.cells= #[v]):Rep (All w) w x v:=by
 have:=(h.2 0 (by rw[hv];simp)).1
 rw[hv]at this
 simpa using this
theorem lX.st {w:World}{xs:List DV}{cs:Array Value}(h:lX w xs cs.toList):Rep (All w) w (st xs) (.agg cs):=
 ⟨cs,rfl,by have:=h.1;simp at this;exact this.symm,λj hj=>by
  have:=h.2 j (by rw[<-h.1];exact hj)
  simpa[d9x,d9r,Rep]using this⟩
theorem a8u {P:Program}{w:World}{base:Nat}{t:TypeId}{v:Value}(h:Cell.okWide P w .any base t v):∀a l c,v= .slice (some a) l c->a.spot=none:=by
 rintro a l c rfl
 have h2:Cell.ok P w .any base t (.slice (some a) l c):=by
  unfold Cell.okWide at h
  split at h<;>first|contradiction|exact h
 unfold Cell.ok at h2
 split at h2
 all_goals first|exact h2.elim|contradiction|skip
 all_goals
  rename_i heq1 heq2
  injection heq2 with e1 e2 e3
  first
   |(cases e1;done)
   |(injection e1 with e1;rw[e1];exact h2.2.2.2.1)
theorem b3o {P:Program}{w:World}{base:Nat}{t:TypeId}{cs:Array Value}(h:Row.okWide P w .any base t cs):sT (Value.agg cs).cells.toList:=by
 intro v hv
 obtain⟨ts,_,_,hr⟩:=h
 obtain⟨i,hi,rfl⟩:=e3w hv
 have hi1:i<(Value.agg cs).cells.size:=by simpa using hi
 have hi':i<cs.size:=hi1
 obtain⟨u,_,hu⟩:=hr i cs[i] (by simp[hi'])
 exact a8u hu
section
variable {P:Program}
theorem mR {t:Nat}{k:IntKind}(h:P.underlying t=some (.int k)){cs:Array Value}{o:Nat}{v:Value}(hv:cs[o]?=some v)(w:World):(part t cs o).run P w= .ok v w:=by
 simp[part,Go.isAgg,e0k h,hv]
def Flds (P:Program):List Field->Nat->Prop
  |[],_=>True
  |f::fs,i=>f.name≠ "_" /\f.offset=i/\P.underlying f.type=some (.int .i64)/\Flds P fs (i+1)
theorem mJ (l:List Int){i:Nat}(h:i<l.length):((l.map (Value.int .i64)).toArray)[i]?=some (.int .i64 l[i]):=by
 rw[e0t,e0j,e0e h];rfl
theorem a4u (l l':List Int){i:Nat}(h1:i<l.length)(h2:i<l'.length):decide (l.drop i=l'.drop i)=(l[i]==l'[i]&&decide (l.drop (i+1)=l'.drop (i+1))):=by
 have e1:l.drop i=l[i]::l.drop (i+1):=e5y h1
 have e2:l'.drop i=l'[i]::l'.drop (i+1):=e5y h2
 rw[e2y,e0d,e2a,e2a,beq_iff_eq,e1,e2]
 exact e5c ..▸e6i
theorem oJ (d:Nat)(l l':List Int):∀(fs:List Field) (i:Nat) (w:World),Flds P fs i->l.length=i+fs.length->l'.length=i+fs.length->
  (Op.eqFields (d+1) (l.map (Value.int .i64)).toArray (l'.map (Value.int .i64)).toArray fs).run P w= .ok (decide (l.drop i=l'.drop i)) w
 |[],i,w,_,h1,h2=>by
  have e1:l.drop i=[]:=e3r (by simp at h1;omega)
  have e2:l'.drop i=[]:=e3r (by simp at h2;omega)
  simp[Op.eqFields,e1,e2]
 |f::fs,i,w,⟨hn,ho,hu,hf⟩,h1,h2=>by
  simp only[e0r]at h1 h2
  have a1:=mJ l (i:=i) (by omega)
  have a2:=mJ l' (i:=i) (by omega)
  have ih:=oJ d l l' fs (i+1) w hf (by omega) (by omega)
  simp only[Op.eqFields,e0c hn,ho,d9t,mR hu a1,mR hu a2,d9q,run_equalIn_int _ d _ _ _ _ _ hu]
  rw[a4u l l' (by omega) (by omega)]
  by_cases e:l[i]=l'[i]
  ·rw[d9z (by simp[e]),ih]
   simp only[e,beq_self_eq_true,Bool.true_and]
  ·rw[e0c (by simp[e])]
   rw[beq_eq_false_iff_ne.2 e];rfl
theorem eqT_struct {t:Nat}{fs:Array Field}(hu:P.underlying t=some (.struct fs))(hs:P.stoodInHeld t=false)(hg:P.eqGuardType P.depth t=false)(hf:Flds P fs.toList 0):EqT P t fs.size:=by
 refine⟨hg,λl l' w h1 h2=>?_⟩
 have hfo:P.fieldsOf t=fs:=by unfold Program.fieldsOf;rw[hu]
 unfold eL
 rw[show(10000:Nat)=9999+1 from rfl,run_equalIn_struct w 9999 t _ _ (by rw[hfo];exact hu) hs,hfo,oJ 9998 l l' fs.toList 0 w hf (by simpa using h1) (by simpa using h2)]
 rfl
theorem qY (d:Nat){e:Nat}(he:P.underlying e=some (.int .i64))(l l':List Int):∀(n i:Nat) (w:World),l.length=i+n->l'.length=i+n->
  (Op.eqItems (d+1) e 1 (l.map (Value.int .i64)).toArray (l'.map (Value.int .i64)).toArray (List.range' i n)).run P w= .ok (decide (l.drop i=l'.drop i)) w
 |0,i,w,h1,h2=>by
  have e1:l.drop i=[]:=e3r (by omega)
  have e2:l'.drop i=[]:=e3r (by omega)
  simp[Op.eqItems,e1,e2]
 |n+1,i,w,h1,h2=>by
  have a1:=mJ l (i:=i) (by omega)
  have a2:=mJ l' (i:=i) (by omega)
  have ih:=qY d he l l' n (i+1) w (by omega) (by omega)
  simp only[List.range'_succ,Op.eqItems,e7s,d9t,mR he a1,mR he a2,d9q,run_equalIn_int _ d _ _ _ _ _ he]
  rw[a4u l l' (by omega) (by omega)]
  by_cases q:l[i]=l'[i]
  ·simp only[q,beq_self_eq_true,Bool.true_and,e4z,e2l,e3g,ih]
  ·rw[beq_eq_false_iff_ne.2 q];rfl
theorem eqT_array {t e n:Nat}{i:TypeInfo}(hu:P.underlying t=some (.array n e))(hg:P.eqGuardType P.depth t=false)(he:P.underlying e=some (.int .i64))(hi:P.info? e=some i)(hc:i.size=1):EqT P t n:=by
 refine⟨hg,λl l' w h1 h2=>?_⟩
 unfold eL
 have hc':P.cellsOf e=1:=by unfold Program.cellsOf;rw[hi];exact hc
 rw[show(10000:Nat)=9998+1+1 from rfl,run_equalIn_array w _ _ _ hu hi,hc',e6b,qY 9998 he l l' n 0 w (by simpa using h1) (by simpa using h2)]
 rfl
theorem a4r (n:Nat)(l:List Int)(em:Bool):∀(fs:List Field) (i:Nat) (w:World),Flds P fs i->l.length=i+fs.length->
  ((forIn fs PUnit.unit (λf _=>if f.name≠ "_" then(do
    let p <-part f.type (l.map (Value.int .i64)).toArray f.offset
    Instr.checkKey em (n+1) f.type p
    pure (ForInStep.yield PUnit.unit):Sem (ForInStep PUnit))else pure (ForInStep.yield PUnit.unit))):Sem PUnit).run P w= .ok PUnit.unit w
 |[],_,w,_,_=>by simp
 |f::fs,i,w,⟨hn,ho,hu,hf⟩,h1=>by
  simp only[e0r]at h1
  have a1:=mJ l (i:=i) (by omega)
  have hc:(Instr.checkKey em (n+1) f.type (.int .i64 l[i])).run P w= .ok () w:=by
   unfold Instr.checkKey
   simp[e0k hu]
  simp only[List.forIn_cons,e0c hn,ho,d9t,mR hu a1,d9q,hc,d9u]
  exact a4r n l em fs (i+1) w hf (by omega)
theorem tP {kT:Nat}{kt:KT}(hinj:∀{k k':List Int},k.length=kt.n->k'.length=kt.n->aJ kt k=aJ kt k'->k=k')(heq:∀(l l':List Int) w,l.length=kt.n->l'.length=kt.n->(Op.equal kT (aJ kt l) (aJ kt l')).run P w= .ok (decide (l=l')) w){k:List Int}(hk:k.length=kt.n):
  ∀(es:List MapEntry) (i:Nat) (w:World),(∀e∈es,∃k':List Int,k'.length=kt.n/\e.key=aJ kt k')->
   ((Instr.findAsking kT (aJ kt k) es i).run P w= .ok none w/\∀e∈es,e.key≠aJ kt k)\/
   ∃(j:Nat) (e:MapEntry),(Instr.findAsking kT (aJ kt k) es i).run P w= .ok (some (i+j,e.val)) w/\es[j]?=some e/\e.key=aJ kt k
 |[],i,w,_=> .inl ⟨by simp[Instr.findAsking],by simp⟩
 |e::es,i,w,h=>by
  obtain⟨k',hk',he⟩:=h e (by simp)
  have hr:=heq k k' w hk hk'
  rw[<-he]at hr
  by_cases q:k=k'
  ·right
   refine⟨0,e,?_,rfl,by rw[he,q]⟩
   rw[e1r q]at hr
   simp only[Instr.findAsking,d9t,hr,d9q,e4b,e2j,d9u]
  ·rcases tP hinj heq hk es (i+1) w (λy hy=>h y (by simp[hy]))with⟨h1,h2⟩|⟨j,e',h1,h2,h3⟩
   ·left
    refine⟨by simp[Instr.findAsking,hr,q,h1],λy hy=>?_⟩
    rcases e0b.1 hy with rfl|hy
    ·rw[he];exactλe=>q (hinj hk hk' e.symm)
    ·exact h2 y hy
   ·right
    exact⟨j+1,e',by simp[Instr.findAsking,hr,q,h1,e3j,e7v 1 j],by simpa using h2,h3⟩
theorem keyOk_struct {va:Bool}{t:Nat}{fs:Array Field}(hu:P.underlying t=some (.struct fs))(hs:P.stoodInHeld t=false)(hg:P.eqGuardType P.depth t=false)(hf:Flds P fs.toList 0):KeyOk P t ⟨true,fs.size,va⟩:=by
 have hq:=eqT_struct hu hs hg hf
 refine⟨by simp,λem k w hk=>?_,λk es w hk hes=>?_⟩
 ·show(Instr.checkKey em 10000 t (.agg (k.map (Value.int .i64)).toArray)).run P w=_
  rw[show(10000:Nat)=9998+1+1 from rfl,Instr.checkKey]
  simp only[d9t,e0k hu,d9q]
  rw[<-Array.forIn_toList]
  have h0:=a4r 9998 k em fs.toList 0 w hf (by simpa using hk)
  rw[h0];rfl
 ·rw[run_findKey_eq w (by rw[hu])]
  have:=tP (P:=P) (kT:=t) (kt:=⟨true,fs.size,va⟩) (λh1 h2 h=>keyV_inj (by simp) h1 h2 h) (λl l' w h1 h2=>hq.eq l l' w h1 h2) hk es 0 w hes
  simpa using this
theorem rA {va:Bool}{k:List Int}(hk:k.length=1):∀(es:List MapEntry) (i:Nat),(∀e∈es,∃k':List Int,k'.length=1/\e.key=aJ ⟨false,1,va⟩ k')->
  (Instr.findNow (.int .i64) (aJ ⟨false,1,va⟩ k) es i=some none/\∀e∈es,e.key≠aJ ⟨false,1,va⟩ k)\/
  ∃(j:Nat) (e:MapEntry),Instr.findNow (.int .i64) (aJ ⟨false,1,va⟩ k) es i=some (some (i+j,e.val))/\es[j]?=some e/\e.key=aJ ⟨false,1,va⟩ k
 |[],i,_=> .inl ⟨rfl,by simp⟩
 |e::es,i,h=>by
  obtain⟨k',hk',he⟩:=h e (by simp)
  obtain⟨x,rfl⟩:=e2q.1 hk
  obtain⟨y,rfl⟩:=e2q.1 hk'
  have h0:Instr.sameNow (.int .i64) (aJ ⟨false,1,va⟩ [x]) e.key=some (x==y):=by rw[he];rfl
  by_cases q:x=y
  ·subst q
   right
   refine⟨0,e,?_,rfl,he⟩
   simp[Instr.findNow,h0]
  ·rw[beq_eq_false_iff_ne.2 q]at h0
   rcases rA (va:=va) (k:=[x]) rfl es (i+1) (λz hz=>h z (by simp[hz]))with⟨h1,h2⟩|⟨j,e',h1,h2,h3⟩
   ·left
    refine⟨by simp[Instr.findNow,h0,h1],λz hz=>?_⟩
    rcases e0b.1 hz with rfl|hz
    ·rw[he];intro e2;simp[aJ]at e2;exact q e2.symm
    ·exact h2 z hz
   ·right
    exact⟨j+1,e',by simp[Instr.findNow,h0,h1,e3j,e7v 1 j],by simpa using h2,h3⟩
theorem keyOk_int {va:Bool}{t:Nat}(hu:P.underlying t=some (.int .i64)):KeyOk P t ⟨false,1,va⟩:=by
 refine⟨λ_=>rfl,λem k w hk=>?_,λk es w hk hes=>?_⟩
 ·obtain⟨x,rfl⟩:=e2q.1 hk
  show(Instr.checkKey em 10000 t (.int .i64 x)).run P w=_
  rw[show(10000:Nat)=9999+1 from rfl,Instr.checkKey]
  simp[e0k hu]
 ·rcases rA (va:=va) hk es 0 hes with⟨h1,h2⟩|⟨j,e,h1,h2,h3⟩
  ·exact .inl ⟨by simp[Instr.findKey,e0k hu,h1],h2⟩
  ·exact .inr ⟨j,e,by simp[Instr.findKey,e0k hu,h1],h2,h3⟩
theorem d8s {t kT eT:Nat}{kt:KT}(hu:P.underlying t=some (.map kT eT))(hk:KeyOk P kT kt)(hz:∀w,(zeroValue eT).run P w= .ok (jW kt 0) w):d1e P t kt:=⟨kT,eT,hu,hk,hz⟩
theorem d3t {t kT eT n:Nat}{ag:Bool}(hu:P.underlying t=some (.map kT eT))(hk:KeyOk P kT ⟨ag,n,true⟩)(hz:∀w,(zeroValue eT).run P w= .ok (.agg #[.int .i64 0,.int .i64 0]) w):d1e P t ⟨ag,n,true⟩:=
 ⟨kT,eT,hu,hk,λw=>by rw[hz];unfold jW eL;rw[b7d,b7e];rfl⟩
end
theorem Sp.byes {b:Bool}{X Y:Prop}(t:X)(h:b=true:=by assumption):Sp b X Y:=by subst h;exact Sp.tt t
theorem Sp.bno {b:Bool}{X Y:Prop}(f:Y)(h:b=false:=by assumption):Sp b X Y:=by subst h;exact Sp.ff f
theorem Ob.frX {A:Prop}{P:Program}{g:Nat}{args args':List DV}{U q n:Nat}{x:Nat->DV}{y:AV}{rest:Prop}(h:FnF P g args U q n x y)(im:sR args' args)(ok:A)(k:rest):
 Ob (A/\FnF P g args' U q n x y) rest:=⟨⟨ok,h.imp im.imps⟩,λ_=>k⟩
theorem Ob.nwX {A:Prop}{P:Program}{g:Nat}{args args':List DV}{R:Res}{y:AV}{rest:Prop}(h:FnN P g args R y)(im:sR args' args)(ok:A)(k:rest):
 Ob (A/\FnN P g args' R y) rest:=⟨⟨ok,h.imp im.imps⟩,λ_=>k⟩
theorem Cl.lsOf {P:Program}{g:Nat}{ms:List Res}{as:List AV}{K:Nat}{ι:Type}{ms':ι->List Res}{y:ι->AV}(h:FnL P g ms as K ms' y){f:CR->Prop}(k:f (.ls as ms K ι ms' y)):Cl f:=⟨⟨_,k⟩⟩
abbrev _root_.e8d:=@Cl.lsOf
theorem Ob.lsX {A:Prop}{P:Program}{g:Nat}{ms:List Res}{as:List AV}{K:Nat}{ι:Type}{ms':ι->List Res}{y:ι->AV}{rest:ι->Prop}(h:FnL P g ms as K ms' y)(ok:A)(k:∀q,rest q):Ob (A/\FnL P g ms as K ms' y) (∀q,rest q):=⟨⟨ok,h⟩,λ_=>k⟩
theorem Ap.a {c:Prop}{off n:Nat}{f g:Nat->DV}{X:Nat->(Nat->DV)->Prop}(z:X 0 (apd n (λj=>f (off+j)) g))(o:X off (apd (off+n) f g))(ok:c:=by exact Lf):Ap c off n f g X:=⟨ok,λ_=>z,λ_=>o⟩
theorem Ob.B {p rest:Prop}(h:p:=by first|exact And.intro (e1n rfl) True.intro|exact Lf):T1 rest (Ob p rest):=⟨λr=>⟨h,λ_=>r⟩⟩
theorem Sp.Yes {p:Prop}[Decidable p]{X Y:Prop}(h:p:=by omega):T1 X (Sp (decide p) X Y):=⟨λt=>Sp.dec (λ_=>t) λhn=>absurd h hn⟩
theorem Sp.No {p:Prop}[Decidable p]{X Y:Prop}(h:¬p:=by omega):T1 Y (Sp (decide p) X Y):=⟨λf=>Sp.dec (λhp=>absurd hp h) λ_=>f⟩
theorem Sp.Nyes {p:Prop}[Decidable p]{X Y:Prop}(h:p:=by omega):T1 Y (Sp (!decide p) X Y):=⟨λf=>Sp.ndec (λhn=>absurd h hn) λ_=>f⟩
theorem Sp.Nno {p:Prop}[Decidable p]{X Y:Prop}(h:¬p:=by omega):T1 X (Sp (!decide p) X Y):=⟨λt=>Sp.ndec (λ_=>t) λhp=>absurd hp h⟩
theorem Fi.A {p q:Prop}(ok:p:=by exact Lf):T1 q (Fi p q):=⟨λim=>⟨ok,im⟩⟩
theorem Yl.A {p X Y:Prop}(c:p:=by exact Lf):T2 X Y (Yl p X Y):=⟨λt f=>⟨c,t,f⟩⟩
theorem Ap.A {c:Prop}{off n:Nat}{f g:Nat->DV}{X:Nat->(Nat->DV)->Prop}(ok:c:=by exact Lf):T2 (X 0 (apd n (λj=>f (off+j)) g)) (X off (apd (off+n) f g)) (Ap c off n f g X):=⟨λz o=>⟨ok,λ_=>z,λ_=>o⟩⟩
theorem go {p q:Prop}(k:q)(h:T1 q p:=by first|exact Ob.A|exact⟨Sp.tt⟩|exact⟨Sp.ff⟩|exact Sp.Yes|exact Sp.No|exact Sp.Nyes|exact Sp.Nno|exact Fi.A|exact Ob.B):p:=h.h k
theorem go2 {p q r:Prop}(a:q)(b:r)(h:T2 q r p:=by first|exact⟨Sp.ne⟩|exact⟨Sp.dec⟩|exact⟨Sp.ndec⟩|exact⟨Sp.mk⟩|exact Ap.A|exact Yl.A):p:=h.h a b
theorem Cl.T {f:CR->Prop}{r:DV}{q:Prop}(h:T1 q (f (.dv r))):T1 q (Cl f):=⟨λx=>Cl.go r (h.h x)⟩
theorem Ob.C {A:Prop}{P:Program}{g:Nat}{args args':List DV}{r:DV}{rest:Prop}(h:Fn P g args r)(im:sR args' args:=by exact Lf)(ok:A:=by exact Lf):T1 rest (Ob (A/\Fn P g args' r) rest):=⟨λk=>⟨⟨ok,h.imp im.imps (e6y _)⟩,λ_=>k⟩⟩
theorem gc {P:Program}{g:Nat}{args:List DV}{r:DV}(c:Fn P g args r){p q:Prop}(k:q)(h:Fn P g args r->T1 q p:=by
 intro c
 apply Cl.T
 (conv=>arg 2;whnf)
 exact Ob.C c):p:=(h c).h k
def AV.sh (K:Nat)(x:DV):AV->AV
  | .d y=> .d y
  | .ref i off=>bif Nat.beq i K then .d .top else .ref i off
  | .el i k j off=>bif Nat.beq i K then .d .top else .el i k j off
  | .ms i k off n=>bif Nat.beq i K then .d .top else .ms i k off n
  | .ag n f=> .ag n λj=>(f j).sh K x
  | .fn g n m f c=> .fn g n m (λj=>(f j).sh K x) (λj=>(c j).sh K x)
  | .mp i=>bif Nat.beq i K then .d x else .mp i
  | .tp n f=> .tp n λj=>(f j).sh K x
  | .sub i k j=>bif Nat.beq i K then .d .top else .sub i k j
  | .stp i=>bif Nat.beq i K then .d .top else .stp i
def Res.sh (K:Nat)(x:DV):Res->Res
  | .cs mt n f=> .cs mt n λj=>(f j).sh K x
  | .row mt U k n x=> .row mt U k n x
  | .mp mt kt m=> .mp mt kt m
  | .it mt kt m s c=> .it mt kt m s c
  | .me mt kt m l g=> .me mt kt m l g
theorem Res.sh_nw {K:Nat}{x:DV}{r:Res}:(r.sh K x).nw=r.nw:=by cases r<;>rfl
theorem AV.sh_rep {E E':Env}{W:World}{K:Nat}{x:DV}(hS:∀b,E.S b->E'.S b)(hρ:∀j,j≠K->E'.ρ j=E.ρ j)(hK:∀u,(∃b,E.ρ K= .at b/\u= .map (some b))->Rep E'.S W x u):∀{y:AV} {u:Value},aK E W y u->aK E' W (y.sh K x) u:=by
 have cut:∀{i:Nat} {y:AV} {u:Value},(i≠K->aK E' W y u)->aK E' W (bif Nat.beq i K then .d .top else y) u:=by
  intro i y u h
  cases hb:Nat.beq i K with
  |true=>exact trivial
  |false=>exact h λe=>by rw[e,e3k]at hb;cases hb
 intro y
 induction y with
 |d z=>exactλ{u} hx=>Rep.mono hS (λ_ _=>rfl) hx
 |ref id off=>rintro u ⟨b,hb,rfl⟩;exact cut λe=>⟨b,(hρ id e).trans hb,rfl⟩
 |el id k j off=>rintro u ⟨b,hb,rfl⟩;exact cut λe=>⟨b,(hρ id e).trans hb,rfl⟩
 |ms id k off n=>
  rintro u (⟨hb,hn,rfl⟩|⟨b,o,cap,c,T,hb,h2⟩)
  ·exact cut λe=> .inl ⟨(hρ id e).trans hb,hn,rfl⟩
  ·exact cut λe=> .inr ⟨b,o,cap,c,T,(hρ id e).trans hb,h2⟩
 |ag n f ih=>rintro u ⟨cs,rfl,hs,hc⟩;exact⟨cs,rfl,hs,λj hj=>⟨ih j (hc j hj).1,(hc j hj).2⟩⟩
 |fn g n m f c ih1 ih2=>rintro u ⟨fs,cs,rfl,h1,h2,h3,h4⟩;exact⟨fs,cs,rfl,h1,h2,λj hj=>ih1 j (h3 j hj),λj hj=>ih2 j (h4 j hj)⟩
 |mp id=>
  rintro u ⟨b,hb,rfl⟩
  show aK E' W (bif Nat.beq id K then .d x else .mp id) _
  cases hbq:Nat.beq id K with
  |true=>obtain rfl:=d9s hbq;exact hK _ ⟨b,hb,rfl⟩
  |false=>exact⟨b,(hρ id λe=>by rw[e,e3k]at hbq;cases hbq).trans hb,rfl⟩
 |tp n f ih=>rintro u ⟨cs,rfl,hs,hc⟩;exact⟨cs,rfl,hs,λj hj=>ih j (hc j hj)⟩
 |sub id k j=>rintro u ⟨b,hb,rfl⟩;exact cut λe=>⟨b,(hρ id e).trans hb,rfl⟩
 |stp id=>rintro u ⟨b,hb,rfl⟩;exact cut λe=>⟨b,(hρ id e).trans hb,rfl⟩
theorem FnL.shut {P:Program}{f:Nat}{ms:List Res}{args:List AV}{K:Nat}{ι:Type}{ms0:ι->List Res}{kt:ι->KT}{bm:ι->List Int->Option Int}{y:ι->AV}(h:FnL P f ms args (K+1) (λz=>ms0 z++[.mp true (kt z) (bm z)]) y)(hle:ms.length<=K):
  FnL P f ms args K (λz=>(ms0 z).map (Res.sh K (.mp (kt z) (bm z)))) (λz=>(y z).sh K (.mp (kt z) (bm z))):=by
 have hlen:∀z,(ms0 z).length=K:=λz=>by have:=h.len z;rw[e1f,e3n]at this;omega
 refine⟨h.ent,hle,λz=>by rw[e0z];exact hlen z,h.nw,λz r hr=>?_,λE w vals hs0=>(h.run E w vals hs0).mono ?_⟩
 ·obtain⟨r0,h0,rfl⟩:=e0l.1 hr
  rw[Res.sh_nw];exact h.nw' z r0 (e0p _ h0)
 rintro e w' ⟨z,u,E',rfl,hs⟩
 have hnw:=h.nw' z
 have hp0:∀(xs:List AV) (rs:List Res) i,(mSt xs rs).hp i=rs[i]?:=λxs rs i=>nT rs i
 have hlz:=hlen z
 refine⟨z,?_⟩
 show∃u' E2,Ending.returned u= .returned u'/\Sat (iD ms.length E w) (λj=>K<=j) E2 (mSt [(y z).sh K (.mp (kt z) (bm z))] ((ms0 z).map (Res.sh K (.mp (kt z) (bm z))))) ⟨#[u'],[]⟩ w'
 generalize ms0 z=ms1 at*
 generalize kt z=kt at*
 generalize bm z=bm at*
 generalize y z=y at*
 have hKr:SatR (iD ms.length E w) E' w' K (.mp true kt bm):=hs.hp K _ ((hp0 ..).trans (by rw[e1m (by omega),hlz];simp))
 obtain⟨b2,es,clock,hb2,hh,hown,hmo⟩:=hKr
 have hown':¬E'.S b2/\(iD ms.length E w).ow b2:=hown
 let E2:Env:=⟨λb=>E'.S b\/b=b2,λj=>if j=K then .un else E'.ρ j,E'.D⟩
 have hρ:∀j,j≠K->E2.ρ j=E'.ρ j:=λj hj=>d9z hj
 have hrep:∀{x:AV} {u:Value},aK E' w' x u->aK E2 w' (x.sh K (.mp kt bm)) u:=λ{x u} hx=>AV.sh_rep (E':=E2) (λ_ h=> .inl h) hρ (by
  rintro v ⟨b,hb,rfl⟩
  rw[hb2]at hb;cases hb
  exact⟨b2,es,clock,rfl,.inr rfl,hh,hmo⟩) hx
 have hD:E'.D=[]:=by have:=hs.df;simpa using this.symm
 have hi0:∀i r,ms1[i]?=some r->i<K/\(mSt [y] (ms1++[.mp true kt bm])).hp i=some r:=λi r hi=>by
  have hl:=(e1l.1 hi).1
  exact⟨by omega,(hp0 ..).trans (by rw[e1u hl];exact hi)⟩
 have hne:∀i r b,ms1[i]?=some r->E'.ρ i= .at b->b≠b2:=λi r b hi hb e=>by
  obtain⟨h1,h2⟩:=hi0 i r hi
  have:=hs.dist i K b (by rw[h2];simp) (by rw[hp0,e1m (by omega),hlz];simp) hb (e▸hb2)
  omega
 refine⟨u,E2,rfl,⟨hs.size,λi hi=>?_,λi r hi=>?_,λi j b hi hj h4 h5=>?_,λi hi=>?_,λb hb=> .inl (hs.sub b hb),λb hb=>?_,hs.s0,hs.df,hs.dn,λD hDm=>(by rw[show E2.D=E'.D from rfl,hD]at hDm;cases hDm),hs.g,λi hi=>?_⟩⟩
 ·have hi:i<1:=hi
  obtain rfl:i=0:=by omega
  exact hrep (hs.tm 0 Nat.zero_lt_one)
 ·rw[hp0,e0j,e0u]at hi
  obtain⟨r0,hr0,rfl⟩:=hi
  obtain⟨hiK,hr1⟩:=hi0 i r0 hr0
  have hsr:=hs.hp i r0 hr1
  have hn0:=hnw r0 (e0p _ (e1j hr0))
  have hρi:=hρ i (by omega)
  have own:∀b,E'.ρ i= .at b->(¬E'.S b/\(iD ms.length E w).ow b)->¬E2.S b/\(iD ms.length E w).ow b:=λb hb h=>⟨λhS=>hS.elim h.1 (hne i r0 b hr0 hb),h.2⟩
  cases r0 with
  |cs mt n f=>
   cases mt with
   |false=>cases hn0
   |true=>
    obtain⟨b,c,T,q1,q2,q3,q4,q5⟩:=hsr
    exact⟨b,c,T,hρi.trans q1,q2,q3,own b q1 q4,λj hj=>⟨hrep (q5 j hj).1,(q5 j hj).2⟩⟩
  |row mt U k n x=>
   cases mt with
   |false=>cases hn0
   |true=>
    rcases hsr with⟨q1,q2⟩|⟨b,c,q1,q2,q3,q4,q5⟩
    ·exact .inl ⟨hρi.trans q1,q2⟩
    ·exact .inr ⟨b,c,hρi.trans q1,q2,q3,own b q1 q4,λj hj=>⟨pD.ev (E:=E') (E':={E' with S:=E2.S}) ⟨λ_ h=> .inl h,λ_ _=>rfl,λ_ _=>rfl,λ_ c _ h=>⟨c,h,rfl⟩⟩ (q5 j hj).1,(q5 j hj).2⟩⟩
  |mp mt kt' m=>
   cases mt with
   |false=>cases hn0
   |true=>
    obtain⟨b,es',c,q1,q2,q3,q4⟩:=hsr
    exact⟨b,es',c,hρi.trans q1,q2,own b q1 q3,q4⟩
  |it=>cases hn0
  |me=>cases hn0
 ·have hex:∀i,(mSt [y.sh K (.mp kt bm)] (ms1.map (Res.sh K (.mp kt bm)))).hp i≠none->i<K/\(mSt [y] (ms1++[.mp true kt bm])).hp i≠none:=λi hi=>by
   rw[hp0,e0j]at hi
   cases hc:ms1[i]? with
   |none=>rw[hc]at hi;exact absurd rfl hi
   |some r=>
    obtain⟨h1,h2⟩:=hi0 i r hc
    exact⟨h1,by rw[h2];simp⟩
  obtain⟨h1,h2⟩:=hex i hi
  obtain⟨h3,h4'⟩:=hex j hj
  rw[hρ i (by omega)]at h4;rw[hρ j (by omega)]at h5
  exact hs.dist i j b h2 h4' h4 h5
 ·by_cases e:i=K
  ·exact e0c e
  ·rw[hρ i e];exact hs.fr i (by have hi:K<=i:=hi;show K+1<=i;omega)
 ·rcases hb with hb|rfl
  ·exact hs.sup b hb
  ·exact .inr ⟨hown'.2,(d9w.1 hh).1⟩
 ·have hik:i<ms.length:=e3z λe=>hi (hs0.fr i (Nat.le_of_not_lt e))
  exact(hρ i (by omega)).trans (hs.r0 i hi)
end Go.Px
end
