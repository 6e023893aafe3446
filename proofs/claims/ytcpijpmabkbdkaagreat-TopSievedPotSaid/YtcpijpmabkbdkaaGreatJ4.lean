/- Texts of this proof, joined. No statement of the seat is proved here. -/
import Derived.Test.YtcpijpmabkbdkaaGreatRows
import Derived.Test.YtcpijpmabkbdkaaGreatJ2
import Derived.Test.YtcpijpmabkbdkaaGreatJ3
import Derived.Lib.SliceRun
import Derived.Lib.AppendZerosOnto
import Derived.Maps.RangeRun
set_option linter.unusedVariables false
set_option linter.unusedSimpArgs false
set_option maxRecDepth 100000
set_option maxHeartbeats 64000000
noncomputable section
namespace Go.Px.Tryz
open Go Go.Proofs Go.Px
theorem bQ.nil (P:Program):bQ P (λ_=>none):=λ_ _ h=>by cases h
theorem bQ.cons {P:Program}{t:Nat}{ti:TI}{f:Nat->Option TI}(h:TOk P ti t)(hl:bQ P f):bQ P (λj=>bif Nat.beq t j then some ti else f j):=by
 intro t' ti' ht
 simp only at ht
 cases hb:Nat.beq t t' with
 |true=>rw[hb]at ht;obtain rfl:=d9s hb;cases ht;exact h
 |false=>rw[hb]at ht;exact hl t' ti' ht
theorem aV {P:Program}{t:Nat}{i:TypeInfo}(h:P.types[t]?=some i):P.info? t=some i:=by
 unfold Tables.info?
 rw[e0c (d9w.1 h).1];exact h
theorem bT {cs:Array Value}(h:(cs.toList.all Value.oneCell')=true):∀u∈cs,u.oneCell'=true:=λu hu=>e1d.1 h u (e1p.2 hu)
def ti3:TI:=⟨TypeDesc.int IntKind.i64,Value.int IntKind.i64 0,1,8,none,none⟩
def d7o:TI:=⟨TypeDesc.slice 3,Value.slice none 0 0,1,24,none,none⟩
def d7k:TI:=⟨TypeDesc.slice 35,Value.slice none 0 0,1,24,none,none⟩
def d7m:TI:=⟨TypeDesc.struct #[{name:= "Rows",type:=22,offset:=0,embedded:=false,tag:= "",pkgPath:= "",byteOffset:=0},{name:= "Columns",type:=22,offset:=1,embedded:=false,tag:= "",pkgPath:= "",byteOffset:=24},{name:= "Cells",type:=23,offset:=2,embedded:=false,tag:= "",pkgPath:= "",byteOffset:=48}],Value.agg #[Value.slice none 0 0,Value.slice none 0 0,Value.slice none 0 0],3,72,none,none⟩
def d7q:TI:=⟨TypeDesc.struct #[{name:= "Lo",type:=2,offset:=0,embedded:=false,tag:= "",pkgPath:= "",byteOffset:=0},{name:= "Hi",type:=2,offset:=1,embedded:=false,tag:= "",pkgPath:= "",byteOffset:=8}],Value.agg #[Value.int IntKind.i64 0,Value.int IntKind.i64 0],2,16,none,none⟩
def a9l:TI:=⟨TypeDesc.struct #[{name:= "from",type:=3,offset:=0,embedded:=false,tag:= "",pkgPath:= "senvy/sieve",byteOffset:=0},{name:= "to",type:=3,offset:=1,embedded:=false,tag:= "",pkgPath:= "senvy/sieve",byteOffset:=8}],Value.agg #[Value.int IntKind.i64 0,Value.int IntKind.i64 0],2,16,none,none⟩
def ti2:TI:=⟨TypeDesc.int IntKind.i64,Value.int IntKind.i64 0,1,8,none,none⟩
def d7p:TI:=⟨TypeDesc.struct #[{name:= "Pots",type:=3,offset:=0,embedded:=false,tag:= "",pkgPath:= "",byteOffset:=0},{name:= "Lots",type:=22,offset:=1,embedded:=false,tag:= "",pkgPath:= "",byteOffset:=8},{name:= "Weak",type:=29,offset:=2,embedded:=false,tag:= "",pkgPath:= "",byteOffset:=32}],Value.agg #[Value.int IntKind.i64 0,Value.slice none 0 0,Value.slice none 0 0],3,56,none,none⟩
def d7y:TI:=⟨TypeDesc.map 48 2,Value.map none,1,8,none,some ⟨true,2,false⟩⟩
def ti4:TI:=⟨TypeDesc.bool,Value.bool false,1,1,none,none⟩
def d7r:TI:=⟨TypeDesc.pointer 77,Value.pointer none,1,8,none,none⟩
def d7w:TI:=⟨TypeDesc.array 10 3,Value.agg #[Value.int IntKind.i64 0,Value.int IntKind.i64 0,Value.int IntKind.i64 0,Value.int IntKind.i64 0,Value.int IntKind.i64 0,Value.int IntKind.i64 0,Value.int IntKind.i64 0,Value.int IntKind.i64 0,Value.int IntKind.i64 0,Value.int IntKind.i64 0],10,80,none,none⟩
def d7l:TI:=⟨TypeDesc.slice 22,Value.slice none 0 0,1,24,none,none⟩
def d7z:TI:=⟨TypeDesc.struct #[{name:= "SieveTable",type:=25,offset:=0,embedded:=true,tag:= "",pkgPath:= "",byteOffset:=0},{name:= "bounds",type:=74,offset:=3,embedded:=false,tag:= "",pkgPath:= "senvy/sieve",byteOffset:=72},{name:= "flow",type:=75,offset:=4,embedded:=false,tag:= "",pkgPath:= "senvy/sieve",byteOffset:=80}],Value.agg #[Value.slice none 0 0,Value.slice none 0 0,Value.slice none 0 0,Value.map none,Value.map none],5,88,none,none⟩
def d7t:TI:=⟨TypeDesc.pointer 84,Value.pointer none,1,8,none,none⟩
def d7v:TI:=⟨TypeDesc.array 13 3,Value.agg #[Value.int IntKind.i64 0,Value.int IntKind.i64 0,Value.int IntKind.i64 0,Value.int IntKind.i64 0,Value.int IntKind.i64 0,Value.int IntKind.i64 0,Value.int IntKind.i64 0,Value.int IntKind.i64 0,Value.int IntKind.i64 0,Value.int IntKind.i64 0,Value.int IntKind.i64 0,Value.int IntKind.i64 0,Value.int IntKind.i64 0],13,104,some 13,none⟩
def d7x:TI:=⟨TypeDesc.map 48 35,Value.map none,1,8,none,some ⟨true,2,true⟩⟩
def d7u:TI:=⟨TypeDesc.array 10 3,Value.agg #[Value.int IntKind.i64 0,Value.int IntKind.i64 0,Value.int IntKind.i64 0,Value.int IntKind.i64 0,Value.int IntKind.i64 0,Value.int IntKind.i64 0,Value.int IntKind.i64 0,Value.int IntKind.i64 0,Value.int IntKind.i64 0,Value.int IntKind.i64 0],10,80,none,none⟩
def d8a:TI:=⟨TypeDesc.slice 2,Value.slice none 0 0,1,24,none,none⟩
def d7n:TI:=⟨TypeDesc.int IntKind.i64,Value.int IntKind.i64 0,1,8,none,none⟩
def d8c:TI:=⟨TypeDesc.struct #[{name:= "PotRow",type:=33,offset:=0,embedded:=true,tag:= "",pkgPath:= "",byteOffset:=0}],Value.agg #[Value.int IntKind.i64 0,Value.slice none 0 0,Value.slice none 0 0],3,56,none,none⟩
def d0l:TI:=⟨TypeDesc.func #[35] #[4] false,Value.nilFunc,1,8,none,none⟩
def d0k:TI:=⟨TypeDesc.slice 48,Value.slice none 0 0,1,24,none,none⟩
def d0j:TI:=⟨TypeDesc.func #[3] #[4] false,Value.nilFunc,1,8,none,none⟩
def d7s:TI:=⟨TypeDesc.func #[3] #[3] false,Value.nilFunc,1,8,none,none⟩
def d0n:TI:=⟨TypeDesc.func #[2] #[4] false,Value.nilFunc,1,8,none,none⟩
def d0m:TI:=⟨TypeDesc.func #[22] #[4] false,Value.nilFunc,1,8,none,none⟩
def d8d:TI:=⟨TypeDesc.func #[107] #[] false,Value.nilFunc,1,8,none,none⟩
def ti5:TI:=⟨TypeDesc.int IntKind.u8,Value.int IntKind.u8 0,1,1,none,none⟩
def d8b:TI:=⟨TypeDesc.func #[2,2] #[4] false,Value.nilFunc,1,8,none,none⟩
theorem d9h:TOk Tryz.prog ti3 3:=⟨Tryz.underlying3,by rw[aV Tryz.type3];rfl,rfl,bT rfl,λ_=>⟨rfl,rfl⟩,nofun,nofun⟩
theorem d5m:TOk Tryz.prog d7o 29:=⟨Tryz.underlying29,by rw[aV Tryz.type29];rfl,rfl,bT rfl,λ_=>⟨rfl,rfl⟩,nofun,nofun⟩
theorem d5i:TOk Tryz.prog d7k 22:=⟨Tryz.underlying22,by rw[aV Tryz.type22];rfl,rfl,bT rfl,λ_=>⟨rfl,rfl⟩,nofun,nofun⟩
theorem d5k:TOk Tryz.prog d7m 25:=⟨Tryz.underlying25,by rw[aV Tryz.type25];rfl,rfl,bT rfl,nofun,nofun,nofun⟩
theorem tok35:TOk Tryz.prog d7q 35:=⟨Tryz.underlying35,by rw[aV Tryz.type35];rfl,rfl,bT rfl,nofun,nofun,nofun⟩
theorem b9t:TOk Tryz.prog a9l 48:=⟨Tryz.underlying48,by rw[aV Tryz.type48];rfl,rfl,bT rfl,nofun,nofun,nofun⟩
theorem d9g:TOk Tryz.prog ti2 2:=⟨Tryz.underlying2,by rw[aV Tryz.type2];rfl,rfl,bT rfl,λ_=>⟨rfl,rfl⟩,nofun,nofun⟩
theorem d5n:TOk Tryz.prog d7p 33:=⟨Tryz.underlying33,by rw[aV Tryz.type33];rfl,rfl,bT rfl,nofun,nofun,nofun⟩
theorem d5v:TOk Tryz.prog d7y 75:=⟨Tryz.underlying75,by rw[aV Tryz.type75];rfl,rfl,bT rfl,λ_=>⟨rfl,rfl⟩,nofun,λ_ h=>by cases h;exact d8s Tryz.underlying75 (keyOk_struct Tryz.underlying48 Tryz.stoodInHeld48 Tryz.eqGuardType48 ⟨by decide,rfl,Tryz.underlying3,by decide,rfl,Tryz.underlying3,trivial⟩) λw=>Tryz.zeroValue2 w⟩
theorem d9i:TOk Tryz.prog ti4 4:=⟨Tryz.underlying4,by rw[aV Tryz.type4];rfl,rfl,bT rfl,λ_=>⟨rfl,rfl⟩,nofun,nofun⟩
theorem d5o:TOk Tryz.prog d7r 42:=⟨Tryz.underlying42,by rw[aV Tryz.type42];rfl,rfl,bT rfl,λ_=>⟨rfl,rfl⟩,nofun,nofun⟩
theorem d5t:TOk Tryz.prog d7w 70:=⟨Tryz.underlying70,by rw[aV Tryz.type70];rfl,rfl,bT rfl,nofun,nofun,nofun⟩
theorem d5j:TOk Tryz.prog d7l 23:=⟨Tryz.underlying23,by rw[aV Tryz.type23];rfl,rfl,bT rfl,λ_=>⟨rfl,rfl⟩,nofun,nofun⟩
theorem d5w:TOk Tryz.prog d7z 77:=⟨Tryz.underlying77,by rw[aV Tryz.type77];rfl,rfl,bT rfl,nofun,nofun,nofun⟩
theorem d5q:TOk Tryz.prog d7t 49:=⟨Tryz.underlying49,by rw[aV Tryz.type49];rfl,rfl,bT rfl,λ_=>⟨rfl,rfl⟩,nofun,nofun⟩
theorem d5s:TOk Tryz.prog d7v 59:=⟨Tryz.underlying59,by rw[aV Tryz.type59];rfl,rfl,bT rfl,nofun,λ_ h=>by cases h;exact eqT_array Tryz.underlying59 Tryz.eqGuardType59 Tryz.underlying3 (aV Tryz.type3) rfl,nofun⟩
theorem d5u:TOk Tryz.prog d7x 74:=⟨Tryz.underlying74,by rw[aV Tryz.type74];rfl,rfl,bT rfl,λ_=>⟨rfl,rfl⟩,nofun,λ_ h=>by cases h;exact d3t Tryz.underlying74 (keyOk_struct Tryz.underlying48 Tryz.stoodInHeld48 Tryz.eqGuardType48 ⟨by decide,rfl,Tryz.underlying3,by decide,rfl,Tryz.underlying3,trivial⟩) λw=>Tryz.zeroValue35 w⟩
theorem d5r:TOk Tryz.prog d7u 53:=⟨Tryz.underlying53,by rw[aV Tryz.type53];rfl,rfl,bT rfl,nofun,nofun,nofun⟩
theorem d5x:TOk Tryz.prog d8a 81:=⟨Tryz.underlying81,by rw[aV Tryz.type81];rfl,rfl,bT rfl,λ_=>⟨rfl,rfl⟩,nofun,nofun⟩
theorem d5l:TOk Tryz.prog d7n 26:=⟨Tryz.underlying26,by rw[aV Tryz.type26];rfl,rfl,bT rfl,λ_=>⟨rfl,rfl⟩,nofun,nofun⟩
theorem d5z:TOk Tryz.prog d8c 84:=⟨Tryz.underlying84,by rw[aV Tryz.type84];rfl,rfl,bT rfl,nofun,nofun,nofun⟩
theorem d0q:TOk Tryz.prog d0l 128:=⟨Tryz.underlying128,by rw[aV Tryz.type128];rfl,rfl,bT rfl,λ_=>⟨rfl,rfl⟩,nofun,nofun⟩
theorem d0p:TOk Tryz.prog d0k 125:=⟨Tryz.underlying125,by rw[aV Tryz.type125];rfl,rfl,bT rfl,λ_=>⟨rfl,rfl⟩,nofun,nofun⟩
theorem d0o:TOk Tryz.prog d0j 107:=⟨Tryz.underlying107,by rw[aV Tryz.type107];rfl,rfl,bT rfl,λ_=>⟨rfl,rfl⟩,nofun,nofun⟩
theorem d5p:TOk Tryz.prog d7s 46:=⟨Tryz.underlying46,by rw[aV Tryz.type46];rfl,rfl,bT rfl,λ_=>⟨rfl,rfl⟩,nofun,nofun⟩
theorem d0s:TOk Tryz.prog d0n 244:=⟨Tryz.underlying244,by rw[aV Tryz.type244];rfl,rfl,bT rfl,λ_=>⟨rfl,rfl⟩,nofun,nofun⟩
theorem d0r:TOk Tryz.prog d0m 189:=⟨Tryz.underlying189,by rw[aV Tryz.type189];rfl,rfl,bT rfl,λ_=>⟨rfl,rfl⟩,nofun,nofun⟩
theorem d6a:TOk Tryz.prog d8d 89:=⟨Tryz.underlying89,by rw[aV Tryz.type89];rfl,rfl,bT rfl,λ_=>⟨rfl,rfl⟩,nofun,nofun⟩
theorem d9j:TOk Tryz.prog ti5 5:=⟨Tryz.underlying5,by rw[aV Tryz.type5];rfl,rfl,bT rfl,λ_=>⟨rfl,rfl⟩,nofun,nofun⟩
theorem d5y:TOk Tryz.prog d8b 82:=⟨Tryz.underlying82,by rw[aV Tryz.type82];rfl,rfl,bT rfl,λ_=>⟨rfl,rfl⟩,nofun,nofun⟩
def T (j:Nat):Option TI:=
  bif Nat.beq 3 j then some ti3 else
  bif Nat.beq 29 j then some d7o else
  bif Nat.beq 22 j then some d7k else
  bif Nat.beq 25 j then some d7m else
  bif Nat.beq 35 j then some d7q else
  bif Nat.beq 48 j then some a9l else
  bif Nat.beq 2 j then some ti2 else
  bif Nat.beq 33 j then some d7p else
  bif Nat.beq 75 j then some d7y else
  bif Nat.beq 4 j then some ti4 else
  bif Nat.beq 42 j then some d7r else
  bif Nat.beq 70 j then some d7w else
  bif Nat.beq 23 j then some d7l else
  bif Nat.beq 77 j then some d7z else
  bif Nat.beq 49 j then some d7t else
  bif Nat.beq 59 j then some d7v else
  bif Nat.beq 74 j then some d7x else
  bif Nat.beq 53 j then some d7u else
  bif Nat.beq 81 j then some d8a else
  bif Nat.beq 26 j then some d7n else
  bif Nat.beq 84 j then some d8c else
  bif Nat.beq 128 j then some d0l else
  bif Nat.beq 125 j then some d0k else
  bif Nat.beq 107 j then some d0j else
  bif Nat.beq 46 j then some d7s else
  bif Nat.beq 244 j then some d0n else
  bif Nat.beq 189 j then some d0m else
  bif Nat.beq 89 j then some d8d else
  bif Nat.beq 5 j then some ti5 else
  bif Nat.beq 82 j then some d8b else
  none
theorem tys:bQ Tryz.prog T:=bQ.cons d9h (bQ.cons d5m (bQ.cons d5i (bQ.cons d5k (bQ.cons tok35 (bQ.cons b9t (bQ.cons d9g (bQ.cons d5n (bQ.cons d5v (bQ.cons d9i (bQ.cons d5o (bQ.cons d5t (bQ.cons d5j (bQ.cons d5w (bQ.cons d5q (bQ.cons d5s (bQ.cons d5u (bQ.cons d5r (bQ.cons d5x (bQ.cons d5l (bQ.cons d5z (bQ.cons d0q (bQ.cons d0p (bQ.cons d0o (bQ.cons d5p (bQ.cons d0s (bQ.cons d0r (bQ.cons d6a (bQ.cons d9j (bQ.cons d5y (bQ.nil _))))))))))))))))))))))))))))))
theorem hM:Tryz.prog.follows .mixedOrders=true:=Checked.mixed Tryz.checked
theorem aE {α:Type}{l:List α}{i:Nat}(h:i<l.length)(d:α):l.getD i d∈l:=by
 rw[d9r,e0e h];exact e5s h
theorem b8h {α:Type}{l:List α}{x:α}{d:α}(h:x∈l):∃j,j<l.length/\l.getD j d=x:=by
 obtain⟨j,hj,rfl⟩:=e3w h
 exact⟨j,hj,by rw[d9r,e0e hj];rfl⟩
theorem bP {α:Type}(l:List α)(i:Nat)(d:α)(h:i<l.length):l.take (i+1)=l.take i++[l.getD i d]:=by
 rw[List.take_add_one,d9r,e0e h];rfl
def xQ (b:Nat->Nat)(k v:Nat):Nat->Nat:=λj=>if j=k then v else b j
def nX (c:Nat->Nat->Int)(N a:Nat):List Nat:=(List.range N).filter λt=>decide (0<c a t)
theorem wO {c:Nat->Nat->Int}{N a t:Nat}:t∈nX c N a↔t<N/\0<c a t:=by
 unfold nX
 rw[e6v,e1e,e2a]
def pG (a:Nat)(s:(Nat->Nat)×List Nat)(t:Nat):(Nat->Nat)×List Nat:=if s.1 t=0 then(xQ s.1 t (a+1),s.2++[t])else s
def eG (a:Nat)(L:List Nat)(s:(Nat->Nat)×List Nat):(Nat->Nat)×List Nat:=L.foldl (pG a) s
theorem b0d (a:Nat)(L:List Nat)(t:Nat)(s:(Nat->Nat)×List Nat):eG a (L++[t]) s=pG a (eG a L s) t:=by
 unfold eG
 rw[e4v];rfl
def b6q (c:Nat->Nat->Int)(N:Nat):Nat->(Nat->Nat)×List Nat->(Nat->Nat)
  |0,s=>s.1
  |f+1,s=>match s.2 with
    |[]=>s.1
    |a::q=>b6q c N f (eG a (nX c N a) (s.1,q))
def fW (src:List Nat):Nat->Nat:=λx=>if x∈src then x+1 else 0
def a9m (c:Nat->Nat->Int)(N:Nat)(src:List Nat):Nat->Nat:=b6q c N (2*N+src.length) (fW src,src)
def uns (b:Nat->Nat):Nat->Nat
  |0=>0
  |n+1=>uns b n+if b n=0 then 1 else 0
theorem xI {b:Nat->Nat}{k v:Nat}(hb:b k=0)(hv:v≠0):∀{n:Nat},uns (xQ b k v) n+(if k<n then 1 else 0)=uns b n
 |0=>by simp[uns]
 |n+1=>by
  have ih:=xI (n:=n) hb hv
  rw[uns,uns]
  by_cases e:k=n
  ·subst e
   rw[d9z (by omega)]at ih
   have:xQ b k v k=v:=e0c rfl
   rw[this,d9z hv,e0c (by omega),e0c hb]
   omega
  ·have:xQ b k v n=b n:=d9z (λh=>e h.symm)
   rw[this]
   by_cases hl:k<n
   ·rw[e0c hl]at ih;rw[e0c (show k<n+1 by omega)];omega
   ·rw[d9z hl]at ih;rw[d9z (show¬k<n+1 by omega)];omega
theorem a6v (b:Nat->Nat):∀n,uns b n<=n
 |0=>by simp[uns]
 |n+1=>by
  have:=a6v b n
  rw[uns]
  split<;>omega
structure BI (c:Nat->Nat->Int)(N:Nat)(src:List Nat)(b:Nat->Nat)(q:List Nat)(pd:Nat->Nat->Prop):Prop where
  tree:∃(r:Nat->Nat) (cnt:Nat),cnt+uns b N<=N+1/\∀x,b x≠0->x<N/\r x<cnt/\b x<=N/\((b x=x+1/\x∈src)\/(b x≠x+1/\b (b x-1)≠0/\b x-1<N/\0<c (b x-1) x/\r (b x-1)<r x))
  from_:∀x∈src,b x=x+1
  que:∀x∈q,b x≠0/\x<N
  cl:∀x v,b x≠0->x∉q->¬pd x v->v<N->0<c x v->b v≠0
theorem BI.start {c:Nat->Nat->Int}{N:Nat}{src:List Nat}(h:∀x∈src,x<N):BI c N src (fW src) src λ_ _=>False:=by
 have hs:∀x,fW src x≠0->x∈src:=λx hx=>e3z λe=>hx (d9z e)
 have hv:∀x,x∈src->fW src x=x+1:=λx hx=>e0c hx
 refine⟨⟨λ_=>0,1,by have:=a6v (fW src) N;omega,λx hx=>?_⟩,λx hx=>hv x hx,λx hx=>⟨by rw[hv x hx];omega,h x hx⟩,λx v hx hq=>absurd (hs x hx) hq⟩
 have:=h x (hs x hx)
 exact⟨this,Nat.zero_lt_one,by rw[hv x (hs x hx)];omega,.inl ⟨hv x (hs x hx),hs x hx⟩⟩
theorem BI.pop {c:Nat->Nat->Int}{N:Nat}{src:List Nat}{b:Nat->Nat}{a:Nat}{q:List Nat}(h:BI c N src b (a::q) λ_ _=>False):BI c N src b q λx _=>x=a:=by
 refine⟨h.tree,h.from_,λx hx=>h.que x (d9v _ hx),λx v hx hq hp hvN hc=>?_⟩
 exact h.cl x v hx (λhm=>(e0b.1 hm).elim hp hq) (λh=>h) hvN hc
theorem BI.weak {c:Nat->Nat->Int}{N:Nat}{src:List Nat}{b:Nat->Nat}{q:List Nat}{pd pd':Nat->Nat->Prop}(h:BI c N src b q pd)(hp:∀x v,v<N->0<c x v->¬pd' x v->pd x v->b v≠0):BI c N src b q pd':=
 ⟨h.tree,h.from_,h.que,λx v hx hq hn hvN hc=>e3z λhb=>by
  by_cases e:pd x v
  ·exact hb (hp x v hvN hc hn e)
  ·exact hb (h.cl x v hx hq e hvN hc)⟩
theorem BI.push {c:Nat->Nat->Int}{N:Nat}{src:List Nat}{b:Nat->Nat}{a t:Nat}{q:List Nat}{pd:Nat->Nat->Prop}(h:BI c N src b q pd)(ha:b a≠0)(hat:a≠t)(hk:t<N)(hb:b t=0)(hc:0<c a t):
  BI c N src (xQ b t (a+1)) (q++[t]) pd:=by
 have hat':xQ b t (a+1) t=a+1:=e0c rfl
 have hoth:∀x,x≠t->xQ b t (a+1) x=b x:=λx e=>d9z e
 have hne:∀x,b x≠0->x≠t:=λx hx e=>hx (e▸hb)
 have hgr:∀x,b x≠0->xQ b t (a+1) x≠0:=λx hx=>by rw[hoth x (hne x hx)];exact hx
 refine⟨?_,λx hx=>?_,λx hx=>?_,λx v hx hq hp hvN hcv=>?_⟩
 ·obtain⟨r,cnt,hcnt,hr⟩:=h.tree
  have hu:=xI (b:=b) (k:=t) (v:=a+1) hb (by omega) (n:=N)
  rw[e0c hk]at hu
  refine⟨λx=>if x=t then cnt else r x,cnt+1,by omega,λx hx=>?_⟩
  by_cases e:x=t
  ·subst e
   rw[hat']
   simp only[Nat.add_sub_cancel,e4b]
   have haN:=(hr a ha).1
   refine⟨hk,by omega,by omega,.inr ⟨by omega,hgr a ha,haN,hc,?_⟩⟩
   rw[d9z hat]
   exact(hr a ha).2.1
  ·rw[hoth x e]at hx⊢
   obtain⟨q1,q2,q3,q4⟩:=hr x hx
   simp only[d9z e]
   refine⟨q1,by omega,q3,?_⟩
   rcases q4 with q4|⟨q4,q5,q6,q7,q8⟩
   ·exact .inl q4
   ·refine .inr ⟨q4,hgr _ q5,q6,q7,?_⟩
    rw[d9z (hne _ q5)];exact q8
 ·have:=h.from_ x hx
  rw[hoth x (hne x (by omega))];exact this
 ·rcases e0x.1 hx with hx|hx
  ·exact⟨hgr x (h.que x hx).1,(h.que x hx).2⟩
  ·rw[e1k.1 hx]
   exact⟨by rw[hat'];omega,hk⟩
 ·by_cases e:v=t
  ·rw[e,hat'];omega
  ·have hxk:x≠t:=λe2=>hq (by rw[e2];exact e0n _ (e1k.2 rfl))
   rw[hoth x hxk]at hx
   rw[hoth v e]
   exact h.cl x v hx (λhm=>hq (e0p _ hm)) hp hvN hcv
theorem a1o {c:Nat->Nat->Int}{N:Nat}{src:List Nat}{a:Nat}(hself:c a a<=0):∀(L:List Nat) (D:List Nat) (s:(Nat->Nat)×List Nat),(∀t∈L,t<N/\0<c a t)->s.1 a≠0->BI c N src s.1 s.2 (λx v=>x=a/\v∉D)->
  BI c N src (eG a L s).1 (eG a L s).2 (λx v=>x=a/\v∉D++L)/\(eG a L s).1 a≠0/\2*uns (eG a L s).1 N+(eG a L s).2.length<=2*uns s.1 N+s.2.length
 |[],D,s,_,ha,h=>⟨by rw[e7o];exact h,ha,e0g _⟩
 |t::L,D,s,hL,ha,h=>by
  obtain⟨htN,hct⟩:=hL t (d9y ..)
  have hat:a≠t:=λe=>by rw[<-e]at hct;omega
  have hD:D++t::L=(D++[t])++L:=by simp
  show BI c N src (eG a L (pG a s t)).1 (eG a L (pG a s t)).2 _/\(eG a L (pG a s t)).1 a≠0/\2*uns (eG a L (pG a s t)).1 N+(eG a L (pG a s t)).2.length<=_
  rw[hD]
  by_cases hb:s.1 t=0
  ·have e:pG a s t=(xQ s.1 t (a+1),s.2++[t]):=e0c hb
   rw[e]
   have h1:=h.push ha hat htN hb hct
   have hu:=xI (b:=s.1) (k:=t) (v:=a+1) hb (by omega) (n:=N)
   rw[e0c htN]at hu
   obtain⟨k1,k2,k3⟩:=a1o hself L (D++[t]) (xQ s.1 t (a+1),s.2++[t]) (λx hx=>hL x (d9v _ hx)) (by show xQ s.1 t (a+1) a≠0;unfold xQ;rw[d9z hat];exact ha) (h1.weak λx v _ _ hn ⟨e1,e2⟩=>by
    by_cases e3:v=t
    ·subst e3;show xQ s.1 v (a+1) v≠0;unfold xQ;rw[e0c rfl];omega
    ·exact absurd ⟨e1,λhm=>(e0x.1 hm).elim e2 λh=>e3 (e1k.1 h)⟩ hn)
   refine⟨k1,k2,?_⟩
   simp only[e1f,e3n]at k3
   omega
  ·have e:pG a s t=s:=d9z hb
   rw[e]
   exact a1o hself L (D++[t]) s (λx hx=>hL x (d9v _ hx)) ha (h.weak λx v _ _ hn ⟨e1,e2⟩=>by
    by_cases e3:v=t
    ·subst e3;exact hb
    ·exact absurd ⟨e1,λhm=>(e0x.1 hm).elim e2 λh=>e3 (e1k.1 h)⟩ hn)
theorem xU {c:Nat->Nat->Int}{N:Nat}{src:List Nat}{a:Nat}(hself:c a a<=0){b:Nat->Nat}{q:List Nat}(h:BI c N src b (a::q) λ_ _=>False):
  BI c N src (eG a (nX c N a) (b,q)).1 (eG a (nX c N a) (b,q)).2 (λ_ _=>False)/\2*uns (eG a (nX c N a) (b,q)).1 N+(eG a (nX c N a) (b,q)).2.length<=2*uns b N+q.length:=by
 obtain⟨h1,_,h3⟩:=a1o hself (nX c N a) [] (b,q) (λt ht=>wO.1 ht) (h.que a (d9y ..)).1 (h.pop.weak λx v _ _ hn e=>absurd ⟨e,by simp⟩ hn)
 exact⟨h1.weak λx v hv hc _ ⟨e1,e2⟩=>absurd (wO.2 ⟨hv,e1▸hc⟩) (by simpa using e2),h3⟩
theorem b0h {c:Nat->Nat->Int}{N:Nat}{src:List Nat}(hself:∀a,c a a<=0):∀(f:Nat) (s:(Nat->Nat)×List Nat),2*uns s.1 N+s.2.length<=f->BI c N src s.1 s.2 (λ_ _=>False)->BI c N src (b6q c N f s) [] λ_ _=>False
 |0,(b,q),hf,h=>by
  have:q=[]:=e3e.1 (by simp only at hf;omega)
  subst this;exact h
 |f+1,(b,q),hf,h=>by
  rw[b6q]
  cases q with
  |nil=>exact h
  |cons a q=>
   obtain⟨h1,h3⟩:=xU (hself a) h
   show BI c N src (b6q c N f (eG a (nX c N a) (b,q))) [] _
   refine b0h hself f _ ?_ h1
   simp only[e0r]at hf h3
   omega
theorem b5n {c:Nat->Nat->Int}{N:Nat}{src:List Nat}(hself:∀a,c a a<=0)(h:∀x∈src,x<N):BI c N src (a9m c N src) [] λ_ _=>False:=
 b0h hself _ _ (by show 2*uns (fW src) N+src.length<=_;have:=a6v (fW src) N;omega) (BI.start h)
open Classical in
def fM (p:Int->Int->Prop)(g:Int->Int->Int):List Int->Option Int:=λk=>match k with
  |[u,v]=>if p u v then some (g u v)else none
  |_=>none
theorem gD {p:Int->Int->Prop}{g:Int->Int->Int}{u v:Int}(h:p u v):fM p g [u,v]=some (g u v):=by unfold fM;simp only;rw[e0c h]
theorem b7m {p:Int->Int->Prop}{g:Int->Int->Int}{u v:Int}(h:¬p u v):fM p g [u,v]=none:=by unfold fM;simp only;rw[d9z h]
theorem a2d {p:Int->Int->Prop}{g:Int->Int->Int}{k:List Int}{x:Int}(h:fM p g k=some x):∃u v,k=[u,v]/\p u v/\x=g u v:=by
 unfold fM at h
 split at h
 ·rename_i u v
  split at h
  ·rename_i hp
   exact⟨u,v,rfl,hp,(e4p h).symm⟩
  ·cases h
 ·cases h
theorem mC {p q:Int->Int->Prop}{g g':Int->Int->Int}(h:∀u v,p u v↔q u v)(hg:∀u v,p u v->g u v=g' u v):eF (fM p g) (fM q g'):=λk=>by
 unfold fM
 split
 ·rename_i u v
  by_cases e:p u v
  ·rw[e0c e,e0c ((h u v).1 e),hg u v e]
  ·rw[d9z e,d9z λhq=>e ((h u v).2 hq)]
 ·rfl
theorem mD {p q:Int->Int->Prop}{g g':Int->Int->Int}{a b x:Int}(h:∀u v,q u v↔p u v\/(u=a/\v=b))(hx:x=g' a b)(hg:∀u v,¬(u=a/\v=b)->p u v->g u v=g' u v):eF (jV (fM p g) [a,b] x) (fM q g'):=λk=>by
 unfold jV
 by_cases e:k=[a,b]
 ·rw[e0c e,e,gD ((h a b).2 (.inr ⟨rfl,rfl⟩)),hx]
 ·rw[d9z e]
  unfold fM
  split
  ·rename_i u v
   have hne:¬(u=a/\v=b):=λ⟨h1,h2⟩=>e (by rw[h1,h2])
   by_cases hp:p u v
   ·rw[e0c hp,e0c ((h u v).2 (.inl hp)),hg u v hne hp]
   ·rw[d9z hp,d9z λhq=>((h u v).1 hq).elim hp hne]
  ·rfl
theorem b1h {q:Int->Int->Prop}{g:Int->Int->Int}(h:∀u v,¬q u v):eF (λ_=>none) (fM q g):=λk=>by
 unfold fM
 split
 ·rw[d9z (h _ _)]
 ·rfl
def rgD (r:Int×Int):DV:= .ag 2 λj=>match j with|0=>int r.1|_=>int r.2
def rgs (l:List (Int×Int)):DV:=fQ 2 rgD (0,0) l
def zZ (l:List (List (Int×Int))):DV:=fQ 1 rgs [] l
def jA (R C:List (Int×Int))(Z:List (List (Int×Int))):DV:= .ag 3 λj=>match j with|0=>rgs R|1=>rgs C|_=>zZ Z
def pQ (x:Int)(r:Int×Int):Prop:=0<=r.1/\r.1<=r.2/\r.2<=x
structure TabOk (R C:List (Int×Int))(Z:List (List (Int×Int))):Prop where
  r0:1<=R.length
  r1:R.length<=4
  c0:1<=C.length
  c1:C.length<=4
  z0:Z.length=R.length
  z1:∀l∈Z,l.length=C.length
  rr:∀r∈R,pQ 48 r
  cc:∀r∈C,pQ 48 r
  zz:∀l∈Z,∀r∈l,pQ 12 r
def tE (n m:Int)(u v:Int):Prop:=(u=1/\v=0)\/(u=0/\2<=v/\v<2+n)\/(2<=u/\u<2+n/\2+n<=v/\v<2+n+m)\/(2+n<=u/\u<2+n+m/\v=1)
def tB (R C:List (Int×Int))(Z:List (List (Int×Int)))(u v:Int):Int×Int:=
  if u=1 then(0,192)else if u=0 then R.getD (v-2).toNat (0,0)else if u<2+R.length then(Z.getD (u-2).toNat []).getD (v-2-R.length).toNat (0,0)else C.getD (u-2-R.length).toNat (0,0)
def bM (p:Int->Int->Prop)(B:Int->Int->Int×Int):List Int->Option Int:=fM p λu v=>cod (B u v).1 (B u v).2
structure NetOk (N:Nat)(E:Int->Int->Prop)(B:Int->Int->Int×Int):Prop where
  n10:N<=10
  n2:2<=N
  lt:∀u v,E u v->0<=u/\u<N/\0<=v/\v<N
  anti:∀u v,E u v->¬E v u
  bd:∀u v,E u v->0<=(B u v).1/\(B u v).1<=(B u v).2/\(B u v).2<=192
def kV (E:Int->Int->Prop)(B:Int->Int->Int×Int)(g:Int->Int->Int):Prop:=∀u v,E u v->(B u v).1<=g u v/\g u v<=(B u v).2
open Classical in
def cF (E:Int->Int->Prop)(B:Int->Int->Int×Int)(g:Int->Int->Int)(u v:Int):Int:=if E u v then(B u v).2-g u v else if E v u then g v u-(B v u).1 else 0
theorem sK {R C:List (Int×Int)}{Z:List (List (Int×Int))}(h:TabOk R C Z):NetOk (2+R.length+C.length) (tE R.length C.length) (tB R C Z):=by
 have h1:=h.r1
 have h2:=h.c1
 refine⟨by omega,by omega,λu v hE=>?_,λu v hE hE'=>?_,λu v hE=>?_⟩
 ·unfold tE at hE;omega
 ·unfold tE at hE hE';omega
 ·unfold tB
  rcases hE with⟨rfl,rfl⟩|⟨rfl,h3,h4⟩|⟨h3,h4,h5,h6⟩|⟨h3,h4,rfl⟩
  ·simp
  ·rw[d9z (by omega),e0c rfl]
   have:=h.rr _ (aE (l:=R) (i:=(v-2).toNat) (by omega) (0,0))
   exact⟨this.1,this.2.1,by have:=this.2.2;omega⟩
  ·rw[d9z (by omega),d9z (by omega),e0c h4]
   have hz:=h.z0
   have hm:Z.getD (u-2).toNat []∈Z:=aE (by omega) []
   have hl:=h.z1 _ hm
   have:=h.zz _ hm _ (aE (l:=Z.getD (u-2).toNat []) (i:=(v-2-R.length).toNat) (by omega) (0,0))
   exact⟨this.1,this.2.1,by have:=this.2.2;omega⟩
  ·rw[d9z (by omega),d9z (by omega),d9z (by omega)]
   have:=h.cc _ (aE (l:=C) (i:=(u-2-R.length).toNat) (by omega) (0,0))
   exact⟨this.1,this.2.1,by have:=this.2.2;omega⟩
theorem vK {N:Nat}{E:Int->Int->Prop}{B:Int->Int->Int×Int}(h:NetOk N E B)(g:Int->Int->Int)(u:Int):cF E B g u u=0:=by
 have:¬E u u:=λe=>h.anti u u e e
 unfold cF
 rw[d9z this,d9z this]
theorem qP {N:Nat}{E:Int->Int->Prop}{B:Int->Int->Int×Int}(h:NetOk N E B){g:Int->Int->Int}{u v:Int}(hc:0<cF E B g u v):(E u v\/E v u)/\0<=u/\u<N/\0<=v/\v<N:=by
 unfold cF at hc
 split at hc
 ·rename_i he;exact⟨.inl he,h.lt u v he⟩
 ·split at hc
  ·rename_i he
   have:=h.lt v u he
   exact⟨.inr he,this.2.2.1,this.2.2.2,this.1,this.2.1⟩
  ·omega
theorem c2j {N:Nat}{E:Int->Int->Prop}{B:Int->Int->Int×Int}(h:NetOk N E B){g:Int->Int->Int}(hg:kV E B g)(u v:Int):0<=cF E B g u v/\cF E B g u v<=192:=by
 unfold cF
 split
 ·rename_i he;have:=h.bd u v he;have:=hg u v he;omega
 ·split
  ·rename_i he;have:=h.bd v u he;have:=hg v u he;omega
  ·omega
def d3w (R C:List (Int×Int))(Z:List (List (Int×Int)))(bm fm:List Int->Option Int):DV:= .ag 5 λj=>match j with
  |0=>rgs R
  |1=>rgs C
  |2=>zZ Z
  |3=> .mp ⟨true,2,true⟩ bm
  |_=> .mp ⟨true,2,false⟩ fm
def d7a (R C:List (Int×Int))(Z:List (List (Int×Int)))(bm fm:List Int->Option Int):DV:= .pt (d3w R C Z bm fm) 0
def sm (f:Nat->Int):Nat->Int
  |0=>0
  |n+1=>sm f n+f n
theorem aS {f g:Nat->Int}:∀{n:Nat},(∀i,i<n->f i=g i)->sm f n=sm g n
 |0,_=>rfl
 |n+1,h=>by rw[sm,sm,aS λi hi=>h i (by omega),h n (by omega)]
theorem a0h (f g:Nat->Int):∀n,sm (λi=>f i+g i) n=sm f n+sm g n
 |0=>rfl
 |n+1=>by rw[sm,sm,sm,a0h f g n];omega
theorem iU:∀n,sm (λ_=>0) n=0
 |0=>rfl
 |n+1=>by rw[sm,iU n];rfl
theorem a0i {f g:Nat->Int}:∀{n:Nat},(∀i,i<n->f i<=g i)->sm f n<=sm g n
 |0,_=>e4u _
 |n+1,h=>by
  rw[sm,sm]
  have:=a0i (n:=n) λi hi=>h i (by omega)
  have:=h n (by omega)
  omega
theorem a6l {f g:Nat->Int}{k:Nat}{d:Int}(hd:g k=f k+d)(ho:∀i,i≠k->g i=f i):∀{n:Nat},sm g n=sm f n+if k<n then d else 0
 |0=>by simp[sm]
 |n+1=>by
  rw[sm,sm,a6l hd ho (n:=n)]
  by_cases e:k=n
  ·subst e;rw[d9z (by omega),e0c (by omega),hd];omega
  ·rw[ho n (λh=>e h.symm)]
   by_cases h1:k<n
   ·rw[e0c h1,e0c (by omega)];omega
   ·rw[d9z h1,d9z (by omega)];omega
theorem xB (f:Nat->Nat->Int)(m:Nat):∀n,sm (λi=>sm (λj=>f i j) m) n=sm (λj=>sm (λi=>f i j) n) m
 |0=>by
  show 0=_
  rw[show(λj=>sm (λi=>f i j) 0)=λ_=>0 from rfl,iU]
 |n+1=>by
  rw[sm,xB f m n,<-a0h]
  exact aS λj _=>rfl
def sq (N:Nat)(f:Nat->Nat->Int):Int:=sm (λi=>sm (λj=>f i j) N) N
theorem b9m {N:Nat}{f g:Nat->Nat->Int}(h:∀i j,i<N->j<N->f i j=g i j):sq N f=sq N g:=aS λi hi=>aS λj hj=>h i j hi hj
theorem c1k {N:Nat}{f g:Nat->Nat->Int}{a b:Nat}{d:Int}(ha:a<N)(hb:b<N)(hd:g a b=f a b+d)(ho:∀i j,¬(i=a/\j=b)->g i j=f i j):sq N g=sq N f+d:=by
 unfold sq
 rw[a6l (f:=λi=>sm (λj=>f i j) N) (g:=λi=>sm (λj=>g i j) N) (k:=a) (d:=d) ?_ ?_,e0c ha]
 ·show sm (λj=>g a j) N=sm (λj=>f a j) N+d
  rw[a6l (f:=λj=>f a j) (g:=λj=>g a j) (k:=b) (d:=d) hd λj hj=>ho a j λh=>hj h.2,e0c hb]
 ·intro i hi
  exact aS λj _=>ho i j λh=>hi h.1
open Classical in
def xw (E:Int->Int->Prop)(g:Int->Int->Int)(u:Int)(a b:Int):Int:=if E a b then(if b=u then g a b else 0)-(if a=u then g a b else 0)else 0
def exc (N:Nat)(E:Int->Int->Prop)(g:Int->Int->Int)(u:Int):Int:=sq N λa b=>xw E g u a b
open Classical in
def a7v (N:Nat)(E:Int->Int->Prop)(g:Int->Int->Int)(u:Int)(s:List (List Int)):Int:=sq N λa b=>if [(a:Int),(b:Int)]∈s then xw E g u a b else 0
theorem b7l (N:Nat)(E:Int->Int->Prop)(g:Int->Int->Int)(u:Int):a7v N E g u []=0:=by
 unfold a7v sq
 rw[aS (g:=λ_=>0) λi _=>?_,iU]
 rw[aS (g:=λ_=>0) λj _=>d9z (by simp),iU]
theorem b1f {N:Nat}{E:Int->Int->Prop}{g:Int->Int->Int}{u a b:Int}{s:List (List Int)}(ha:0<=a/\a<N)(hb:0<=b/\b<N)(hn:[a,b]∉s):a7v N E g u ([a,b]::s)=a7v N E g u s+xw E g u a b:=by
 unfold a7v
 have ea:((a.toNat:Nat):Int)=a:=e3b ha.1
 have eb:((b.toNat:Nat):Int)=b:=e3b hb.1
 refine c1k (a:=a.toNat) (b:=b.toNat) (by omega) (by omega) ?_ ?_
 ·rw[ea,eb,e0c (d9y ..),d9z hn];omega
 ·intro i j hij
  have:[(i:Int),(j:Int)]≠[a,b]:=λe=>hij (by simp at e;omega)
  by_cases h:[(i:Int),(j:Int)]∈s
  ·rw[e0c h,e0c (d9v _ h)]
  ·rw[d9z h,d9z λhm=>(e0b.1 hm).elim this h]
theorem b7k {N:Nat}{E:Int->Int->Prop}{g:Int->Int->Int}{u:Int}{s:List (List Int)}(h:∀a b,E a b->[a,b]∈s):a7v N E g u s=exc N E g u:=by
 unfold a7v exc
 refine b9m λa b _ _=>?_
 by_cases e:E a b
 ·rw[e0c (h _ _ e)]
 ·split
  ·rfl
  ·unfold xw;rw[d9z e]
def tD (N:Nat):List (List Int):=(List.range N).flatMap λ(a:Nat)=>(List.range N).map λ(b:Nat)=>([(a:Int),(b:Int)]:List Int)
theorem wN {N:Nat}{a b:Int}(ha:0<=a/\a<N)(hb:0<=b/\b<N):[a,b]∈tD N:=by
 unfold tD
 refine e1a.2 ⟨a.toNat,e1e.2 (by omega),e0l.2 ⟨b.toNat,e1e.2 (by omega),?_⟩⟩
 rw[e3b ha.1,e3b hb.1]
theorem vV {N:Nat}(h:N<=10):(tD N).length<=100:=by
 have:∀n≤10,(tD n).length<=100:=by decide+kernel
 exact this N h
theorem d1b {N:Nat}{E:Int->Int->Prop}{B:Int->Int->Int×Int}(h:NetOk N E B){g:Int->Int->Int}(hg:kV E B g)(u a b:Int): -192<=xw E g u a b/\xw E g u a b<=192:=by
 unfold xw
 split
 ·rename_i he
  have:=h.bd a b he
  have:=hg a b he
  split<;>split<;>omega
 ·omega
theorem c5g {f:Nat->Int}{x:Int}(hx:0<=x)(h:∀i, -x<=f i/\f i<=x):∀n:Nat, -(n*x)<=sm f n/\sm f n<=n*x
 |0=>by simp[sm]
 |n+1=>by
  have:=c5g hx h n
  have:=h n
  rw[sm]
  push_cast
  rw[Int.add_mul,Int.one_mul]
  omega
theorem d0c {N:Nat}(hN:N<=10){f:Nat->Nat->Int}(h:∀i j, -192<=f i j/\f i j<=192): -19200<=sq N f/\sq N f<=19200:=by
 have h1:∀i, -1920<=sm (λj=>f i j) N/\sm (λj=>f i j) N<=1920:=λi=>by
  have: -(N*192)<=sm (λj=>f i j) N/\sm (λj=>f i j) N<=N*192:=c5g (by decide) (h i) N
  omega
 have:=c5g (x:=1920) (by decide) h1 N
 unfold sq
 omega
theorem c2x {N:Nat}{E:Int->Int->Prop}{B:Int->Int->Int×Int}(h:NetOk N E B){g:Int->Int->Int}(hg:kV E B g)(u:Int)(s:List (List Int)): -19200<=a7v N E g u s/\a7v N E g u s<=19200:=by
 refine d0c h.n10 λi j=>?_
 split
 ·exact d1b h hg u i j
 ·omega
theorem c7o {N:Nat}{E:Int->Int->Prop}{B:Int->Int->Int×Int}(h:NetOk N E B){g:Int->Int->Int}(hg:kV E B g)(u:Int): -19200<=exc N E g u/\exc N E g u<=19200:=
 d0c h.n10 λi j=>d1b h hg u i j
theorem b8q (l:List Int)(g:Nat)(c:Nat->DV)(hl:l.length<1000000)(hp:∀x∈l,Fn Tryz.prog g [int x,c 0,c 1] (bool false)):Fn Tryz.prog 211 [fQ 1 int 0 l,.fn g 0 2 (λ_=> .top) c] (bool false):=by
 have hx:Fn Tryz.prog 291 [fQ 1 int 0 l,.fn g 0 2 (λ_=> .top) c] (int (-1)):=by
  refine e1t (cuts:=[]) tys hM Tryz.func291 rfl Tryz.call291 rfl ?_
  show exC Tryz.prog T [] _ false none 0 (entry 19 [fQ 1 int 0 l,.fn g 0 2 (λ_=> .top) c]) (cH T [ResultVar.tmp 4] _)
  conv=>whnf
  repeat' first|(refine go ?_;conv=>whnf)|(refine go2 ?_ ?_<;>(try intro hc)<;>conv=>whnf)|fail
  refine e2x [0,1,7] 40 ?_
  (conv=>whnf)
  refine e3v 19 ({i:Int//0<=i/\i<=l.length}) 0 (λ⟨i,_⟩ nx=>([(8,.d (int i))],[])) (λp=>(l.length-p.1).toNat) (⟨0,by omega,by omega⟩) ?_ ?_
  ·rintro⟨i,hi0,hi⟩
   have hpi:i<l.length->Fn Tryz.prog g [int (l.getD i.toNat 0),c 0,c 1] (bool false):=λh=>hp _ (aE (by omega) _)
   conv=>whnf
   repeat' first|((first|refine go ?_|refine gc (hpi (by omega)) ?_);conv=>whnf)|(refine go2 ?_ ?_<;>(try intro hc)<;>conv=>whnf)|fail
   all_goals first|exact⟨rfl,⟨i+1,by omega,by omega⟩,Lf,by simp only;omega⟩|exact Lf
  ·exact Lf
 refine e1t (cuts:=[]) tys hM Tryz.func211 rfl Tryz.call211 rfl ?_
 show exC Tryz.prog T [] _ false none 0 (entry 9 [fQ 1 int 0 l,.fn g 0 2 (λ_=> .top) c]) (cH T [ResultVar.tmp 4] _)
 conv=>whnf
 repeat' first|((first|refine go ?_|refine gc (hx) ?_);conv=>whnf)|(refine go2 ?_ ?_<;>(try intro hc)<;>conv=>whnf)|fail
 all_goals exact Lf
theorem c4b (l:List (Int×Int))(g:Nat)(c:Nat->DV)(hl:l.length<1000000)(hp:∀x∈l,Fn Tryz.prog g [rgD x,c 0] (bool false)):Fn Tryz.prog 97 [fQ 2 rgD (0,0) l,.fn g 0 1 (λ_=> .top) c] (bool false):=by
 have hx:Fn Tryz.prog 151 [fQ 2 rgD (0,0) l,.fn g 0 1 (λ_=> .top) c] (int (-1)):=by
  refine e1t (cuts:=[]) tys hM Tryz.func151 rfl Tryz.call151 rfl ?_
  show exC Tryz.prog T [] _ false none 0 (entry 19 [fQ 2 rgD (0,0) l,.fn g 0 1 (λ_=> .top) c]) (cH T [ResultVar.tmp 4] _)
  conv=>whnf
  repeat' first|(refine go ?_;conv=>whnf)|(refine go2 ?_ ?_<;>(try intro hc)<;>conv=>whnf)|fail
  refine e2x [0,1,7] 40 ?_
  (conv=>whnf)
  refine e3v 19 ({i:Int//0<=i/\i<=l.length}) 0 (λ⟨i,_⟩ nx=>([(8,.d (int i))],[])) (λp=>(l.length-p.1).toNat) (⟨0,by omega,by omega⟩) ?_ ?_
  ·rintro⟨i,hi0,hi⟩
   have hpi:i<l.length->Fn Tryz.prog g [rgD (l.getD i.toNat (0,0)),c 0] (bool false):=λh=>hp _ (aE (by omega) _)
   conv=>whnf
   repeat' first|((first|refine go ?_|refine gc (hpi (by omega)) ?_);conv=>whnf)|(refine go2 ?_ ?_<;>(try intro hc)<;>conv=>whnf)|fail
   all_goals first|exact⟨rfl,⟨i+1,by omega,by omega⟩,Lf,by simp only;omega⟩|exact Lf
  ·exact Lf
 refine e1t (cuts:=[]) tys hM Tryz.func97 rfl Tryz.call97 rfl ?_
 show exC Tryz.prog T [] _ false none 0 (entry 9 [fQ 2 rgD (0,0) l,.fn g 0 1 (λ_=> .top) c]) (cH T [ResultVar.tmp 4] _)
 conv=>whnf
 repeat' first|((first|refine go ?_|refine gc (hx) ?_);conv=>whnf)|(refine go2 ?_ ?_<;>(try intro hc)<;>conv=>whnf)|fail
 all_goals exact Lf
theorem c8u (l:List (List (Int×Int)))(g:Nat)(c:Nat->DV)(hl:l.length<1000000)(hp:∀x∈l,Fn Tryz.prog g [rgs x,c 0] (bool false)):Fn Tryz.prog 147 [fQ 1 rgs [] l,.fn g 0 1 (λ_=> .top) c] (bool false):=by
 have hx:Fn Tryz.prog 236 [fQ 1 rgs [] l,.fn g 0 1 (λ_=> .top) c] (int (-1)):=by
  refine e1t (cuts:=[]) tys hM Tryz.func236 rfl Tryz.call236 rfl ?_
  show exC Tryz.prog T [] _ false none 0 (entry 19 [fQ 1 rgs [] l,.fn g 0 1 (λ_=> .top) c]) (cH T [ResultVar.tmp 4] _)
  conv=>whnf
  repeat' first|(refine go ?_;conv=>whnf)|(refine go2 ?_ ?_<;>(try intro hc)<;>conv=>whnf)|fail
  refine e2x [0,1,7] 40 ?_
  (conv=>whnf)
  refine e3v 19 ({i:Int//0<=i/\i<=l.length}) 0 (λ⟨i,_⟩ nx=>([(8,.d (int i))],[])) (λp=>(l.length-p.1).toNat) (⟨0,by omega,by omega⟩) ?_ ?_
  ·rintro⟨i,hi0,hi⟩
   have hpi:i<l.length->Fn Tryz.prog g [rgs (l.getD i.toNat []),c 0] (bool false):=λh=>hp _ (aE (by omega) _)
   conv=>whnf
   repeat' first|((first|refine go ?_|refine gc (hpi (by omega)) ?_);conv=>whnf)|(refine go2 ?_ ?_<;>(try intro hc)<;>conv=>whnf)|fail
   all_goals first|exact⟨rfl,⟨i+1,by omega,by omega⟩,Lf,by simp only;omega⟩|exact Lf
  ·exact Lf
 refine e1t (cuts:=[]) tys hM Tryz.func147 rfl Tryz.call147 rfl ?_
 show exC Tryz.prog T [] _ false none 0 (entry 9 [fQ 1 rgs [] l,.fn g 0 1 (λ_=> .top) c]) (cH T [ResultVar.tmp 4] _)
 conv=>whnf
 repeat' first|((first|refine go ?_|refine gc (hx) ?_);conv=>whnf)|(refine go2 ?_ ?_<;>(try intro hc)<;>conv=>whnf)|fail
 all_goals exact Lf
end Go.Px.Tryz
namespace Go.Proofs
open Go Go.RowKit Go.Lib Go.Px
def zR:Value:= .agg #[.int .i64 0,.int .i64 0]
theorem Tryz.grow_run (n:Nat)(w:World)(h0:1<=n)(h1:n<=1000):
  Calls Tryz.prog 237 #[.slice none 0 0,.int .i64 n] w λe w'=>
   e= .returned (.slice (some ⟨w.heap.size,0,none⟩) 0 (grownCap w n 0 35))/\
   w'=w.drew.alloc (.cells (#[]++Builtin.zeroCells zR.cells n++Builtin.zeroCells zR.cells (grownCap w n 0 35-n)) 35):=by
 have hw1:wrap64 ((0:Int)-0)=0:=by unfold wrap64;omega
 have hw2:wrap64 ((n:Int)-0)=n:=by unfold wrap64;omega
 have hw3:¬((n:Int)<0):=by omega
 have hw4:(n:Int)>0:=by omega
 have hold:(Builtin.firstCells 2 0 (.slice none 0 0)).run Tryz.prog w.drew= .ok #[] w.drew:=run_firstCells_none w.drew 2 0 0 0
 obtain⟨i0,hi0,hz0,hs0,hb0⟩:=Px.Tryz.tok35.info
 have hs0:i0.size=2:=hs0
 have hb0:i0.bytes=16:=hb0
 have hz0:i0.zero=some zR:=hz0
 have hrz:∀ty,(Builtin.append_ #[22,3] ty #[.slice none 0 0,.int .i64 (n:Int)]).run Tryz.prog w=
   .ok (.slice (some ⟨w.heap.size,0,none⟩) n (grownCap w n 0 35)) (w.drew.alloc (.cells (#[]++Builtin.zeroCells zR.cells n++Builtin.zeroCells zR.cells (grownCap w n 0 35-n)) 35)):=λty=>by
  have h:=Lib.run_append_grow_zeros w 22 3 ty 35 i0 zR .i64 .i64 Tryz.underlying22 Tryz.underlying3 hi0 hz0 none 0 0 [] (by rw[hs0];exact hold) n (by omega) (by omega) (by omega) (by omega) (by rw[hb0];omega)
   (growslice_fits (by omega) (by rw[hb0];omega))
  rw[e0f]at h
  exact h
 have hGn:n<=grownCap w n 0 35:=grownCap_ge w _ _ _
 obtain⟨G,hG⟩:∃G,G=grownCap w n 0 35:=⟨_,rfl⟩
 rw[<-hG]at hrz hGn⊢
 have hG63:G<=9223372036854775807:=by
  have:=grownCap_le_maxLen w n 0 35 (by unfold maxLen;omega)
  rw[<-hG]at this
  unfold maxLen at this
  omega
 go_enter Tryz.func237,Tryz.ntmps237
 go_wp2_with (at_builtin;refine Lib.wpList_append_run _ rfl _ _ _ _ rfl _ _ rfl rfl _ _ (hrz _) ?_)
 all_goals(go_ret;exact⟨rfl,rfl⟩)
end Go.Proofs
namespace Go.Px.Tryz
open Go Go.Proofs Go.Px Go.RowKit
theorem a9n (n:Int)(h0:1<=n)(h1:n<=1000):FnF Tryz.prog 237 [.v (.slice none 0 0),int n] 35 2 0 (bG rgD (0,0) []) (.ms 0 2 0 0):=by
 obtain⟨m,rfl⟩:∃m:Nat,n=m:=⟨n.toNat,by omega⟩
 refine⟨Tryz.call237,λS w vals hS hv=>?_⟩
 obtain⟨u,v,rfl⟩:∃u v,vals=[u,v]:=by
  match vals,hv with
  |[u,v],_=>exact⟨u,v,rfl⟩
 have e1:u= .slice none 0 0:=hv.1
 have e2:v= .int .i64 m:=hv.2.1
 subst e1;subst e2
 refine(Proofs.Tryz.grow_run m w (by omega) (by omega)).mono ?_
 rintro e w' ⟨rfl,rfl⟩
 have hG:=grownCap_ge w m 0 35
 have hM:=grownCap_le_maxLen w m 0 35 (by unfold maxLen;omega)
 generalize grownCap w m 0 35=G at*
 have hsz:(#[]++Builtin.zeroCells zR.cells m++Builtin.zeroCells zR.cells (G-m)).size=G*2:=by
  have hc:zR.cells.size=2:=rfl
  rw[e6f,e6f,size_zeroCells,size_zeroCells,hc]
  show 0+m*2+(G-m)*2=G*2
  omega
 generalize(#[]++Builtin.zeroCells zR.cells m++Builtin.zeroCells zR.cells (G-m))=c at*
 have hbl:Below w.heap.size w (w.drew.alloc (.cells c 35)):=(e5p _ w).drew.alloc (e0g _) _
 have hhp:(w.drew.alloc (.cells c 35)).heap[w.heap.size]?=some (.cells c 35 (0,0)):=dZ w.drew _
 refine⟨_,⟨S,λj=>bif Nat.beq j 0 then .at w.heap.size else .un,[]⟩,rfl,λj hj=>?_,λ_ h=>h,λ_ h=> .inl h,hbl,.inr ⟨w.heap.size,c,rfl,hhp,e4t _,?_,λi hi=>absurd hi (e3i i)⟩,.inr ⟨w.heap.size,0,G,c,35,rfl,rfl,e4t _,hM,hhp,.inl ⟨rfl,by rw[hsz];omega⟩⟩⟩
 ·show(bif Nat.beq j 0 then Loc.at w.heap.size else .un)= .un
  rw[cG hj];rfl
 ·show¬S w.heap.size/\w.heap.size<=w.heap.size
  exact⟨λh=>e5g _ (hS _ h),e0g _⟩
theorem c5b {l l':List (Int×Int)}:∀j,j<(l++l').length->dI (apd l.length (bG rgD (0,0) l) (λi=>rgD (l'.getD i (0,0))) j) (bG rgD (0,0) (l++l') j):=λj _=>by
 unfold apd bG
 by_cases h:j<l.length
 ·rw[e0c h,d9r (l:=l++l'),e1u h,<-d9r];exact dI.refl _
 ·rw[d9z h,d9r (l:=l++l'),e1m (by omega),<-d9r];exact dI.refl _
def jK (Ls:List (List (Int×Int))):Nat->Nat
  |0=>0
  |i+1=>jK Ls i+(Ls.getD i []).length
def lH (Ls:List (List (Int×Int))):Nat->List (Int×Int)
  |0=>[]
  |i+1=>lH Ls i++Ls.getD i []
theorem qR (Ls:List (List (Int×Int))):∀i,(lH Ls i).length=jK Ls i
 |0=>rfl
 |i+1=>by rw[lH,e1f,qR Ls i];rfl
theorem b7z (Ls:List (List (Int×Int))):∀i,i<=Ls.length->jK Ls i<=jK Ls Ls.length:=λi hi=>by
 obtain⟨d,hd⟩:∃d,Ls.length=i+d:=⟨Ls.length-i,by omega⟩
 rw[hd]
 clear hd hi
 induction d with
 |zero=>exact e0g _
 |succ d ih=>rw[<-e3j,jK];omega
theorem a1g (Ls:List (List (Int×Int)))(h0:1<=jK Ls Ls.length)(h1:jK Ls Ls.length<=1000)(h2:Ls.length<=1000):Fn Tryz.prog 148 [zZ Ls] (rgs (lH Ls Ls.length)):=by
 have hle:=b7z Ls
 have hG:=λn a b=>a9n n a b
 have hst:∀i:Int,0<=i->((jK Ls i.toNat:Nat):Int)+((Ls.getD i.toNat []).length:Int)=(jK Ls (i+1).toNat:Nat):=λi i0=>by
  rw[show(i+1).toNat=i.toNat+1 by omega,jK];omega
 have hcs:∀i:Int,0<=i->lH Ls (i+1).toNat=lH Ls i.toNat++Ls.getD i.toNat []:=λi i0=>by
  rw[show(i+1).toNat=i.toNat+1 by omega,lH]
 have hcl:=qR Ls
 have hfin:lH Ls Ls.length=lH Ls Ls.length:=rfl
 generalize hF:lH Ls Ls.length=fin at*
 have hz:jK Ls (Int.toNat 0)=0:=rfl
 have hcz:lH Ls (Int.toNat 0)=[]:=rfl
 generalize lH Ls=X at*
 generalize jK Ls=Y at*
 refine e1t (cuts:=[]) tys hM Tryz.func148 rfl Tryz.call148 rfl ?_
 show exC Tryz.prog T [] _ false none 0 (entry 36 [zZ Ls]) (cH T [ResultVar.tmp 2] _)
 conv=>whnf
 repeat' first|(refine go ?_;conv=>whnf)|(refine go2 ?_ ?_<;>(try intro hc)<;>conv=>whnf)|fail
 refine e2x [0,2,6,8,9,10,23,24,25,26,27,29,30,31,32,33,34,35] 100 ?_
 (conv=>whnf)
 refine e3v 36 ({i:Int//0<=i/\i<=Ls.length}) 0 (λ⟨i,_⟩ nx=>([(11,.d (int i)),(3,.d (int (Y i.toNat:Nat)))],[])) (λp=>(Ls.length-p.1).toNat) (⟨0,by omega,by omega⟩) ?_ ?_
 ·rintro⟨i,i0,i1⟩
  by_cases hi:i<Ls.length
  ·have hst:=hst i i0
   have hle:=hle (i+1).toNat (by omega)
   conv=>whnf
   repeat' first|(refine go ?_;conv=>whnf)|(refine go2 ?_ ?_<;>(try intro hc)<;>conv=>whnf)|fail
   all_goals first|exact⟨rfl,⟨i+1,by omega,by omega⟩,Lf,by simp only;omega⟩|(exfalso;omega)
  ·have ei:i.toNat=Ls.length:=by omega
   have hG:=hG (Y i.toNat:Nat) (by rw[ei];omega) (by rw[ei];omega)
   conv=>whnf
   repeat' first
    |(refine Ob.a ?_;conv=>whnf)
    |(refine Sp.tt ?_;conv=>whnf)
    |(refine Sp.ff ?_;conv=>whnf)
    |(refine Sp.yes ?_;conv=>whnf)
    |(refine Sp.no ?_;conv=>whnf)
    |(refine Sp.nyes ?_;conv=>whnf)
    |(refine Sp.nno ?_;conv=>whnf)
    |(refine Sp.ne (λhc=>?_) (λhc=>?_)<;>(conv=>whnf))
    |(refine Sp.dec (λhc=>?_) (λhc=>?_)<;>(conv=>whnf))
    |(refine Sp.ndec (λhc=>?_) (λhc=>?_)<;>(conv=>whnf))
    |(refine Sp.mk (λhc=>?_) (λhc=>?_)<;>(conv=>whnf))
    |(apply Cl.fr;(conv=>whnf);(first|(refine Ob.frX (hG) ?_ ?_ ?_;(focus exact Lf);(focus exact Lf)));(conv=>whnf))
    |(refine Nx.mk (λka kb kx hx hs=>?_) (λhe=>?_)<;>(conv=>whnf))
    |(refine Nx.mk (λka kx hx hs=>?_) (λhe=>?_)<;>(conv=>whnf))
    |(refine Uk.mk (λhn=>?_) ?_<;>(conv=>whnf))
    |(refine Ap.a ?_ ?_<;>(conv=>whnf))
    |(refine Fi.a ?_;conv=>whnf)
    |(refine Yl.a ?_ ?_<;>(conv=>whnf))
    |(refine Ob.b ?_;conv=>whnf)
   refine e2x [0,2,25,26,35] 100 ?_
   (conv=>whnf)
   refine e3v 36 ({q:Int×List (Int×Int)//(0<=q.1/\q.1<=Ls.length)/\q.2=X q.1.toNat}) 0 (λ⟨(j,o),_⟩ nx=>([(27,.d (int j)),(6,.ms 3 2 0 o.length)],[(3,.row true 35 2 o.length (bG rgD (0,0) o))])) (λp=>(Ls.length-p.1.1).toNat) (⟨(0,[]),⟨by simp,by simp⟩,hcz.symm⟩) ?_ ?_
   ·rintro⟨⟨j,o⟩,⟨j0,j1⟩,ho⟩
    simp only at j0 j1 ho
    by_cases hj:j<Ls.length
    ·have hcs:=hcs j j0
     have hl1:=hcl (j+1).toNat
     have hle1:=hle (j+1).toNat (by omega)
     rw[<-ho]at hcs
     rw[hcs,e1f]at hl1
     have e1:o.length+(Ls.getD j.toNat []).length=(o++Ls.getD j.toNat []).length:=by rw[e1f]
     have ro:=c5b (l:=o) (l':=Ls.getD j.toNat [])
     conv=>whnf
     repeat' first|(refine go ?_;conv=>whnf)|(refine go2 ?_ ?_<;>(try intro hc)<;>conv=>whnf)|fail
     all_goals first|(exfalso;omega)|skip
     all_goals refine⟨rfl,⟨(j+1,o++Ls.getD j.toNat []),⟨by simp only;omega,by simp only;omega⟩,hcs.symm⟩,?_,by simp only;omega⟩
     all_goals conv=>whnf
     repeat' first|(refine e2d ?_)|((conv=>whnf);first|exact True.intro|(refine And.intro ?_ ?_)|exact rfl|exact e1h (e0f _)|exact e0h _|((conv=>arg 1;whnf);first|exact e0h _|(refine e1q ?_)|(refine e1i ?_)|(refine e2k ?_)|(refine e2e ?_ ?_)|(refine e1v ?_)|(refine e2f rfl ?_))|(refine aA ?_)|exact eF.refl _|exact aB|exact aC|exact e0m|exact bS.refl _)|exact rfl|(refine And.intro ?_ ?_)|exact e0h _
     all_goals first|exact e1|exact ro
    ·have e:o=fin:=by rw[ho,<-hF];congr 1;omega
     subst e
     conv=>whnf
     repeat' first|(refine go ?_;conv=>whnf)|(refine go2 ?_ ?_<;>(try intro hc)<;>conv=>whnf)|fail
     all_goals exact Lf
   ·exact Lf
 ·have e:(0:Int)=(Y (Int.toNat 0):Nat):=by rw[hz];rfl
  exact Lf
def gJ (x:Int):DV:= .pt (.ag 1 λ_=>int x) 0
theorem a3w (x lo hi:Int)(h:lo<=x/\x<=hi):Fn Tryz.prog 235 [int x,gJ lo,gJ hi] (bool false):=by
 have e:decide (hi<x)=false:=e1o (by omega)
 refine e1t (cuts:=[]) tys hM Tryz.func235 rfl Tryz.call235 rfl ?_
 show exC Tryz.prog T [] _ false none 0 (entry 13 [int x,gJ lo,gJ hi]) (cH T [ResultVar.tmp 4] _)
 conv=>whnf
 repeat' first|(refine go ?_;conv=>whnf)|(refine go2 ?_ ?_<;>(try intro hc)<;>conv=>whnf)|fail
 all_goals first|(exfalso;omega)|exact Lf
theorem uZ (lo hi:Int)(l:List Int)(hl:l.length<1000000)(h:∀x∈l,lo<=x/\x<=hi):Fn Tryz.prog 145 [int lo,int hi,ints l] (bool true):=by
 have hc:=b8q l 235 (λj=>[gJ lo,gJ hi].getD j .top) hl (λx hx=>a3w x lo hi (h x hx))
 refine e1t (cuts:=[]) tys hM Tryz.func145 rfl Tryz.call145 rfl ?_
 show exC Tryz.prog T [] _ false none 0 (entry 11 [int lo,int hi,ints l]) (cH T [ResultVar.tmp 6] _)
 conv=>whnf
 repeat' first|((first|refine go ?_|refine gc (hc) ?_);conv=>whnf)|(refine go2 ?_ ?_<;>(try intro hc)<;>conv=>whnf)|fail
 all_goals exact Lf
theorem xC (r:Int×Int)(x:Int)(h:pQ x r):Fn Tryz.prog 144 [rgD r,gJ x] (bool false):=by
 obtain⟨h1,h2,h3⟩:=h
 have hw:=uZ 0 x [r.1,r.2] (by simp) (by simp;omega)
 have e:decide (r.2<r.1)=false:=e1o (by omega)
 refine e1t (cuts:=[]) tys hM Tryz.func144 rfl Tryz.call144 rfl ?_
 show exC Tryz.prog T [] _ false none 0 (entry 19 [rgD r,gJ x]) (cH T [ResultVar.tmp 3] _)
 conv=>whnf
 repeat' first|((first|refine go ?_|refine gc (hw) ?_);conv=>whnf)|(refine go2 ?_ ?_<;>(try intro hc)<;>conv=>whnf)|fail
 all_goals first|(exfalso;omega)|exact Lf
def fnS (x:Int):DV:= .fn 144 0 1 (λ_=> .top) λ_=>gJ x
theorem kR (x:Int):Fn Tryz.prog 143 [int x] (fnS x):=by
 refine e1t (cuts:=[]) tys hM Tryz.func143 rfl Tryz.call143 rfl ?_
 show exC Tryz.prog T [] _ false none 0 (entry 4 [int x]) (cH T [ResultVar.tmp 2] _)
 conv=>whnf
 repeat' first|(refine go ?_;conv=>whnf)|(refine go2 ?_ ?_<;>(try intro hc)<;>conv=>whnf)|fail
 all_goals exact Lf
theorem c5f (R C:List (Int×Int))(Z:List (List (Int×Int)))(hC:C.length<1000000)(l:List (Int×Int))(h:l.length=C.length):Fn Tryz.prog 146 [rgs l,.pt (jA R C Z) 0] (bool false):=by
 have e:decide ((l.length:Int)≠C.length)=false:=e1o (by omega)
 refine e1t (cuts:=[]) tys hM Tryz.func146 rfl Tryz.call146 rfl ?_
 show exC Tryz.prog T [] _ false none 0 (entry 10 [rgs l,.pt (jA R C Z) 0]) (cH T [ResultVar.tmp 3] _)
 conv=>whnf
 repeat' first|(refine go ?_;conv=>whnf)|(refine go2 ?_ ?_<;>(try intro hc)<;>conv=>whnf)|fail
 all_goals exact Lf
theorem zD {Ls:List (List (Int×Int))}{x:Int×Int}:∀{n:Nat},n<=Ls.length->x∈lH Ls n->∃l∈Ls,x∈l
 |0,_,h=>by cases h
 |n+1,hn,h=>by
  rcases e0x.1 h with h|h
  ·exact zD (by omega) h
  ·exact⟨_,aE (by omega) [],h⟩
theorem a5h {Ls:List (List (Int×Int))}{m:Nat}(h:∀l∈Ls,l.length=m):∀{n:Nat},n<=Ls.length->jK Ls n=n*m
 |0,_=>by simp[jK]
 |n+1,hn=>by rw[jK,a5h h (by omega),h _ (aE (by omega) []),Nat.succ_mul]
theorem vB (R C:List (Int×Int))(Z:List (List (Int×Int)))(h:TabOk R C Z):Fn Tryz.prog 88 [jA R C Z] (int 0):=by
 have hr0:=h.r0
 have hr1:=h.r1
 have hc0:=h.c0
 have hc1:=h.c1
 have hz0:=h.z0
 have hw:=uZ 1 4 [(R.length:Int),(C.length:Int)] (by simp) (by simp;omega)
 have s1:=kR 48
 have s2:=kR 12
 have k0:=c8u Z 146 (λ_=> .pt (jA R C Z) 0) (by omega) λl hl=>c5f R C Z (by omega) l (h.z1 l hl)
 have k1:=c4b R 144 (λ_=>gJ 48) (by omega) λr hr=>xC r 48 (h.rr r hr)
 have k2:=c4b C 144 (λ_=>gJ 48) (by omega) λr hr=>xC r 48 (h.cc r hr)
 have hl:=a5h h.z1 (e0g _)
 have hlc:=qR Z Z.length
 have hl1:1<=jK Z Z.length:=by rw[hl];exact e6o (by omega:1<=Z.length) hc0
 have hl2:jK Z Z.length<=16:=by rw[hl];exact e6o (by omega:Z.length<=4) hc1
 have hcat:=a1g Z hl1 (by omega) (by omega)
 have k3:=c4b (lH Z Z.length) 144 (λ_=>gJ 12) (by omega) λr hr=>xC r 12 (by obtain⟨l,hl,hr⟩:=zD (e0g _) hr;exact h.zz l hl r hr)
 generalize lH Z Z.length=L at*
 refine e1t (cuts:=[]) tys hM Tryz.func88 rfl Tryz.call88 rfl ?_
 show exC Tryz.prog T [] _ false none 0 (entry 54 [jA R C Z]) (cH T [ResultVar.tmp 2] _)
 conv=>whnf
 repeat' first|((first|refine go ?_|(apply Cl.go;(conv=>whnf);first|refine e2m (s1) ?_|refine e2m (s2) ?_|refine e2m (hw) ?_|refine e2m (k0) ?_|refine e2m (k1) ?_|refine e2m (k2) ?_|refine e2m (hcat) ?_|refine e2m (k3) ?_));conv=>whnf)|(refine go2 ?_ ?_<;>(try intro hc)<;>conv=>whnf)|fail
 all_goals first|(exfalso;omega)|exact Lf
end Go.Px.Tryz
namespace Go.Px.Tryz.Po
open Go Go.Proofs Go.Px Go.Px.Tryz
def tot (z:Nat->Int)(S:Nat->Bool):Nat->Int
  |0=>0
  |n+1=>tot z S n+(if S n then z n else 0)
theorem jU {z:Nat->Int}{S S':Nat->Bool}:∀{n:Nat},(∀i,i<n->S i=S' i)->tot z S n=tot z S' n
 |0,_=>rfl
 |n+1,h=>by rw[tot,tot,jU λi hi=>h i (by omega),h n (by omega)]
theorem a6t {z:Nat->Int}(hz:∀i,0<=z i)(S:Nat->Bool):∀n,0<=tot z S n
 |0=>e4u _
 |n+1=>by
  have:=a6t hz S n
  have:=hz n
  rw[tot];split<;>omega
def adj (S:Nat->Bool)(i:Nat):Nat->Bool:=λj=>if j=i then true else S j
def del (S:Nat->Bool)(i:Nat):Nat->Bool:=λj=>if j=i then false else S j
theorem b5g {z:Nat->Int}{S:Nat->Bool}{i:Nat}(hs:S i=true):∀{n:Nat},i<n->tot z (del S i) n=tot z S n-z i
 |n+1,hi=>by
  rw[tot,tot]
  by_cases e:i=n
  ·subst e
   have:tot z (del S i) i=tot z S i:=jU λj hj=>d9z (by omega)
   rw[this,hs]
   have:del S i i=false:=e0c rfl
   rw[this]
   simp
  ·rw[b5g hs (by omega)]
   have:del S i n=S n:=d9z (by omega)
   rw[this];omega
theorem a3t {z:Nat->Int}{S:Nat->Bool}{i:Nat}(hs:S i=false):∀{n:Nat},i<n->tot z (adj S i) n=tot z S n+z i
 |n+1,hi=>by
  rw[tot,tot]
  by_cases e:i=n
  ·subst e
   have:tot z (adj S i) i=tot z S i:=jU λj hj=>d9z (by omega)
   rw[this,hs]
   have:adj S i i=true:=e0c rfl
   rw[this]
   simp
  ·rw[a3t hs (by omega)]
   have:adj S i n=S n:=d9z (by omega)
   rw[this];omega
theorem a9f {z:Nat->Int}(hz:∀i,0<=z i){S:Nat->Bool}{i n:Nat}(hi:i<n):tot z (adj S i) n<=tot z S n+z i:=by
 cases hs:S i with
 |false=>rw[a3t hs hi];exact e4u _
 |true=>
  have:tot z (adj S i) n=tot z S n:=jU λj _=>by
   unfold adj;split
   ·rename_i e;subst e;exact hs.symm
   ·rfl
  have:=hz i
  omega
section
variable (n:Nat) (lo hi z:Nat->Int) (W:Nat->Int) (ok:Nat->Bool)
def cov (i:Nat)(p:Int):Prop:=lo i<=p/\p<=hi i
instance (i:Nat)(p:Int):Decidable (cov lo hi i p):=by unfold cov;exact inferInstance
def fst (i:Nat):Nat->Nat
  |0=>0
  |f+1=>if cov lo hi i (W f)then fst i f else f+1
def pH (l:List Int)(k:Nat):Nat->Option Int
  |0=>none
  |i+1=>if ok i=true/\cov lo hi i (W k)then
      (match pH l k i with
      |none=>some (l.getD (fst lo hi W i k) 0+z i)
      |some b=>if l.getD (fst lo hi W i k) 0+z i<b then some (l.getD (fst lo hi W i k) 0+z i)else some b)
    else pH l k i
def upL:Nat->Option (List Int)
  |0=>some [0]
  |k+1=>match upL k with
    |none=>none
    |some l=>match pH lo hi z W ok l k n with
      |none=>none
      |some v=>some (l++[v])
def Cov (k:Nat)(S:Nat->Bool):Prop:=∀j,j<k->∃i,i<n/\S i=true/\cov lo hi i (W j)
variable {n lo hi z W ok}
theorem a4x (i:Nat):∀k,fst lo hi W i k<=k
 |0=>e0g _
 |k+1=>by rw[fst];split;exact e2h (a4x i k) (by omega);exact e0g _
theorem b1x (i:Nat):∀k j,fst lo hi W i k<=j->j<k->cov lo hi i (W j)
 |0,j,_,h=>by omega
 |k+1,j,h1,h2=>by
  rw[fst]at h1
  split at h1
  ·rename_i h
   by_cases e:j=k
   ·subst e;exact h
   ·exact b1x i k j h1 (by omega)
  ·omega
theorem b1y (i:Nat){K:Nat}(hW:∀a b,a<b->b<K->W a<W b):∀k,k<K->cov lo hi i (W k)->∀j,j<fst lo hi W i k->¬cov lo hi i (W j)
 |0,_,_,j,h=>by rw[fst]at h;omega
 |k+1,hkK,hk,j,h=>by
  rw[fst]at h
  split at h
  ·rename_i h1;exact b1y i hW k (by omega) h1 j h
  ·rename_i h1
   intro hc
   refine h1 ⟨?_,?_⟩
   ·rcases e4r j k with e|e
    ·have:=hW j k e (by omega);have:=hc.1;omega
    ·have:j=k:=by omega
     subst this;exact hc.1
   ·have:=hW k (k+1) (by omega) hkK;have:=hk.2;omega
theorem nK (l:List Int)(k:Nat):∀m,pH lo hi z W ok l k m=none↔∀i,i<m->¬(ok i=true/\cov lo hi i (W k))
 |0=>by simp[pH]
 |m+1=>by
  have ih:=nK l k m
  rw[pH]
  by_cases h:ok m=true/\cov lo hi m (W k)
  ·rw[e0c h]
   constructor
   ·intro e
    split at e
    ·cases e
    ·split at e<;>cases e
   ·intro e;exact absurd h (e m (by omega))
  ·rw[d9z h,ih]
   constructor
   ·intro e i hi
    by_cases hm:i=m
    ·subst hm;exact h
    ·exact e i (by omega)
   ·intro e i hi;exact e i (by omega)
theorem nL (l:List Int)(k:Nat):∀m v,pH lo hi z W ok l k m=some v->
  (∃i,i<m/\ok i=true/\cov lo hi i (W k)/\v=l.getD (fst lo hi W i k) 0+z i)/\∀i,i<m->ok i=true->cov lo hi i (W k)->v<=l.getD (fst lo hi W i k) 0+z i
 |0,v,h=>by cases h
 |m+1,v,h=>by
  rw[pH]at h
  by_cases hc:ok m=true/\cov lo hi m (W k)
  ·rw[e0c hc]at h
   split at h
   ·rename_i hb
    rw[nK]at hb
    cases h
    refine⟨⟨m,by omega,hc.1,hc.2,rfl⟩,λi hi h1 h2=>?_⟩
    by_cases e:i=m
    ·subst e;exact e4u _
    ·exact absurd ⟨h1,h2⟩ (hb i (by omega))
   ·rename_i b hb
    obtain⟨⟨i0,a1,a2,a3,a4⟩,a5⟩:=nL l k m b hb
    split at h
    ·cases h
     refine⟨⟨m,by omega,hc.1,hc.2,rfl⟩,λi hi h1 h2=>?_⟩
     by_cases e:i=m
     ·subst e;exact e4u _
     ·have:=a5 i (by omega) h1 h2;omega
    ·cases h
     refine⟨⟨i0,by omega,a2,a3,a4⟩,λi hi h1 h2=>?_⟩
     by_cases e:i=m
     ·subst e;omega
     ·exact a5 i (by omega) h1 h2
  ·rw[d9z hc]at h
   obtain⟨⟨i0,a1,a2,a3,a4⟩,a5⟩:=nL l k m v h
   refine⟨⟨i0,by omega,a2,a3,a4⟩,λi hi h1 h2=>?_⟩
   by_cases e:i=m
   ·subst e;exact absurd ⟨h1,h2⟩ hc
   ·exact a5 i (by omega) h1 h2
structure UpOk (n:Nat)(lo hi z W:Nat->Int)(ok:Nat->Bool)(k:Nat)(l:List Int):Prop where
  len:l.length=k+1
  low:∀m,m<=k->∀S:Nat->Bool,(∀i,S i=true->ok i=true)->Cov n lo hi W m S->l.getD m 0<=tot z S n
  att:∀m,m<=k->∃S:Nat->Bool,(∀i,S i=true->ok i=true/\i<n)/\Cov n lo hi W m S/\tot z S n=l.getD m 0
theorem Cov.le {k m:Nat}{S:Nat->Bool}(h:Cov n lo hi W k S)(hm:m<=k):Cov n lo hi W m S:=λj hj=>h j (by omega)
theorem vT {l:List Int}{v:Int}{m:Nat}(h:m<l.length):(l++[v]).getD m 0=l.getD m 0:=by
 rw[d9r,d9r,e1u h]
theorem vU {l:List Int}{v:Int}:(l++[v]).getD l.length 0=v:=by
 rw[d9r,e1m (e0g _)];simp
theorem c1n (hz:∀i,0<=z i){K:Nat}(hW:∀a b,a<b->b<K->W a<W b):∀k,k<=K->
  match upL n lo hi z W ok k with
  |some l=>UpOk n lo hi z W ok k l
  |none=>∀S:Nat->Bool,(∀i,S i=true->ok i=true)->¬Cov n lo hi W k S
 |0,_=>by
  show UpOk n lo hi z W ok 0 [0]
  refine⟨rfl,λm hm S _ _=>?_,λm hm=>⟨λ_=>false,(λi h=>by cases h),λj hj=>by omega,?_⟩⟩
  ·have:m=0:=by omega
   subst this;exact a6t hz S n
  ·have:m=0:=by omega
   subst this
   have:∀q,tot z (λ_=>false) q=0:=by
    intro q
    induction q with
    |zero=>rfl
    |succ q ih=>rw[tot,ih];simp
   rw[this];rfl
 |k+1,hkK=>by
  have ih:=c1n hz hW k (by omega)
  rw[upL]
  cases hu:upL n lo hi z W ok k with
  |none=>
   rw[hu]at ih
   simp only at ih⊢
   exactλS hS hc=>ih S hS (hc.le (by omega))
  |some l=>
   rw[hu]at ih
   simp only at ih⊢
   obtain⟨hl,hlow,hatt⟩:=ih
   cases hb:pH lo hi z W ok l k n with
   |none=>
    rw[nK]at hb
    simp only
    intro S hS hc
    obtain⟨i,h1,h2,h3⟩:=hc k (by omega)
    exact hb i h1 ⟨hS i h2,h3⟩
   |some v=>
    simp only
    obtain⟨⟨i0,a1,a2,a3,a4⟩,a5⟩:=nL l k n v hb
    have low:∀S:Nat->Bool,(∀i,S i=true->ok i=true)->Cov n lo hi W (k+1) S->v<=tot z S n:=by
     intro S hS hc
     obtain⟨i,h1,h2,h3⟩:=hc k (by omega)
     have h4:=a5 i h1 (hS i h2) h3
     have h5:=hlow (fst lo hi W i k) (a4x i k) (del S i) (λj hj=>by
      unfold del at hj;split at hj
      ·cases hj
      ·exact hS j hj) (λj hj=>by
      obtain⟨i',b1,b2,b3⟩:=hc j (by have:=a4x (lo:=lo) (hi:=hi) (W:=W) i k;omega)
      have hne:i'≠i:=λe=>by subst e;exact b1y i' hW k (by omega) h3 j hj b3
      exact⟨i',b1,by unfold del;rw[d9z hne];exact b2,b3⟩)
     rw[b5g h2 h1]at h5
     omega
    have e1:∀m,m<=k->(l++[v]).getD m 0=l.getD m 0:=λm hm=>vT (by omega)
    have e2:(l++[v]).getD (k+1) 0=v:=by rw[<-hl];exact vU
    refine⟨by simp[hl],λm hm S hS hc=>?_,λm hm=>?_⟩
    ·rcases e4r k m with e|e
     ·have:m=k+1:=by omega
      subst this
      rw[e2];exact low S hS hc
     ·rw[e1 m e];exact hlow m e S hS hc
    ·rcases e4r k m with e|e
     ·have:m=k+1:=by omega
      subst this
      rw[e2]
      obtain⟨S,s1,s2,s3⟩:=hatt (fst lo hi W i0 k) (a4x i0 k)
      have hc:Cov n lo hi W (k+1) (adj S i0):=by
       intro j hj
       rcases e4r j (fst lo hi W i0 k)with e|e
       ·obtain⟨i,b1,b2,b3⟩:=s2 j e
        exact⟨i,b1,by unfold adj;split<;>first|rfl|exact b2,b3⟩
       ·refine⟨i0,a1,e0c rfl,?_⟩
        by_cases hjk:j=k
        ·subst hjk;exact a3
        ·exact b1x i0 k j e (by omega)
      have ho:∀i,adj S i0 i=true->ok i=true/\i<n:=by
       intro i hi
       unfold adj at hi
       split at hi
       ·rename_i e;subst e;exact⟨a2,a1⟩
       ·exact s1 i hi
      refine⟨adj S i0,ho,hc,?_⟩
      have h1:=low _ (λi h=>(ho i h).1) hc
      have h2:=a9f hz (S:=S) a1
      omega
     ·rw[e1 m e];exact hatt m e
end
structure Lot where
  lo:Int
  hi:Int
deriving DecidableEq
instance:Inhabited Lot:=⟨⟨0,0⟩⟩
structure Row where
  pots:Int
  lots:List Lot
  weak:List Int
deriving DecidableEq
def Has (l:Lot)(p:Int):Prop:=l.lo<=p/\p<=l.hi
instance (l:Lot)(p:Int):Decidable (Has l p):=by unfold Has;exact inferInstance
def c3r (l:Lot):Int:=l.hi-l.lo+1
def eU (r:Row)(i:Nat):Lot:=r.lots.getD i default
structure RowOk (r:Row):Prop where
  p1:1<=r.pots
  p40:r.pots<=40
  l10:r.lots.length<=10
  w12:r.weak.length<=12
  lots:∀l∈r.lots,0<=l.lo/\l.lo<=l.hi/\l.hi<r.pots
  rng:∀p∈r.weak,0<=p/\p<r.pots
  inc:r.weak.Pairwise (· < ·)
def zOf (r:Row)(i:Nat):Int:=c3r (eU r i)
def d0u (r:Row)(S:Nat->Bool):Int:=tot (zOf r) S r.lots.length
def E (r:Row)(S:Nat->Bool):Prop:=∀p∈r.weak,∃i,i<r.lots.length/\S i=true/\Has (eU r i) p
theorem wI {r:Row}{i:Nat}(h:i<r.lots.length):eU r i∈r.lots:=by
 unfold eU;rw[d9r,e0e h];exact e5s h
theorem oC {r:Row}(h:RowOk r)(i:Nat):1<=zOf r i:=by
 by_cases hi:i<r.lots.length
 ·have:=h.lots _ (wI hi);unfold zOf c3r;omega
 ·have:eU r i=default:=by unfold eU;rw[d9r,e1w (by omega)];rfl
  unfold zOf;rw[this];decide
theorem a7c {r:Row}(h:RowOk r)(i:Nat):zOf r i<=40:=by
 by_cases hi:i<r.lots.length
 ·have:=h.lots _ (wI hi);have:=h.p40;unfold zOf c3r;omega
 ·have:eU r i=default:=by unfold eU;rw[d9r,e1w (by omega)];rfl
  unfold zOf;rw[this];decide
structure IsMin (r:Row)(A B:Nat->Bool)(v:Int):Prop where
  att:∃S:Nat->Bool,(∀i,A i=true->S i=true)/\(∀i,S i=true->B i=false/\i<r.lots.length)/\E r S/\d0u r S=v
  low:∀S:Nat->Bool,(∀i,A i=true->S i=true)->(∀i,S i=true->B i=false)->E r S->v<=d0u r S
def inL (l:List Nat):Nat->Bool:=λi=>l.contains i
def zH (S A:Nat->Bool):Nat->Bool:=λi=>S i&& !A i
def xH (S A:Nat->Bool):Nat->Bool:=λi=>S i||A i
theorem a0q {z:Nat->Int}{S A:Nat->Bool}(h:∀i,A i=true->S i=true):∀n,tot z S n=tot z A n+tot z (zH S A) n
 |0=>rfl
 |n+1=>by
  rw[tot,tot,tot,a0q h n]
  have:=h n
  unfold zH
  cases hA:A n<;>cases hS:S n<;>simp_all<;>omega
theorem a0r {z:Nat->Int}(hz:∀i,0<=z i){S A:Nat->Bool}:∀n,tot z (xH S A) n<=tot z S n+tot z A n
 |0=>e4u _
 |n+1=>by
  have ih:=a0r hz (S:=S) (A:=A) n
  have:=hz n
  rw[tot,tot,tot]
  unfold xH at ih⊢
  cases hA:A n<;>cases hS:S n<;>simp<;>omega
def uW (z:Nat->Int):List Nat->Int
  |[]=>0
  |i::l=>z i+uW z l
theorem a6p {z:Nat->Int}{n:Nat}:∀{l:List Nat},l.Nodup->(∀i∈l,i<n)->uW z l=tot z (inL l) n
 |[],_,_=>by
  have:∀q,tot z (inL []) q=0:=by
   intro q
   induction q with
   |zero=>rfl
   |succ q ih=>rw[tot,ih];simp[inL]
  rw[this];rfl
 |i::l,hn,hl=>by
  rw[e2b]at hn
  have e:tot z (inL (i::l)) n=tot z (adj (inL l) i) n:=jU λj _=>by
   unfold inL adj
   by_cases h:j=i<;>simp[h]
  rw[uW,a6p hn.2 (λj hj=>hl j (by simp[hj])),e,a3t (by simpa[inL]using hn.1) (hl i (by simp))]
  omega
def loN (r:Row)(i:Nat):Int:=(eU r i).lo
def hiN (r:Row)(i:Nat):Int:=(eU r i).hi
def gU (r:Row)(wi:List Nat):List Int:=r.weak.filter λp=> !(wi.any λi=>decide (Has (eU r i) p))
def a0v (r:Row)(W:List Int)(B:Nat->Bool):Option (List Int):=upL r.lots.length (loN r) (hiN r) (zOf r) (λj=>W.getD j 0) (λi=> !B i) W.length
def cV (r:Row)(wi:List Nat)(B:Nat->Bool):Int×Bool:=
  match a0v r (gU r wi) B with
  |some l=>(uW (zOf r) wi+l.getD (gU r wi).length 0,true)
  |none=>(uW (zOf r) wi,false)
theorem a5a {l:List Int}(h:l.Pairwise (· < ·)):∀a b,a<b->b<l.length->l.getD a 0<l.getD b 0:=by
 intro a b hab hb
 rw[List.pairwise_iff_getElem]at h
 rw[d9r,d9r,e0e hb,e0e (by omega)]
 exact h a b (by omega) hb hab
theorem zY {r:Row}(h:RowOk r)(wi:List Nat):(gU r wi).Pairwise (· < ·):=List.Pairwise.filter _ h.inc
theorem a6w {r:Row}(h:RowOk r){W:List Int}(hW:W.Pairwise (· < ·))(B:Nat->Bool):
  match a0v r W B with
  |some l=>UpOk r.lots.length (loN r) (hiN r) (zOf r) (λj=>W.getD j 0) (λi=> !B i) W.length l
  |none=>∀S:Nat->Bool,(∀i,S i=true->(!B i)=true)->¬Cov r.lots.length (loN r) (hiN r) (λj=>W.getD j 0) W.length S:=
 c1n (K:=W.length) (λi=>by have:=oC h i;omega) (a5a hW) W.length (e0g _)
theorem a1t {r:Row}{W:List Int}{S:Nat->Bool}:Cov r.lots.length (loN r) (hiN r) (λj=>W.getD j 0) W.length S↔∀p∈W,∃i,i<r.lots.length/\S i=true/\Has (eU r i) p:=by
 constructor
 ·intro h p hp
  obtain⟨j,hj,rfl⟩:=e3w hp
  have:=h j hj
  simp only[d9r,e0e hj]at this
  exact this
 ·intro h j hj
  refine h _ ?_
  show W.getD j 0∈W
  rw[d9r,e0e hj];exact e5s hj
theorem zF {r:Row}{wi:List Nat}{p:Int}:p∈gU r wi↔p∈r.weak/\∀i∈wi,¬Has (eU r i) p:=by
 unfold gU;rw[e6v];simp
theorem vX {l:List Nat}{i:Nat}:inL l i=true↔i∈l:=by simp[inL]
theorem c2s {r:Row}(h:RowOk r){wi:List Nat}(hn:wi.Nodup)(hl:∀i∈wi,i<r.lots.length){B:Nat->Bool}(hB:∀i∈wi,B i=false):
  ((cV r wi B).2=true->IsMin r (inL wi) B (cV r wi B).1)/\((cV r wi B).2=false->∀S:Nat->Bool,(∀i,inL wi i=true->S i=true)->(∀i,S i=true->B i=false)->¬E r S):=by
 have hu:=a6w h (zY h wi) B
 have hz:∀i,0<=zOf r i:=λi=>by have:=oC h i;omega
 have hs:=a6p (z:=zOf r) hn hl
 have key:∀S:Nat->Bool,E r S->∀p∈gU r wi,∃i,i<r.lots.length/\zH S (inL wi) i=true/\Has (eU r i) p:=by
  intro S hS p hp
  obtain⟨h1,h2⟩:=zF.1 hp
  obtain⟨i,a,b,c⟩:=hS p h1
  refine⟨i,a,?_,c⟩
  have:inL wi i=false:=by
   cases e:inL wi i with
   |false=>rfl
   |true=>exact absurd c (h2 i (vX.1 e))
  simp[zH,b,this]
 unfold cV
 cases hu2:a0v r (gU r wi) B with
 |none=>
  rw[hu2]at hu
  simp only at hu
  refine⟨λe=>(by cases e),λ_ S h1 h2 hE=>?_⟩
  refine hu (zH S (inL wi)) (λi hi=>?_) (a1t.2 (key S hE))
  have:S i=true:=by simp[zH]at hi;exact hi.1
  simp[h2 i this]
 |some l=>
  rw[hu2]at hu
  simp only at hu
  refine⟨λ_=>?_,λe=>(by cases e)⟩
  have low:∀S:Nat->Bool,(∀i,inL wi i=true->S i=true)->(∀i,S i=true->B i=false)->E r S->uW (zOf r) wi+l.getD (gU r wi).length 0<=d0u r S:=by
   intro S h1 h2 hE
   have:=hu.low _ (e0g _) (zH S (inL wi)) (λi hi=>by
    have:S i=true:=by simp[zH]at hi;exact hi.1
    simp[h2 i this]) (a1t.2 (key S hE))
   unfold d0u
   rw[a0q h1,hs]
   omega
  refine⟨?_,low⟩
  obtain⟨S,s1,s2,s3⟩:=hu.att _ (e0g _)
  have hE:E r (xH S (inL wi)):=by
   intro p hp
   by_cases hh:∃i∈wi,Has (eU r i) p
   ·obtain⟨i,hi,hp'⟩:=hh
    exact⟨i,hl i hi,by simp[xH,vX.2 hi],hp'⟩
   ·obtain⟨i,a,b,c⟩:=a1t.1 s2 p (zF.2 ⟨hp,λi hi hp'=>hh ⟨i,hi,hp'⟩⟩)
    exact⟨i,a,by simp[xH,b],c⟩
  have hA:∀i,inL wi i=true->xH S (inL wi) i=true:=λi hi=>by simp[xH,hi]
  have hBn:∀i,xH S (inL wi) i=true->B i=false/\i<r.lots.length:=λi hi=>by
   simp only[xH,e3d]at hi
   rcases hi with hi|hi
   ·have:=s1 i hi;simp at this;exact this
   ·exact⟨hB i (vX.1 hi),hl i (vX.1 hi)⟩
  refine⟨_,hA,hBn,hE,?_⟩
  have h1:=low _ hA (λi hi=>(hBn i hi).1) hE
  have h2:=a0r hz (S:=S) (A:=inL wi) r.lots.length
  unfold d0u at h1⊢
  simp only
  omega
def lst (n:Nat)(S:Nat->Bool):List Int:=((List.range n).filter S).map λi:Nat=>(i:Int)
theorem wK (n:Nat)(S:Nat->Bool):lst (n+1) S=lst n S++(if S n then [(n:Int)]else []):=by
 unfold lst
 rw[e4d,e4j,e1z]
 congr 1
 cases h:S n<;>simp[h]
theorem a2y {n:Nat}{S:Nat->Bool}{x:Int}:x∈lst n S↔∃i,i<n/\S i=true/\x=(i:Int):=by
 unfold lst
 simp only[e0l,e6v,e1e]
 constructor
 ·rintro⟨i,⟨h1,h2⟩,rfl⟩;exact⟨i,h1,h2,rfl⟩
 ·rintro⟨i,h1,h2,rfl⟩;exact⟨i,⟨h1,h2⟩,rfl⟩
def b1g (r:Row)(l:List Int):Prop:=∀p∈r.weak,∃i∈l,Has (eU r i.toNat) p
instance (r:Row)(l:List Int):Decidable (b1g r l):=by unfold b1g;exact inferInstance
theorem yE {r:Row}{S:Nat->Bool}:b1g r (lst r.lots.length S)↔E r S:=by
 constructor
 ·intro h p hp
  obtain⟨x,hx,hc⟩:=h p hp
  obtain⟨i,h1,h2,rfl⟩:=a2y.1 hx
  exact⟨i,h1,h2,by simpa using hc⟩
 ·intro h p hp
  obtain⟨i,h1,h2,h3⟩:=h p hp
  exact⟨i,a2y.2 ⟨i,h1,h2,rfl⟩,by simpa using h3⟩
def d2b (b:Nat):Nat->Bool:=λi=>decide (b/2^i %2=1)
def aQ (b n:Nat):List Int:=lst n (d2b b)
theorem b0k (n i:Nat)(h:i<n):d2b (2^n-1) i=true:=by
 unfold d2b
 have hp:0<2^i:=e7r i
 obtain⟨c,rfl⟩:∃c,n=i+1+c:=⟨n-(i+1),by omega⟩
 have hc:0<2^c:=e7r c
 have e:2^(i+1+c)-1=2^i*(2*2^c-1)+(2^i-1):=by
  rw[Nat.pow_add,Nat.pow_succ,Nat.mul_sub,Nat.mul_assoc]
  have h3:2^i<=2^i*(2*2^c):=Nat.le_mul_of_pos_right _ (by omega)
  omega
 rw[e,Nat.mul_add_div hp,Nat.div_eq_of_lt (by omega)]
 simp only[e2j,e4h]
 omega
def noB:Nat->Bool:=λ_=>false
def wQ (i:Nat):Nat->Bool:=λj=>decide (j=i)
def bX (r:Row):Int×Bool:=cV r [] noB
theorem yR {r:Row}(h:RowOk r):((bX r).2=true↔∃S,E r S)/\((bX r).2=true->IsMin r (inL []) noB (bX r).1):=by
 obtain⟨h1,h2⟩:=c2s h (wi:=[]) (B:=noB) e4k (λi hi=>by cases hi) (λi hi=>by cases hi)
 refine⟨⟨λe=>?_,λ⟨S,hS⟩=>?_⟩,h1⟩
 ·obtain⟨S,_,_,hE,_⟩:=(h1 e).att
  exact⟨S,hE⟩
 ·cases e:(bX r).2 with
  |true=>rfl
  |false=>exact absurd hS (h2 e S (λi hi=>by cases hi) (λi _=>rfl))
theorem b7u {r:Row}:b1g r (aQ (2^r.lots.length-1) r.lots.length)↔∃S,E r S:=by
 constructor
 ·intro h;exact⟨_,yE.1 h⟩
 ·rintro⟨S,hS⟩
  refine yE.2 λp hp=>?_
  obtain⟨i,h1,_,h3⟩:=hS p hp
  exact⟨i,h1,b0k _ _ h1,h3⟩
def woB (i:Nat)(out:List Nat):Nat->Bool:=λj=>decide (j<i)&& !out.contains j
def dA (r:Row)(opt:Int):Nat->List Nat
  |0=>[]
  |i+1=>if(cV r (dA r opt i++[i]) (woB i (dA r opt i))).2=true/\(cV r (dA r opt i++[i]) (woB i (dA r opt i))).1=opt then dA r opt i++[i]else dA r opt i
def a4o (r:Row)(opt:Int)(i:Nat):Int:=
  if(cV r [] (wQ i)).2=false\/opt<(cV r [] (wQ i)).1 then 2
  else if(cV r [i] noB).2=false\/opt<(cV r [i] noB).1 then 0 else 1
theorem b9x {r:Row}(h:RowOk r):∀a b,a<b->b<r.weak.length->r.weak.getD a 0<r.weak.getD b 0:=a5a h.inc
theorem hM:Tryz.prog.follows .mixedOrders=true:=Checked.mixed Tryz.checked
def a8k (l:Lot):DV:=st [int l.lo,int l.hi]
def gV (r:Row):DV:=st [int r.pots,fQ 2 a8k default r.lots,ints r.weak]
theorem aE {α:Type}{l:List α}{i:Nat}(h:i<l.length)(d:α):l.getD i d∈l:=by
 rw[d9r,e0e h];exact e5s h
theorem eB {α:Type}{l:List α}{i:Nat}(d:α)(h:i<l.length):l.drop i=l.getD i d::l.drop (i+1):=by
 rw[e5y h,d9r,e0e h];rfl
theorem bP {α:Type}(l:List α)(i:Nat)(d:α)(h:i<l.length):l.take (i+1)=l.take i++[l.getD i d]:=by
 rw[List.take_add_one,d9r,e0e h];rfl
def jP (l:List Int)(b:Int):Prop:=(∀x∈l,0<=x/\x<b)/\l.Pairwise (· < ·)
instance (l:List Int)(b:Int):Decidable (jP l b):=by unfold jP;exact inferInstance
def lY (r:Row)(l:Lot):Prop:=0<=l.lo/\l.lo<=l.hi/\l.hi<r.pots
instance (r:Row)(l:Lot):Decidable (lY r l):=by unfold lY;exact inferInstance
def bE (r:Row):Int:=
  if r.pots<1\/40<r.pots then 3 else if 10<r.lots.length\/12<r.weak.length then 6
  else if¬∀l∈r.lots,lY r l then 3 else if¬∀p∈r.weak,0<=p/\p<r.pots then 3
  else if jP r.weak r.pots then 0 else 16
theorem fD {r:Row}:bE r=0↔RowOk r:=by
 unfold bE
 constructor
 ·intro h
  split at h
  ·cases h
  split at h
  ·cases h
  split at h
  ·cases h
  rename_i h3
  split at h
  ·cases h
  split at h
  ·rename_i h5
   exact⟨by omega,by omega,by omega,by omega,e5z h3,h5.1,h5.2⟩
  ·cases h
 ·rintro⟨h1,h2,h3,h4,h5,h6,h7⟩
  rw[d9z (by omega),d9z (by omega),d9z (e4o (show∀l∈r.lots,lY r l from h5)),d9z (e4o h6),e0c ⟨h6,h7⟩]
def aY (r:Row):Int:=if bE r≠0 then bE r else if b1g r (aQ (2^r.lots.length-1) r.lots.length)then 0 else 22
theorem iT {r:Row}:aY r=0↔RowOk r/\∃S,E r S:=by
 unfold aY
 rw[<-fD,<-b7u]
 split
 ·rename_i h;exact⟨λe=>absurd e h,λe=>absurd e.1 h⟩
 ·rename_i h
  split
  ·rename_i h2;exact⟨λ_=>⟨e5z h,h2⟩,λ_=>rfl⟩
  ·rename_i h2;exact⟨λe=>by omega,λe=>absurd e.2 h2⟩
theorem a8l {r:Row}(h:RowOk r){i:Nat}(hi:i<r.lots.length):(-1000000<=(r.lots.getD i default).lo/\(r.lots.getD i default).lo<=1000000)/\ -1000000<=(r.lots.getD i default).hi/\(r.lots.getD i default).hi<=1000000:=by
 have:=h.lots _ (aE hi default)
 have:=h.p40
 omega
theorem a0p {z:Nat->Int}{S:Nat->Bool}{b:Int}(hb:0<=b):∀n,(∀i,i<n->0<=z i/\z i<=b)->0<=tot z S n/\tot z S n<=b*n
 |0,_=>by simp[tot]
 |n+1,h=>by
  have ih:=a0p (S:=S) hb n λi hi=>h i (by omega)
  have:=h n (by omega)
  have e:b*((n+1:Nat):Int)=b*n+b:=by rw[Int.natCast_add,Int.mul_add];simp
  rw[tot,e]
  split<;>omega
def xM (r:Row)(p:Int):Nat->Bool:=λi=>decide (Has (eU r i) p)
def lL (r:Row)(p:Int):List Int:=lst r.lots.length (xM r p)
def xF (r:Row)(a b:Int):Bool:=r.lots.any λl=>decide (Has l a)&&decide (Has l b)
def lI (r:Row)(l:List Int):Int:=
  if bE r≠0 then bE r else if¬jP l r.pots then 2 else if¬∀p∈l,p∈r.weak then 2
  else if l.Pairwise (λa b=>xF r a b=false)then 0 else 16
def tF (r:Row):Nat->List Int->List Int->List Int
  |0,_,best=>best
  |m+1,begun,best=>
    if lI r (begun++[r.weak.getD (r.weak.length-(m+1)) 0])=0 then
      tF r m begun (if best.length<(tF r m (begun++[r.weak.getD (r.weak.length-(m+1)) 0]) (begun++[r.weak.getD (r.weak.length-(m+1)) 0])).length then tF r m (begun++[r.weak.getD (r.weak.length-(m+1)) 0]) (begun++[r.weak.getD (r.weak.length-(m+1)) 0])else best)
    else tF r m begun best
def xS (r:Row):List Int×Int:=if bE r≠0 then([],bE r)else(tF r r.weak.length [] [],0)
def ixf {α:Type}(p:α->Bool)(l:List α):Int:=match l.findIdx? p with
  |some i=>i
  |none=> -1
theorem yP {α:Type}{p:α->Bool}{l:List α}{d:α}{i:Nat}(hi:i<l.length)(h:p (l.getD i d)=true)(hn:∀j,j<i->p (l.getD j d)=false):ixf p l=i:=by
 have:l.findIdx? p=some i:=by
  rw[List.findIdx?_eq_some_iff_getElem]
  refine⟨hi,?_,λj hj=>?_⟩
  ·rw[d9r,e0e hi]at h;exact h
  ·have:=hn j hj
   rw[d9r,e0e (by omega)]at this
   simpa using this
 unfold ixf
 rw[this]
theorem a5d {α:Type}{p:α->Bool}{l:List α}{d:α}(hn:∀j,j<l.length->p (l.getD j d)=false):ixf p l= -1:=by
 have:l.findIdx? p=none:=by
  rw[List.findIdx?_eq_none_iff]
  intro x hx
  obtain⟨j,hj,rfl⟩:=e3w hx
  have:=hn j hj
  rw[d9r,e0e hj]at this
  exact this
 unfold ixf
 rw[this]
theorem b2k {α:Type}(p:α->Bool)(l:List α):decide (0<=ixf p l)=l.any p:=by
 unfold ixf
 cases h:l.findIdx? p with
 |some i=>
  have:=(List.findIdx?_eq_some_iff_getElem.1 h)
  obtain⟨hi,hp,_⟩:=this
  rw[e5d.2 ⟨l[i],e5s hi,hp⟩]
  exact e1r (by simp)
 |none=>
  have:=List.findIdx?_eq_none_iff.1 h
  rw[List.any_eq_false.2 λx hx=>by simp[this x hx]]
  decide
theorem a2k (l:List Int)(g:Nat)(c:Nat->DV)(p:Int->Bool)(hl:l.length<1000000)(hp:∀x∈l,Fn Tryz.prog g [int x,c 0,c 1] (bool (p x))):Fn Tryz.prog 137 [fQ 1 int 0 l,.fn g 0 2 (λ_=> .top) c] (int (ixf p l)):=by
 refine e8b (D:=λr:Int=>int r) λr hr=>?_
 refine e1t (cuts:=[]) tys hM Tryz.func137 rfl Tryz.call137 rfl ?_
 show exC Tryz.prog T [] _ false none 0 (entry 19 [fQ 1 int 0 l,.fn g 0 2 (λ_=> .top) c]) (cH T [ResultVar.tmp 4] _)
 conv=>whnf
 repeat' first|(refine go ?_;conv=>whnf)|(refine go2 ?_ ?_<;>(try intro hc)<;>conv=>whnf)|fail
 refine e2x [0,1,7] 40 ?_
 (conv=>whnf)
 refine e3v 19 ({i:Int//0<=i/\i<=l.length/\∀j:Int,0<=j->j<i->p (l.getD j.toNat 0)=false}) 0 (λ⟨i,_⟩ nx=>([(8,.d (int i))],[])) (λp=>(l.length-p.1).toNat) (⟨0,by omega,by omega,λj _ _=>by omega⟩) ?_ ?_
 ·rintro⟨i,hi0,hi,hinv⟩
  have hpi:i<l.length->Fn Tryz.prog g [int (l.getD i.toNat 0),c 0,c 1] (bool (p (l.getD i.toNat 0))):=λh=>hp _ (aE (by omega) _)
  have hfound:i<l.length->p (l.getD i.toNat 0)=true->r=i:=λh hx=>by
   rw[<-hr.h]
   refine yP (d:=0) (i:=i.toNat) (by omega) hx (λj hj=>?_)|>.trans (by omega)
   have:=hinv j (by omega) (by omega)
   rwa[e1b]at this
  have hnone:¬i<l.length->r= -1:=λh=>by
   rw[<-hr.h]
   refine a5d (d:=0) λj hj=>?_
   have:=hinv j (by omega) (by omega)
   rwa[e1b]at this
  conv=>whnf
  repeat' first|((first|refine go ?_|refine gc (hpi (by omega)) ?_);conv=>whnf)|(refine go2 ?_ ?_<;>(try intro hc)<;>conv=>whnf)|fail
  ·have e:=hfound (by omega) hc
   exact Lf
  ·exact⟨rfl,⟨i+1,by omega,by omega,λj h1 h2=>if e:j=i then e▸hc else hinv j h1 (by omega)⟩,Lf,by simp only;omega⟩
  ·have e:=hnone (by omega)
   exact Lf
 ·exact Lf
theorem sZ (l:List Int)(g:Nat)(c:Nat->DV)(p:Int->Bool)(hl:l.length<1000000)(hp:∀x∈l,Fn Tryz.prog g [int x,c 0,c 1] (bool (p x))):Fn Tryz.prog 73 [fQ 1 int 0 l,.fn g 0 2 (λ_=> .top) c] (bool (l.any p)):=by
 have ha:=b2k p l
 have hx:=a2k l g c p hl hp
 generalize ixf p l=x at*
 rw[<-ha]
 refine e1t (cuts:=[]) tys hM Tryz.func73 rfl Tryz.call73 rfl ?_
 show exC Tryz.prog T [] _ false none 0 (entry 9 [fQ 1 int 0 l,.fn g 0 2 (λ_=> .top) c]) (cH T [ResultVar.tmp 4] _)
 conv=>whnf
 repeat' first|((first|refine go ?_|refine gc (hx) ?_);conv=>whnf)|(refine go2 ?_ ?_<;>(try intro hc)<;>conv=>whnf)|fail
 all_goals exact Lf
theorem a2l (l:List Lot)(g:Nat)(c:Nat->DV)(p:Lot->Bool)(hl:l.length<1000000)(hp:∀x∈l,Fn Tryz.prog g [a8k x,c 0] (bool (p x))):Fn Tryz.prog 151 [fQ 2 a8k default l,.fn g 0 1 (λ_=> .top) c] (int (ixf p l)):=by
 refine e8b (D:=λr:Int=>int r) λr hr=>?_
 refine e1t (cuts:=[]) tys hM Tryz.func151 rfl Tryz.call151 rfl ?_
 show exC Tryz.prog T [] _ false none 0 (entry 19 [fQ 2 a8k default l,.fn g 0 1 (λ_=> .top) c]) (cH T [ResultVar.tmp 4] _)
 conv=>whnf
 repeat' first|(refine go ?_;conv=>whnf)|(refine go2 ?_ ?_<;>(try intro hc)<;>conv=>whnf)|fail
 refine e2x [0,1,7] 40 ?_
 (conv=>whnf)
 refine e3v 19 ({i:Int//0<=i/\i<=l.length/\∀j:Int,0<=j->j<i->p (l.getD j.toNat default)=false}) 0 (λ⟨i,_⟩ nx=>([(8,.d (int i))],[])) (λp=>(l.length-p.1).toNat) (⟨0,by omega,by omega,λj _ _=>by omega⟩) ?_ ?_
 ·rintro⟨i,hi0,hi,hinv⟩
  have hpi:i<l.length->Fn Tryz.prog g [a8k (l.getD i.toNat default),c 0] (bool (p (l.getD i.toNat default))):=λh=>hp _ (aE (by omega) _)
  have hfound:i<l.length->p (l.getD i.toNat default)=true->r=i:=λh hx=>by
   rw[<-hr.h]
   refine yP (d:=default) (i:=i.toNat) (by omega) hx (λj hj=>?_)|>.trans (by omega)
   have:=hinv j (by omega) (by omega)
   rwa[e1b]at this
  have hnone:¬i<l.length->r= -1:=λh=>by
   rw[<-hr.h]
   refine a5d (d:=default) λj hj=>?_
   have:=hinv j (by omega) (by omega)
   rwa[e1b]at this
  conv=>whnf
  repeat' first|((first|refine go ?_|refine gc (hpi (by omega)) ?_);conv=>whnf)|(refine go2 ?_ ?_<;>(try intro hc)<;>conv=>whnf)|fail
  ·have e:=hfound (by omega) hc
   exact Lf
  ·exact⟨rfl,⟨i+1,by omega,by omega,λj h1 h2=>if e:j=i then e▸hc else hinv j h1 (by omega)⟩,Lf,by simp only;omega⟩
  ·have e:=hnone (by omega)
   exact Lf
 ·exact Lf
theorem tA (l:List Lot)(g:Nat)(c:Nat->DV)(p:Lot->Bool)(hl:l.length<1000000)(hp:∀x∈l,Fn Tryz.prog g [a8k x,c 0] (bool (p x))):Fn Tryz.prog 97 [fQ 2 a8k default l,.fn g 0 1 (λ_=> .top) c] (bool (l.any p)):=by
 have ha:=b2k p l
 have hx:=a2l l g c p hl hp
 generalize ixf p l=x at*
 rw[<-ha]
 refine e1t (cuts:=[]) tys hM Tryz.func97 rfl Tryz.call97 rfl ?_
 show exC Tryz.prog T [] _ false none 0 (entry 9 [fQ 2 a8k default l,.fn g 0 1 (λ_=> .top) c]) (cH T [ResultVar.tmp 4] _)
 conv=>whnf
 repeat' first|((first|refine go ?_|refine gc (hx) ?_);conv=>whnf)|(refine go2 ?_ ?_<;>(try intro hc)<;>conv=>whnf)|fail
 all_goals exact Lf
def gJ (x:Int):DV:= .pt (.ag 1 λ_=>int x) 0
def dG (r:Row):DV:= .pt (gV r) 0
def d7d:DV:= .v (.pointer none)
theorem a0w (x lo hi:Int):Fn Tryz.prog 138 [int x,gJ lo,gJ hi] (bool (!decide ((lo<=x/\x<=hi)))):=by
 refine e8b (D:=λr:Bool=>bool r) λr hr=>?_
 have e1:x<lo->r=true:=λh=>by rw[<-hr.h];simp;omega
 have e2:lo<=x->decide (hi<x)=r:=λh=>by rw[<-hr.h,<-decide_not];exact e5t.2 (by omega)
 refine e1t (cuts:=[]) tys hM Tryz.func138 rfl Tryz.call138 rfl ?_
 show exC Tryz.prog T [] _ false none 0 (entry 13 [int x,gJ lo,gJ hi]) (cH T [ResultVar.tmp 4] _)
 conv=>whnf
 repeat' first|(refine go ?_;conv=>whnf)|(refine go2 ?_ ?_<;>(try intro hc)<;>conv=>whnf)|fail
 all_goals first|(have e:=e1 (by omega);exact Lf)|(have e:=e2 (by omega);exact Lf)
theorem sN (lo hi:Int)(l:List Int)(hl:l.length<1000000):Fn Tryz.prog 75 [int lo,int hi,ints l] (bool (decide (∀x∈l,(lo<=x/\x<=hi)))):=by
 have hc:=sZ l 138 (λj=>[gJ lo,gJ hi].getD j .top) (λx=> !decide ((lo<=x/\x<=hi))) hl (λx _=>a0w x lo hi)
 have e:(decide (∀x∈l,(lo<=x/\x<=hi)))= !(l.any λx=> !decide ((lo<=x/\x<=hi))):=by
  rw[e2y]
  simp
 rw[e]
 generalize(l.any λx=> !decide ((lo<=x/\x<=hi)))=b at*
 refine e1t (cuts:=[]) tys hM Tryz.func75 rfl Tryz.call75 rfl ?_
 show exC Tryz.prog T [] _ false none 0 (entry 11 [int lo,int hi,ints l]) (cH T [ResultVar.tmp 6] _)
 conv=>whnf
 repeat' first|((first|refine go ?_|refine gc (hc) ?_);conv=>whnf)|(refine go2 ?_ ?_<;>(try intro hc)<;>conv=>whnf)|fail
 all_goals exact Lf
theorem b5o (lo hi:Int)(l:List Int)(q:Prop)[Decidable q](hl:l.length<1000000)(e:(∀x∈l,lo<=x/\x<=hi)↔q):Fn Tryz.prog 75 [int lo,int hi,ints l] (bool (decide q)):=by
 rw[<-e5t.2 e];exact sN lo hi l hl
theorem uY (lo hi x:Int):Fn Tryz.prog 75 [int lo,int hi,ints [x]] (bool (decide (lo<=x/\x<=hi))):=b5o lo hi [x] _ (by simp) (by simp)
def fO (nx b:Int):List Int->Prop
  |[]=>True
  |x::l=>(nx<=x/\x<=b-1)/\fO (x+1) b l
theorem lR:∀(l:List Int) (nx b:Int),fO nx b l↔(∀x∈l,nx<=x/\x<b)/\l.Pairwise (· < ·)
 |[],_,_=>by simp[fO]
 |x::l,nx,b=>by
  rw[fO,lR l,e3m,e6e]
  constructor
  ·rintro⟨h1,h2,h3⟩
   exact⟨⟨by omega,λy hy=>by have:=h2 y hy;omega⟩,λy hy=>by have:=(h2 y hy).1;omega,h3⟩
  ·rintro⟨⟨h1,h2⟩,h3,h4⟩
   exact⟨by omega,λy hy=>by have:=h2 y hy;have:=h3 y hy;omega,h4⟩
theorem a3l (l:List Int)(b:Int)(hl:l.length<1000000)(hb: -1000000<=b/\b<=1000000):Fn Tryz.prog 71 [ints l,int b] (bool (decide (jP l b))):=by
 refine e8b (D:=λr:Bool=>bool r) λc hr=>?_
 have h0:¬fO 0 b l->c=false:=λh=>by rw[<-hr.h];exact e1o λk=>h ((lR l 0 b).2 k)
 have h1:fO 0 b l->c=true:=λh=>by rw[<-hr.h];exact e1r ((lR l 0 b).1 h)
 have hw:=λnx x=>uY nx (b-1) x
 refine e1t (cuts:=[]) tys hM Tryz.func71 rfl Tryz.call71 rfl ?_
 show exC Tryz.prog T [] _ false none 0 (entry 24 [ints l,int b]) (cH T [ResultVar.tmp 4] _)
 conv=>whnf
 repeat' first|(refine go ?_;conv=>whnf)|(refine go2 ?_ ?_<;>(try intro hc)<;>conv=>whnf)|fail
 refine e2x [0,1,8,9] 40 ?_
 (conv=>whnf)
 refine e3v 24 ({q:Int×Int//(0<=q.1/\q.1<=l.length)/\(fO q.2 b (l.drop q.1.toNat)↔fO 0 b l)/\ -1000000<=q.2/\q.2<=1000001}) 0 (λ⟨(i,n),_⟩ nx=>([(10,.d (int i)),(5,.d (int n))],[])) (λp=>(l.length-p.1.1).toNat) (⟨(0,0),⟨by simp,by simp⟩,e6i,by simp,by simp⟩) ?_ ?_
 ·rintro⟨⟨i,n⟩,⟨i0,i1⟩,hinv,n0,n1⟩
  simp only at i0 i1 hinv n0 n1
  by_cases hil:i<l.length
  ·rw[eB 0 (show i.toNat<l.length by omega),fO,show i.toNat+1=(i+1).toNat by omega]at hinv
   have hw:=hw n (l.getD i.toNat 0)
   by_cases hx:n<=l.getD i.toNat 0/\l.getD i.toNat 0<=b-1
   ·rw[e1r hx]at hw
    have e:fO (l.getD i.toNat 0+1) b (l.drop (i+1).toNat)↔fO 0 b l:=⟨λh=>hinv.1 ⟨hx,h⟩,λh=>(hinv.2 h).2⟩
    conv=>whnf
    repeat' first|((first|refine go ?_|refine gc (hw) ?_);conv=>whnf)|(refine go2 ?_ ?_<;>(try intro hc)<;>conv=>whnf)|fail
    exact⟨rfl,⟨(i+1,l.getD i.toNat 0+1),⟨by simp only;omega,by simp only;omega⟩,e,by simp only;omega,by simp only;omega⟩,Lf,by simp only;omega⟩
   ·rw[e1o hx]at hw
    have e:=h0 λh=>hx (hinv.2 h).1
    conv=>whnf
    repeat' first|((first|refine go ?_|refine gc (hw) ?_);conv=>whnf)|(refine go2 ?_ ?_<;>(try intro hc)<;>conv=>whnf)|fail
    exact Lf
  ·rw[e3r (by omega)]at hinv
   have e:=h1 (hinv.1 trivial)
   conv=>whnf
   repeat' first|(refine go ?_;conv=>whnf)|(refine go2 ?_ ?_<;>(try intro hc)<;>conv=>whnf)|fail
   exact Lf
 ·exact Lf
theorem kR (r:Row)(l:Lot):Fn Tryz.prog 96 [a8k l,.pt (gV r) 0] (bool (!decide (lY r l))):=by
 refine e8b (D:=λr:Bool=>bool r) λc hr=>?_
 have e1:l.lo<0->c=true:=λh=>by rw[<-hr.h,e1o λhh=>by unfold lY at hh;omega];rfl
 have e2:¬l.lo<0->l.hi<l.lo->c=true:=λh h'=>by rw[<-hr.h,e1o λhh=>by unfold lY at hh;omega];rfl
 have e3:¬l.lo<0->¬l.hi<l.lo->decide (r.pots<=l.hi)=c:=λh h'=>by
  rw[<-hr.h,<-decide_not];exact e5t.2 (by unfold lY;omega)
 refine e1t (cuts:=[]) tys hM Tryz.func96 rfl Tryz.call96 rfl ?_
 show exC Tryz.prog T [] _ false none 0 (entry 21 [a8k l,.pt (gV r) 0]) (cH T [ResultVar.tmp 3] _)
 conv=>whnf
 repeat' first|(refine go ?_;conv=>whnf)|(refine go2 ?_ ?_<;>(try intro hc)<;>conv=>whnf)|fail
 all_goals first|(have e:=e1 (by omega);exact Lf)|(have e:=e2 (by omega) (by omega);exact Lf)|(have e:=e3 (by omega) (by omega);exact Lf)
theorem a3r (r:Row)(hl:r.lots.length<1000000):Fn Tryz.prog 97 [fQ 2 a8k default r.lots,.fn 96 0 1 (λ_=> .top) (λ_=> .pt (gV r) 0)] (bool (!decide (∀l∈r.lots,lY r l))):=by
 have hc:=tA r.lots 96 (λ_=> .pt (gV r) 0) (λh=> !decide (lY r h)) hl λx _=>kR r x
 have e:(r.lots.any λx=> !decide (lY r x))= !decide (∀h∈r.lots,lY r h):=by
  rw[e2y]
  simp
 rw[e]at hc
 exact hc
theorem kZ (r:Row)(hl:r.lots.length<1000000)(hw:r.weak.length<1000000):Fn Tryz.prog 51 [gV r] (int (bE r)):=by
 refine e8b (D:=λr:Int=>int r) λc hr=>?_
 have hc:=hr.h
 have w1:=uY 1 40 r.pots
 have w2:=a3r r hl
 have w3:=sN 0 (r.pots-1) r.weak hw
 have e3:(∀p∈r.weak,0<=p/\p<=r.pots-1)↔∀p∈r.weak,0<=p/\p<r.pots:=⟨λh p hp=>by have:=h p hp;omega,λh p hp=>by have:=h p hp;omega⟩
 rw[e5t.2 e3]at w3
 by_cases h1:1<=r.pots/\r.pots<=40
 case neg=>
  have e:c=3:=by rw[<-hc];exact e0c (by omega)
  rw[e1o h1]at w1
  refine e1t (cuts:=[]) tys hM Tryz.func51 rfl Tryz.call51 rfl ?_
  show exC Tryz.prog T [] _ false none 0 (entry 43 [gV r]) (cH T [ResultVar.tmp 2] _)
  conv=>whnf
  repeat' first|((first|refine go ?_|refine gc (w1) ?_);conv=>whnf)|(refine go2 ?_ ?_<;>(try intro hc)<;>conv=>whnf)|fail
  all_goals exact Lf
 have w4:=a3l r.weak r.pots hw ⟨by omega,by omega⟩
 rw[e1r h1]at w1
 by_cases h2:10<(r.lots.length:Int)\/12<(r.weak.length:Int)
 ·have e:c=6:=by rw[<-hc];unfold bE;rw[d9z (by omega),e0c (by omega)]
  refine e1t (cuts:=[]) tys hM Tryz.func51 rfl Tryz.call51 rfl ?_
  show exC Tryz.prog T [] _ false none 0 (entry 43 [gV r]) (cH T [ResultVar.tmp 2] _)
  conv=>whnf
  repeat' first|((first|refine go ?_|refine gc (w1) ?_);conv=>whnf)|(refine go2 ?_ ?_<;>(try intro hc)<;>conv=>whnf)|fail
  all_goals exact Lf
 have k:c=if¬∀l∈r.lots,lY r l then 3 else if¬∀p∈r.weak,0<=p/\p<r.pots then 3 else if jP r.weak r.pots then 0 else 16:=by rw[<-hc];unfold bE;rw[d9z (by omega),d9z (by omega)]
 by_cases h3:∀l∈r.lots,lY r l
 case neg=>
  rw[e0c h3]at k
  rw[e1o h3]at w2
  refine e1t (cuts:=[]) tys hM Tryz.func51 rfl Tryz.call51 rfl ?_
  show exC Tryz.prog T [] _ false none 0 (entry 43 [gV r]) (cH T [ResultVar.tmp 2] _)
  conv=>whnf
  repeat' first|((first|refine go ?_|(apply Cl.go;(conv=>whnf);first|refine e2m (w1) ?_|refine e2m (w2) ?_));conv=>whnf)|(refine go2 ?_ ?_<;>(try intro hc)<;>conv=>whnf)|fail
  all_goals exact Lf
 rw[d9z (e4o h3)]at k
 rw[e1r h3]at w2
 by_cases h4:∀p∈r.weak,0<=p/\p<r.pots
 case neg=>
  rw[e0c h4]at k
  rw[e1o h4]at w3
  refine e1t (cuts:=[]) tys hM Tryz.func51 rfl Tryz.call51 rfl ?_
  show exC Tryz.prog T [] _ false none 0 (entry 43 [gV r]) (cH T [ResultVar.tmp 2] _)
  conv=>whnf
  repeat' first|((first|refine go ?_|(apply Cl.go;(conv=>whnf);first|refine e2m (w1) ?_|refine e2m (w2) ?_|refine e2m (w3) ?_));conv=>whnf)|(refine go2 ?_ ?_<;>(try intro hc)<;>conv=>whnf)|fail
  all_goals exact Lf
 rw[d9z (e4o h4)]at k
 rw[e1r h4]at w3
 by_cases h5:jP r.weak r.pots
 ·rw[e0c h5]at k
  rw[e1r h5]at w4
  refine e1t (cuts:=[]) tys hM Tryz.func51 rfl Tryz.call51 rfl ?_
  show exC Tryz.prog T [] _ false none 0 (entry 43 [gV r]) (cH T [ResultVar.tmp 2] _)
  conv=>whnf
  repeat' first|((first|refine go ?_|(apply Cl.go;(conv=>whnf);first|refine e2m (w1) ?_|refine e2m (w2) ?_|refine e2m (w3) ?_|refine e2m (w4) ?_));conv=>whnf)|(refine go2 ?_ ?_<;>(try intro hc)<;>conv=>whnf)|fail
  all_goals exact Lf
 ·rw[d9z h5]at k
  rw[e1o h5]at w4
  refine e1t (cuts:=[]) tys hM Tryz.func51 rfl Tryz.call51 rfl ?_
  show exC Tryz.prog T [] _ false none 0 (entry 43 [gV r]) (cH T [ResultVar.tmp 2] _)
  conv=>whnf
  repeat' first|((first|refine go ?_|(apply Cl.go;(conv=>whnf);first|refine e2m (w1) ?_|refine e2m (w2) ?_|refine e2m (w3) ?_|refine e2m (w4) ?_));conv=>whnf)|(refine go2 ?_ ?_<;>(try intro hc)<;>conv=>whnf)|fail
  all_goals exact Lf
theorem pZ (r:Row)(i p:Int)(hi:0<=i/\i<r.lots.length):Fn Tryz.prog 49 [dG r,int i,int p] (bool (decide (Has (eU r i.toNat) p))):=by
 refine e8b (D:=λr:Bool=>bool r) λc hr=>?_
 have e1:(eU r i.toNat).lo<=p->decide (p<=(eU r i.toNat).hi)=c:=λa=>by rw[<-hr.h];exact e5t.2 ⟨λh=>⟨a,h⟩,λh=>h.2⟩
 have e2:¬(eU r i.toNat).lo<=p->c=false:=λa=>by rw[<-hr.h];exact e1o λh=>a h.1
 unfold eU at e1 e2
 refine e1t (cuts:=[]) tys hM Tryz.func49 rfl Tryz.call49 rfl ?_
 show exC Tryz.prog T [] _ false none 0 (entry 26 [dG r,int i,int p]) (cH T [ResultVar.tmp 6] _)
 conv=>whnf
 repeat' first|(refine go ?_;conv=>whnf)|(refine go2 ?_ ?_<;>(try intro hc)<;>conv=>whnf)|fail
 all_goals first|(have e:=e1 (by omega);exact Lf)|(have e:=e2 (by omega);exact Lf)
theorem a0e (r:Row)(i:Int)(hr:RowOk r)(hi:0<=i/\i<r.lots.length):Fn Tryz.prog 48 [dG r,int i] (int (zOf r i.toNat)):=by
 obtain⟨⟨_,_⟩,_,_⟩:=a8l hr (i:=i.toNat) (by omega)
 have e:zOf r i.toNat=(r.lots.getD i.toNat default).hi-(r.lots.getD i.toNat default).lo+1:=rfl
 rw[e]
 refine e1t (cuts:=[]) tys hM Tryz.func48 rfl Tryz.call48 rfl ?_
 show exC Tryz.prog T [] _ false none 0 (entry 25 [dG r,int i]) (cH T [ResultVar.tmp 4] _)
 conv=>whnf
 repeat' first|(refine go ?_;conv=>whnf)|(refine go2 ?_ ?_<;>(try intro hc)<;>conv=>whnf)|fail
 all_goals exact Lf
theorem a3c (r:Row)(h1:r.lots.length<1000000)(h2:r.weak.length<1000000)(hr:bE r=0):Fn Tryz.prog 21 [gV r] (tpl [dG r,int 0]):=by
 have hc:=kZ r h1 h2
 rw[hr]at hc
 refine e1t (cuts:=[]) tys hM Tryz.func21 rfl Tryz.call21 rfl ?_
 show exC Tryz.prog T [] _ false none 0 (entry 13 [gV r]) (cH T [ResultVar.tmp 2,ResultVar.tmp 3] _)
 conv=>whnf
 repeat' first|((first|refine go ?_|refine gc (hc) ?_);conv=>whnf)|(refine go2 ?_ ?_<;>(try intro hc)<;>conv=>whnf)|fail
 all_goals exact Lf
theorem a5t (r:Row)(h1:r.lots.length<1000000)(h2:r.weak.length<1000000)(hr:bE r≠0):Fn Tryz.prog 21 [gV r] (tpl [d7d,int (bE r)]):=by
 have hc:=kZ r h1 h2
 generalize bE r=c at*
 refine e1t (cuts:=[]) tys hM Tryz.func21 rfl Tryz.call21 rfl ?_
 show exC Tryz.prog T [] _ false none 0 (entry 13 [gV r]) (cH T [ResultVar.tmp 2,ResultVar.tmp 3] _)
 conv=>whnf
 repeat' first|((first|refine go ?_|refine gc (hc) ?_);conv=>whnf)|(refine go2 ?_ ?_<;>(try intro hc)<;>conv=>whnf)|fail
 all_goals exact Lf
theorem a8m {S:Nat->Bool}{a b:Nat}(h:a<=b):∃t,lst b S=lst a S++t:=by
 induction b with
 |zero=>have:a=0:=by omega
        subst this;exact⟨[],by simp⟩
 |succ b ih=>
  by_cases e:a=b+1
  ·subst e;exact⟨[],by simp⟩
  ·obtain⟨t,ht⟩:=ih (by omega)
   exact⟨t++(if S b then [(b:Int)]else []),by rw[wK,ht,e6g]⟩
theorem c8f {S:Nat->Bool}{i n:Nat}(hi:i<n)(hs:S i=true):(lst i S).length<(lst n S).length/\(lst n S).getD (lst i S).length 0=i:=by
 obtain⟨t,ht⟩:=a8m (S:=S) (show i+1<=n by omega)
 rw[wK,hs,e0c rfl]at ht
 rw[ht]
 refine⟨by simp,?_⟩
 rw[e6g,d9r,e1m (e0g _)]
 simp
def c7w (r:Row)(p:Int):List DV:=[.pt (.ag 1 λ_=>dG r) 0,gJ p]
def d8l (r:Row)(p:Int):DV:= .fn 98 0 2 (λ_=> .top) (λj=>(c7w r p).getD j .top)
theorem rH (r:Row)(p:Int):Fn Tryz.prog 52 [dG r,int p] (d8l r p):=by
 refine e1t (cuts:=[]) tys hM Tryz.func52 rfl Tryz.call52 rfl ?_
 show exC Tryz.prog T [] _ false none 0 (entry 6 [dG r,int p]) (cH T [ResultVar.tmp 4] _)
 conv=>whnf
 repeat' first|(refine go ?_;conv=>whnf)|(refine go2 ?_ ?_<;>(try intro hc)<;>conv=>whnf)|fail
 all_goals exact Lf
theorem oL (r:Row)(p:Int)(hl:r.lots.length<1000000)(L:List Int)(hL:L=lL r p):
  Seq Tryz.prog 98 [] (c7w r p) L.length (λk=>[int (L.getD k 0)]):=by
 have hH:=λi hi=>pZ r i p hi
 have hat:∀i:Int,0<=i->i<r.lots.length->Has (eU r i.toNat) p->(lst i.toNat (xM r p)).length<L.length/\L.getD (lst i.toNat (xM r p)).length 0=i:=λi i0 i1 h=>by
  have:=c8f (S:=xM r p) (i:=i.toNat) (n:=r.lots.length) (by omega) (e1r h)
  rw[hL]
  refine⟨this.1,?_⟩
  show(lst r.lots.length (xM r p)).getD _ 0=i
  rw[this.2];omega
 have hnx:∀i:Int,0<=i->(lst (i+1).toNat (xM r p)).length=(lst i.toNat (xM r p)).length+if Has (eU r i.toNat) p then 1 else 0:=λi i0=>by
  rw[show(i+1).toNat=i.toNat+1 by omega,wK,e1f]
  congr 1
  by_cases h:Has (eU r i.toNat) p
  ·rw[e0c h,e0c (show xM r p i.toNat=true from e1r h)];rfl
  ·rw[d9z h,d9z (show¬xM r p i.toNat=true fromλe=>h (e2u e))];rfl
 have hend:∀i:Int,0<=i->i<=r.lots.length->¬i<r.lots.length->(lst i.toNat (xM r p)).length=L.length:=λi i0 i1 h=>by
  rw[hL,show i.toNat=r.lots.length by omega];rfl
 generalize hc:(λi=>(lst i (xM r p)).length)=cnt
 have hc':∀i,(lst i (xM r p)).length=cnt i:=λi=>by rw[<-hc]
 simp only[hc']at hat hnx hend
 have hc0:cnt 0=0:=by rw[<-hc];rfl
 clear hc hc' hL
 refine Seq.of_ex (cuts:=[]) tys hM Tryz.func98 rfl Tryz.call98 rfl rfl λly=>?_
 show exC Tryz.prog T [] _ false (some ⟨ly,_,_⟩) 0 (entry 25 ([]++[.v (.func (.yield ly) #[] #[])]++c7w r p)) (d2t _)
 conv=>whnf
 repeat' first|(refine go ?_;conv=>whnf)|(refine go2 ?_ ?_<;>(try intro hc)<;>conv=>whnf)|fail
 refine Lp.go 25 {i:Int//0<=i/\i<=r.lots.length} (λ⟨i,_⟩=>⟨0,[(0,.d (.v (.func (.yield ly) #[] #[]))),(1,.d ((c7w r p).getD 0 .top)),(2,.d ((c7w r p).getD 1 .top)),(10,.d (int r.lots.length)),(11,.d (int i))],[],some (cnt i.toNat)⟩) (λp=>(r.lots.length-p.1).toNat) ⟨0,by omega,by omega⟩ ?_ ?_ rfl (λ_=>rfl)
 ·rintro⟨i,i0,i1⟩
  by_cases hil:i<r.lots.length
  ·have hH:=hH i ⟨i0,hil⟩
   have hnx:=hnx i i0
   by_cases hh:Has (eU r i.toNat) p
   ·obtain⟨e1,e2⟩:=hat i i0 hil hh
    rw[e0c hh]at hnx
    rw[e1r hh]at hH
    conv=>whnf
    repeat' first|((first|refine go ?_|refine gc (hH) ?_);conv=>whnf)|(refine go2 ?_ ?_<;>(try intro hc)<;>conv=>whnf)|fail
    all_goals first|exact .inl rfl|exact⟨rfl,⟨i+1,by omega,by omega⟩,Lf,by simp only;omega⟩
   ·rw[d9z hh]at hnx
    rw[e1o hh]at hH
    conv=>whnf
    repeat' first|((first|refine go ?_|refine gc (hH) ?_);conv=>whnf)|(refine go2 ?_ ?_<;>(try intro hc)<;>conv=>whnf)|fail
    all_goals first|exact .inl rfl|exact⟨rfl,⟨i+1,by omega,by omega⟩,Lf,by simp only;omega⟩
  ·have e:=hend i i0 i1 hil
   conv=>whnf
   repeat' first|(refine go ?_;conv=>whnf)|(refine go2 ?_ ?_<;>(try intro hc)<;>conv=>whnf)|fail
   exact .inr (e2r some e)
 ·exact Lf
theorem a6s {r:Row}{a b:Int}:xF r a b=true↔∃i,i<r.lots.length/\Has (eU r i) a/\Has (eU r i) b:=by
 unfold xF
 rw[e5d]
 constructor
 ·rintro⟨l,hl,h⟩
  obtain⟨i,hi,rfl⟩:=e3w hl
  simp only[e0d,e4h]at h
  refine⟨i,hi,?_⟩
  unfold eU
  rw[d9r,e0e hi]
  exact h
 ·rintro⟨i,hi,h1,h2⟩
  exact⟨_,wI hi,by simp[h1,h2]⟩
theorem nU {r:Row}{a:Int}{x:Int}:x∈lL r a↔∃i,i<r.lots.length/\Has (eU r i) a/\x=(i:Int):=by
 unfold lL;rw[a2y]
 constructor
 ·rintro⟨i,h1,h2,rfl⟩;exact⟨i,h1,e2u h2,rfl⟩
 ·rintro⟨i,h1,h2,rfl⟩;exact⟨i,h1,e1r h2,rfl⟩
theorem xG (r:Row)(a b:Int)(hl:r.lots.length<1000000):Fn Tryz.prog 22 [dG r,int a,int b] (bool (xF r a b)):=by
 refine e8b (D:=λr:Bool=>bool r) λc hr=>?_
 have hh:=rH r a
 generalize hL:lL r a=L
 have hsq:=oL r a hl L hL.symm
 have hmem:∀k,k<L.length->0<=L.getD k 0/\L.getD k 0<r.lots.length:=λk hk=>by
  obtain⟨i,h1,_,h3⟩:=nU.1 (show L.getD k 0∈lL r a by rw[hL];exact aE hk 0)
  omega
 have hH:=λk hk=>pZ r (L.getD k 0) b (hmem k hk)
 have e1:∀k,k<L.length->Has (eU r (L.getD k 0).toNat) b->c=true:=λk hk h=>by
  rw[<-hr.h]
  obtain⟨i,h1,h2,h3⟩:=nU.1 (show L.getD k 0∈lL r a by rw[hL];exact aE hk 0)
  refine a6s.2 ⟨i,h1,h2,?_⟩
  rw[h3]at h
  simpa using h
 have e2:(∀k,k<L.length->¬Has (eU r (L.getD k 0).toNat) b)->c=false:=λh=>by
  rw[<-hr.h]
  cases e:xF r a b with
  |false=>rfl
  |true=>
   obtain⟨i,h1,h2,h3⟩:=a6s.1 e
   have hi:(i:Int)∈L:=hL▸nU.2 ⟨i,h1,h2,rfl⟩
   obtain⟨k,hk,hk'⟩:=e3w hi
   refine absurd h3 ?_
   have:=h k hk
   rw[d9r,e0e hk,e2v,hk']at this
   simpa using this
 refine e1t (cuts:=[]) tys hM Tryz.func22 rfl Tryz.call22 rfl ?_
 show exC Tryz.prog T [] _ false none 0 (entry 16 [dG r,int a,int b]) (cH T [ResultVar.cell 6 4] _)
 conv=>whnf
 repeat' first|((first|refine go ?_|refine gc (hh) ?_);conv=>whnf)|(refine go2 ?_ ?_<;>(try intro hc)<;>conv=>whnf)|fail
 refine Rg.snap [0,1,2,3,5,6,7,11,12,13,14] 40 ?_
 (conv=>whnf)
 refine RgB.go 16 ({p:Nat//p<=L.length/\∀k,k<p->¬Has (eU r (L.getD k 0).toNat) b}) 0 (λ⟨k,_⟩ nx=>[]) (λp=>p.1) (⟨0,by omega,λk hk=>by omega⟩) hsq ?_ ?_ ?_
 ·rintro⟨k,hk,hkk⟩ j hj0 hj
  simp only at hj0
  subst hj0
  have hH:=hH k hj
  by_cases h:Has (eU r (L.getD k 0).toNat) b
  ·have e:=e1 k hj h
   rw[e1r h]at hH
   conv=>whnf
   repeat' first|((first|refine go ?_|refine gc (hH) ?_);conv=>whnf)|(refine go2 ?_ ?_<;>(try intro hc)<;>conv=>whnf)|fail
   refine Out.snap ?_
   conv=>whnf
   refine OutB.go ?_
   conv=>whnf
   repeat' first|(refine go ?_;conv=>whnf)|(refine go2 ?_ ?_<;>(try intro hc)<;>conv=>whnf)|fail
   exact Lf
  ·have e:∀k',k'<k+1->¬Has (eU r (L.getD k' 0).toNat) b:=λk' hk'=>by
    by_cases e:k'=k
    ·subst e;exact h
    ·exact hkk k' (by omega)
   rw[e1o h]at hH
   conv=>whnf
   repeat' first|((first|refine go ?_|refine gc (hH) ?_);conv=>whnf)|(refine go2 ?_ ?_<;>(try intro hc)<;>conv=>whnf)|fail
   exact⟨rfl,⟨k+1,by omega,e⟩,rfl,Lf⟩
 ·rintro⟨k,hk,hkk⟩ hk'
  simp only at hk'
  subst hk'
  have e:=e2 hkk
  conv=>whnf
  repeat' first|(refine go ?_;conv=>whnf)|(refine go2 ?_ ?_<;>(try intro hc)<;>conv=>whnf)|fail
  exact Lf
 ·exact Lf
def a5v (c:Int):Option Int->Option Int
  |none=>some c
  |some b=>if c<b then some c else some b
def fX (r:Row)(W:List Int)(B:Nat->Bool)(l:List Int)(k:Nat)(acc:Option Int)(i:Nat):Option Int:=
  if B i=true then acc else a5v (l.getD (fst (loN r) (hiN r) (λj=>W.getD j 0) i k) 0+zOf r i) acc
theorem oY (r:Row)(W:List Int)(B:Nat->Bool)(l:List Int)(k:Nat):∀n,((List.range n).filter (xM r (W.getD k 0))).foldl (fX r W B l k) none=pH (loN r) (hiN r) (zOf r) (λj=>W.getD j 0) (λi=> !B i) l k n
 |0=>rfl
 |n+1=>by
  have ih:=oY r W B l k n
  rw[e4d,e4j,e4v,ih,pH]
  by_cases h:Has (eU r n) (W.getD k 0)
  ·have hs:xM r (W.getD k 0) n=true:=e1r h
   rw[show [n].filter (xM r (W.getD k 0))=[n] by rw[e5u,e0c hs,List.filter_nil]]
   simp only[e5j,e7t]
   generalize pH (loN r) (hiN r) (zOf r) (λj=>W.getD j 0) (λi=> !B i) l k n=acc
   cases hB:B n with
   |true=>
    rw[d9z (by simp)]
    unfold fX
    rw[e0c hB]
   |false=>
    rw[e0c ⟨by simp,h⟩]
    unfold fX
    rw[d9z (by rw[hB];simp)]
    cases acc<;>rfl
  ·have hs:xM r (W.getD k 0) n=false:=e1o h
   rw[show [n].filter (xM r (W.getD k 0))=[] by rw[e5u,d9z (by rw[hs];simp),List.filter_nil],d9z λhh=>h hh.2,e7t]
end Go.Px.Tryz.Po
namespace Go.Px.Tryz
open Go Go.Proofs Go.Px
theorem a6e (i:Int)(h0:0<=i)(h1:i<=1000):Fn Tryz.prog 18 [.top,int i] (int (2+i)):=by
 refine e1t (cuts:=[]) tys hM Tryz.func18 rfl Tryz.call18 rfl ?_
 show exC Tryz.prog T [] _ false none 0 (entry 7 [.top,int i]) (cH T [ResultVar.tmp 4] _)
 conv=>whnf
 repeat' first|(refine go ?_;conv=>whnf)|(refine go2 ?_ ?_<;>(try intro hc)<;>conv=>whnf)|fail
 all_goals exact Lf
theorem a1s (R:List (Int×Int))(hR:R.length<=4)(k:Int)(h0:0<=k)(h1:k<=1000):Fn Tryz.prog 149 [.pt (.ag 5 λj=>match j with|0=>rgs R|_=> .top) 0,int k] (int (2+R.length+k)):=by
 refine e1t (cuts:=[]) tys hM Tryz.func149 rfl Tryz.call149 rfl ?_
 show exC Tryz.prog T [] _ false none 0 (entry 14 [.pt (.ag 5 λj=>match j with|0=>rgs R|_=> .top) 0,int k]) (cH T [ResultVar.tmp 4] _)
 conv=>whnf
 repeat' first|(refine go ?_;conv=>whnf)|(refine go2 ?_ ?_<;>(try intro hc)<;>conv=>whnf)|fail
 all_goals exact Lf
theorem uN (R C:List (Int×Int))(hR:R.length<=4)(hC:C.length<=4):Fn Tryz.prog 91 [.pt (.ag 5 λj=>match j with|0=>rgs R|1=>rgs C|_=> .top) 0] (int (2+R.length+C.length)):=by
 refine e1t (cuts:=[]) tys hM Tryz.func91 rfl Tryz.call91 rfl ?_
 show exC Tryz.prog T [] _ false none 0 (entry 17 [.pt (.ag 5 λj=>match j with|0=>rgs R|1=>rgs C|_=> .top) 0]) (cH T [ResultVar.tmp 2] _)
 conv=>whnf
 repeat' first|(refine go ?_;conv=>whnf)|(refine go2 ?_ ?_<;>(try intro hc)<;>conv=>whnf)|fail
 all_goals exact Lf
def d7c (R C:List (Int×Int))(Z:List (List (Int×Int)))(bm fm:List Int->Option Int):List Res:=
  [.mp true ⟨true,2,false⟩ fm,.cs true 5 (λj=>match j with|0=> .d (rgs R)|1=> .d (rgs C)|2=> .d (zZ Z)|3=> .mp 2|_=> .mp 0),.mp true ⟨true,2,true⟩ bm]
def pR (n m i:Int)(u v:Int):Prop:=(u=1/\v=0)\/(u=0/\2<=v/\v<2+i)\/(2<=u/\u<2+i/\2+n<=v/\v<2+n+m)
def pK (n m i k:Int)(u v:Int):Prop:=pR n m i u v\/(u=0/\v=2+i)\/(u=2+i/\2+n<=v/\v<2+n+k)
def pC (n m k:Int)(u v:Int):Prop:=pR n m n u v\/(2+n<=u/\u<2+n+k/\v=1)
theorem a3a (R C:List (Int×Int))(Z:List (List (Int×Int)))(h:TabOk R C Z):
  FnL Tryz.prog 89 [] [.d (jA R C Z)] 3 (λ_:Unit=>d7c R C Z (bM (tE R.length C.length) (tB R C Z)) λ_=>none) (λ_=> .ref 1 0):=by
 have hr1:=h.r1
 have hc1:=h.c1
 have hz0:=h.z0
 have hrow:=λ(i:Int) (h0:0<=i) (h1:i<R.length)=>a6e i h0 (by omega)
 have hcol:=λ(i:Int) (h0:0<=i) (h1:i<C.length)=>a1s R hr1 i h0 (by omega)
 refine e8a (cuts:=[]) tys hM Tryz.func89 rfl Tryz.call89 rfl rfl (λ_=>rfl) rfl (λ_=>rfl) ?_
 show exC Tryz.prog T [] _ false none 0 (lA 82 0 [.d (jA R C Z)] []) (b7o T 0 [ResultVar.tmp 2] _ _)
 conv=>whnf
 repeat' first|(refine go ?_;conv=>whnf)|(refine go2 ?_ ?_<;>(try intro hc)<;>conv=>whnf)|fail
 refine e2x [0,1,2,3,8,9,22,23,63,64,65,66,68,69,70,71,72,73,74,75,76,77,78,79,80,81] 40 ?_
 (conv=>whnf)
 refine e3v 82 ({i:Int//0<=i/\i<=R.length}) 0 (λ⟨i,_⟩ nx=>([(24,.d (int i))],[(3,.mp true ⟨true,2,true⟩ (bM (pR R.length C.length i) (tB R C Z)))])) (λp=>(R.length-p.1).toNat) (⟨0,by omega,by omega⟩) ?_ ?_
 ·rintro⟨i,i0,i1⟩
  by_cases hi:i<R.length
  ·have hri:=hrow i i0 hi
   have hzi:(Z.getD i.toNat []).length=C.length:=h.z1 _ (aE (by omega) [])
   have e1:eF (jV (bM (pR R.length C.length i) (tB R C Z)) [0,2+i] (cod (R.getD i.toNat (0,0)).1 (R.getD i.toNat (0,0)).2)) (bM (pK R.length C.length i 0) (tB R C Z)):=mD (λu v=>by unfold pK pR;omega) (by unfold tB;rw[d9z (by omega),e0c rfl,show(2+i-2).toNat=i.toNat by omega]) λ_ _ _ _=>rfl
   conv=>whnf
   repeat' first|((first|refine go ?_|refine gc (hri) ?_);conv=>whnf)|(refine go2 ?_ ?_<;>(try intro hc)<;>conv=>whnf)|fail
   refine e2x [0,1,2,3,4,5,8,9,22,23,24,26,27,28,29,30,31,32,33,34,35,36,37,38,39,40,41,42,43,62,63,64,65,66,68,69,70,71,72,73,74,75,76,77,78,79,80,81] 40 ?_
   (conv=>whnf)
   refine e3v 82 ({k:Int//0<=k/\k<=C.length}) 0 (λ⟨k,_⟩ nx=>([(44,.d (int k))],[(3,.mp true ⟨true,2,true⟩ (bM (pK R.length C.length i k) (tB R C Z)))])) (λp=>(C.length-p.1).toNat) (⟨0,by omega,by omega⟩) ?_ ?_
   ·rintro⟨k,k0,k1⟩
    by_cases hk:k<C.length
    ·have hck:=hcol k k0 hk
     have e3:eF (jV (bM (pK R.length C.length i k) (tB R C Z)) [2+i,2+R.length+k] (cod ((Z.getD i.toNat []).getD k.toNat (0,0)).1 ((Z.getD i.toNat []).getD k.toNat (0,0)).2)) (bM (pK R.length C.length i (k+1)) (tB R C Z)):=mD (λu v=>by unfold pK pR;omega) (by unfold tB;rw[d9z (by omega),d9z (by omega),e0c (by omega),show(2+i-2).toNat=i.toNat by omega,show(2+(R.length:Int)+k-2-R.length).toNat=k.toNat by omega]) λ_ _ _ _=>rfl
     conv=>whnf
     repeat' first|((first|refine go ?_|(apply Cl.go;(conv=>whnf);first|refine e2m (hri) ?_|refine e2m (hck) ?_));conv=>whnf)|(refine go2 ?_ ?_<;>(try intro hc)<;>conv=>whnf)|fail
     all_goals first|(exfalso;omega)|exact⟨rfl,⟨k+1,by omega,by omega⟩,Lf,by simp only;omega⟩
    ·have e4:eF (bM (pK R.length C.length i k) (tB R C Z)) (bM (pR R.length C.length (i+1)) (tB R C Z)):=mC (λu v=>by unfold pK pR;omega) λ_ _ _=>rfl
     conv=>whnf
     repeat' first|(refine go ?_;conv=>whnf)|(refine go2 ?_ ?_<;>(try intro hc)<;>conv=>whnf)|fail
     all_goals first|(exfalso;omega)|exact⟨rfl,⟨i+1,by omega,by omega⟩,Lf,by simp only;omega⟩
   ·exact Lf
  ·have e5:eF (bM (pR R.length C.length i) (tB R C Z)) (bM (pC R.length C.length 0) (tB R C Z)):=mC (λu v=>by unfold pC pR;omega) λ_ _ _=>rfl
   conv=>whnf
   repeat' first|(refine go ?_;conv=>whnf)|(refine go2 ?_ ?_<;>(try intro hc)<;>conv=>whnf)|fail
   all_goals try(exfalso;omega)
   refine e2x [0,2,3,64,65,81] 40 ?_
   (conv=>whnf)
   refine e3v 82 ({k:Int//0<=k/\k<=C.length}) 0 (λ⟨k,_⟩ nx=>([(66,.d (int k))],[(3,.mp true ⟨true,2,true⟩ (bM (pC R.length C.length k) (tB R C Z)))])) (λp=>(C.length-p.1).toNat) (⟨0,by omega,by omega⟩) ?_ ?_
   ·rintro⟨k,k0,k1⟩
    by_cases hk:k<C.length
    ·have hck:=hcol k k0 hk
     have e3:eF (jV (bM (pC R.length C.length k) (tB R C Z)) [2+R.length+k,1] (cod (C.getD k.toNat (0,0)).1 (C.getD k.toNat (0,0)).2)) (bM (pC R.length C.length (k+1)) (tB R C Z)):=mD (λu v=>by unfold pC pR;omega) (by unfold tB;rw[d9z (by omega),d9z (by omega),d9z (by omega),show(2+(R.length:Int)+k-2-R.length).toNat=k.toNat by omega]) λ_ _ _ _=>rfl
     conv=>whnf
     repeat' first|((first|refine go ?_|refine gc (hck) ?_);conv=>whnf)|(refine go2 ?_ ?_<;>(try intro hc)<;>conv=>whnf)|fail
     all_goals first|(exfalso;omega)|exact⟨rfl,⟨k+1,by omega,by omega⟩,Lf,by simp only;omega⟩
    ·have e4:eF (bM (pC R.length C.length k) (tB R C Z)) (bM (tE R.length C.length) (tB R C Z)):=mC (λu v=>by unfold pC pR tE;omega) λ_ _ _=>rfl
     conv=>whnf
     repeat' first|(refine go ?_;conv=>whnf)|(refine go2 ?_ ?_<;>(try intro hc)<;>conv=>whnf)|fail
     all_goals first|(exfalso;omega)|exact⟨(),Lf⟩
   ·exact Lf
 ·have e0:eF (jV (λ_=>none) [1,0] (cod 0 192)) (bM (pR R.length C.length 0) (tB R C Z)):=λk=>by
   unfold jV
   by_cases e:k=[1,0]
   ·rw[e0c e,e]
    unfold bM
    rw[gD (by unfold pR;omega)]
    unfold tB
    rw[e0c rfl]
   ·rw[d9z e]
    unfold bM fM
    split
    ·rename_i u v
     rw[d9z]
     intro hp
     have:u=1/\v=0:=by unfold pR at hp;omega
     exact e (by rw[this.1,this.2])
    ·rfl
  exact Lf
theorem lM (r:Int×Int)(x:Int)(h:pQ x r):Fn Tryz.prog 24 [rgD r,int x] (bool true):=by
 obtain⟨h1,h2,h3⟩:=h
 refine e1t (cuts:=[]) tys hM Tryz.func24 rfl Tryz.call24 rfl ?_
 show exC Tryz.prog T [] _ false none 0 (entry 21 [rgD r,int x]) (cH T [ResultVar.tmp 4] _)
 conv=>whnf
 repeat' first|(refine go ?_;conv=>whnf)|(refine go2 ?_ ?_<;>(try intro hc)<;>conv=>whnf)|fail
 all_goals first|exact Lf|(exfalso;omega)
theorem nP (r:Int×Int)(x:Int)(h:¬pQ x r):Fn Tryz.prog 24 [rgD r,int x] (bool false):=by
 unfold pQ at h
 by_cases h2:r.2<=x
 ·refine e1t (cuts:=[]) tys hM Tryz.func24 rfl Tryz.call24 rfl ?_
  show exC Tryz.prog T [] _ false none 0 (entry 21 [rgD r,int x]) (cH T [ResultVar.tmp 4] _)
  conv=>whnf
  repeat' first|(refine go ?_;conv=>whnf)|(refine go2 ?_ ?_<;>(try intro hc)<;>conv=>whnf)|fail
  all_goals first|(exfalso;omega)|exact Lf
 ·have e:=e1o h2
  refine e1t (cuts:=[]) tys hM Tryz.func24 rfl Tryz.call24 rfl ?_
  show exC Tryz.prog T [] _ false none 0 (entry 21 [rgD r,int x]) (cH T [ResultVar.tmp 4] _)
  conv=>whnf
  repeat' first|(refine go ?_;conv=>whnf)|(refine go2 ?_ ?_<;>(try intro hc)<;>conv=>whnf)|fail
  all_goals first|(exfalso;omega)|exact Lf
open Classical in
def ckT (R C:List (Int×Int))(Z:List (List (Int×Int))):Int:=
  if R.length<1\/4<R.length\/C.length<1\/4<C.length then 6
  else if Z.length≠R.length\/∃l∈Z,l.length≠C.length then 15
  else if(∀r∈R,pQ 48 r)/\(∀r∈C,pQ 48 r)/\∀l∈Z,∀r∈l,pQ 12 r then 0 else 3
theorem b0t {R C:List (Int×Int)}{Z:List (List (Int×Int))}:ckT R C Z=0↔TabOk R C Z:=by
 unfold ckT
 constructor
 ·intro h
  split at h
  ·cases h
  split at h
  ·cases h
  split at h
  ·rename_i h1 h2 h3
   exact⟨by omega,by omega,by omega,by omega,e3q λe=>h2 (.inl e),λl hl=>e3q λe=>h2 (.inr ⟨l,hl,e⟩),h3.1,h3.2.1,h3.2.2⟩
  ·cases h
 ·intro h
  have h1:=h.r0
  have h2:=h.r1
  have h3:=h.c0
  have h4:=h.c1
  rw[d9z (by omega),d9z,e0c ⟨h.rr,h.cc,h.zz⟩]
  rintro(e|⟨l,hl,e⟩)
  ·exact e h.z0
  ·exact e (h.z1 l hl)
theorem jY {α:Type}{l:List α}{d:α}{p:α->Prop}(h:∀j:Int,0<=j->j<l.length->p (l.getD j.toNat d)):∀x∈l,p x:=λx hx=>by
 obtain⟨j,hj,rfl⟩:=b8h (d:=d) hx
 have:=h j (by omega) (by omega)
 rwa[e1b]at this
theorem pB (R C:List (Int×Int))(Z:List (List (Int×Int)))(hR:R.length<=1000)(hC:C.length<=9223372036854775807)(hZ:Z.length<=1000)(hZl:∀l∈Z,l.length<=9223372036854775807):Fn Tryz.prog 12 [jA R C Z] (int (ckT R C Z)):=by
 refine e8b (D:=λr:Int=>int r) λc hr=>?_
 have hc:=hr.h
 by_cases h1:(R.length:Int)<1\/4<(R.length:Int)\/(C.length:Int)<1\/4<(C.length:Int)
 ·have e:c=6:=by rw[<-hc];unfold ckT;exact e0c (by omega)
  clear hc hr
  refine e1t (cuts:=[]) tys hM Tryz.func12 rfl Tryz.call12 rfl ?_
  show exC Tryz.prog T [] _ false none 0 (entry 86 [jA R C Z]) (cH T [ResultVar.tmp 2] _)
  conv=>whnf
  repeat' first|(refine go ?_;conv=>whnf)|(refine go2 ?_ ?_<;>(try intro hc)<;>conv=>whnf)|fail
  all_goals first|exact Lf|(exfalso;omega)
 by_cases h2:(Z.length:Int)≠R.length
 ·have e:c=15:=by rw[<-hc];unfold ckT;rw[d9z (by omega)];exact e0c (.inl (by omega))
  clear hc hr
  refine e1t (cuts:=[]) tys hM Tryz.func12 rfl Tryz.call12 rfl ?_
  show exC Tryz.prog T [] _ false none 0 (entry 86 [jA R C Z]) (cH T [ResultVar.tmp 2] _)
  conv=>whnf
  repeat' first|(refine go ?_;conv=>whnf)|(refine go2 ?_ ?_<;>(try intro hc)<;>conv=>whnf)|fail
  all_goals first|exact Lf|(exfalso;omega)
 have h2:(Z.length:Int)=R.length:=e3q h2
 have c3:∀i:Int,0<=i->i<R.length->((Z.getD i.toNat []).length:Int)≠C.length->c=15:=λi i0 i1 hb=>by
  rw[<-hc];unfold ckT;rw[d9z (by omega)];exact e0c (.inr ⟨_,aE (l:=Z) (i:=i.toNat) (by omega) [],by omega⟩)
 have c4:(∀i:Int,0<=i->i<R.length->((Z.getD i.toNat []).length:Int)=C.length)->((¬∀r∈R,pQ 48 r)\/(¬∀r∈C,pQ 48 r)\/¬∀l∈Z,∀r∈l,pQ 12 r)->c=3:=λhl hb=>by
  rw[<-hc];unfold ckT;rw[d9z (by omega),d9z,d9z]
  ·rintro⟨a1,a2,a3⟩;rcases hb with hb|hb|hb<;>exact hb (by assumption)
  ·rintro(e|⟨l,hm,e⟩)
   ·omega
   ·exact e (by
     have:=jY (l:=Z) (d:=[]) (p:=λl=>(l.length:Int)=C.length) (λj j0 j1=>hl j j0 (by omega)) l hm
     omega)
 have c5:(∀i:Int,0<=i->i<R.length->((Z.getD i.toNat []).length:Int)=C.length)->(∀i:Int,0<=i->i<R.length->pQ 48 (R.getD i.toNat (0,0))/\∀k:Int,0<=k->k<C.length->pQ 12 ((Z.getD i.toNat []).getD k.toNat (0,0)))->(∀k:Int,0<=k->k<C.length->pQ 48 (C.getD k.toNat (0,0)))->c=0:=λhl h3 h4=>by
  rw[<-hc]
  refine b0t.2 ⟨by omega,by omega,by omega,by omega,by omega,λl hm=>?_,jY (d:=(0,0)) λj j0 j1=>(h3 j j0 j1).1,jY (d:=(0,0)) λj j0 j1=>h4 j j0 j1,jY (d:=[]) λj j0 j1=>jY (d:=(0,0)) λk k0 k1=>(h3 j j0 (by omega)).2 k k0 (by have:=hl j j0 (by omega);omega)⟩
  have:=jY (l:=Z) (d:=[]) (p:=λl=>(l.length:Int)=C.length) (λj j0 j1=>hl j j0 (by omega)) l hm
  omega
 have hzl:∀i:Int,0<=i->i<R.length->((Z.getD i.toNat []).length:Int)<=9223372036854775807:=λi i0 i1=>by have:=hZl _ (aE (l:=Z) (i:=i.toNat) (by omega) []);omega
 clear hc hr
 refine e1t (cuts:=[]) tys hM Tryz.func12 rfl Tryz.call12 rfl ?_
 show exC Tryz.prog T [] _ false none 0 (entry 86 [jA R C Z]) (cH T [ResultVar.tmp 2] _)
 conv=>whnf
 repeat' first|(refine go ?_;conv=>whnf)|(refine go2 ?_ ?_<;>(try intro hc)<;>conv=>whnf)|fail
 all_goals try(exfalso;omega)
 refine e2x [0,1,3,4,6,7,8,47,48,50,51,52,53,54,55,56,57,59,60,62,63,64,65,66,67,68,69,70,71,72,74,75,77,78,79,80,81,82,83,84] 40 ?_
 (conv=>whnf)
 refine e3v 86 ({i:Int//(0<=i/\i<=R.length)/\∀j:Int,0<=j->j<i->((Z.getD j.toNat []).length:Int)=C.length}) 0 (λ⟨i,_⟩ nx=>([(5,.d (int i))],[])) (λp=>(R.length-p.1).toNat) (⟨0,⟨by omega,by omega⟩,λj _ _=>by omega⟩) ?_ ?_
 ·rintro⟨i,⟨i0,i1⟩,hinv⟩
  by_cases hi:i<R.length
  ·have c3:=c3 i i0 hi
   have hzi:=hzl i i0 hi
   by_cases hb:((Z.getD i.toNat []).length:Int)=C.length
   ·conv=>whnf
    repeat' first|(refine go ?_;conv=>whnf)|(refine go2 ?_ ?_<;>(try intro hc)<;>conv=>whnf)|fail
    all_goals first|(exfalso;omega)|exact⟨rfl,⟨i+1,⟨by omega,by omega⟩,λj a b=>if e:j=i then(by subst e;exact hb)else hinv j a (by omega)⟩,Lf,by simp only;omega⟩
   ·have e:=c3 hb
    conv=>whnf
    repeat' first|(refine go ?_;conv=>whnf)|(refine go2 ?_ ?_<;>(try intro hc)<;>conv=>whnf)|fail
    all_goals first|(exfalso;omega)|exact Lf
  ·have hl:∀j:Int,0<=j->j<R.length->((Z.getD j.toNat []).length:Int)=C.length:=λj a b=>hinv j a (by omega)
   have c4:=c4 hl
   have c5:=c5 hl
   clear c3
   conv=>whnf
   repeat' first|(refine go ?_;conv=>whnf)|(refine go2 ?_ ?_<;>(try intro hc)<;>conv=>whnf)|fail
   all_goals try(exfalso;omega)
   refine e2x [0,1,3,4,8,74,75,77,78,79,80,81,82,83,84] 40 ?_
   (conv=>whnf)
   refine e3v 86 ({i:Int//(0<=i/\i<=R.length)/\∀j:Int,0<=j->j<i->pQ 48 (R.getD j.toNat (0,0))/\∀k:Int,0<=k->k<C.length->pQ 12 ((Z.getD j.toNat []).getD k.toNat (0,0))}) 0 (λ⟨i,_⟩ nx=>([(6,.d (int i))],[])) (λp=>(R.length-p.1).toNat) (⟨0,⟨by omega,by omega⟩,λj _ _=>by omega⟩) ?_ ?_
   ·rintro⟨i,⟨i0,i1⟩,hinv⟩
    by_cases hi:i<R.length
    ·have hli:=hl i i0 hi
     by_cases hb:pQ 48 (R.getD i.toNat (0,0))
     ·have f:=lM _ _ hb
      conv=>whnf
      repeat' first|((first|refine go ?_|refine gc (f) ?_);conv=>whnf)|(refine go2 ?_ ?_<;>(try intro hc)<;>conv=>whnf)|fail
      refine e2x [0,1,3,4,6,8,47,48,50,51,52,53,54,55,56,57,74,75,77,78,79,80,81,82,83,84] 40 ?_
      (conv=>whnf)
      refine e3v 86 ({k:Int//(0<=k/\k<=C.length)/\∀j:Int,0<=j->j<k->pQ 12 ((Z.getD i.toNat []).getD j.toNat (0,0))}) 0 (λ⟨k,_⟩ nx=>([(7,.d (int k))],[])) (λp=>(C.length-p.1).toNat) (⟨0,⟨by omega,by omega⟩,λj _ _=>by omega⟩) ?_ ?_
      ·rintro⟨k,⟨k0,k1⟩,hk⟩
       by_cases hkm:k<C.length
       ·by_cases hb2:pQ 12 ((Z.getD i.toNat []).getD k.toNat (0,0))
        ·have f2:=lM _ _ hb2
         conv=>whnf
         repeat' first|((first|refine go ?_|refine gc (f2) ?_);conv=>whnf)|(refine go2 ?_ ?_<;>(try intro hc)<;>conv=>whnf)|fail
         all_goals first|(exfalso;omega)|exact⟨rfl,⟨k+1,⟨by omega,by omega⟩,λj a b=>if e:j=k then(by subst e;exact hb2)else hk j a (by omega)⟩,Lf,by simp only;omega⟩
        ·have f2:=nP _ _ hb2
         have e:=c4 (.inr (.inr λh=>hb2 (h _ (aE (by omega) []) _ (aE (by omega) (0,0)))))
         conv=>whnf
         repeat' first|((first|refine go ?_|refine gc (f2) ?_);conv=>whnf)|(refine go2 ?_ ?_<;>(try intro hc)<;>conv=>whnf)|fail
         all_goals first|(exfalso;omega)|exact Lf
       ·conv=>whnf
        repeat' first|(refine go ?_;conv=>whnf)|(refine go2 ?_ ?_<;>(try intro hc)<;>conv=>whnf)|fail
        all_goals first|(exfalso;omega)|exact⟨rfl,⟨i+1,⟨by omega,by omega⟩,λj a b=>if e:j=i then(by subst e;exact⟨hb,λq q0 q1=>hk q q0 (by omega)⟩)else hinv j a (by omega)⟩,Lf,by simp only;omega⟩
      ·exact Lf
     ·have f:=nP _ _ hb
      have e:=c4 (.inl λh=>hb (h _ (aE (by omega) (0,0))))
      conv=>whnf
      repeat' first|((first|refine go ?_|refine gc (f) ?_);conv=>whnf)|(refine go2 ?_ ?_<;>(try intro hc)<;>conv=>whnf)|fail
      all_goals first|(exfalso;omega)|exact Lf
    ·have c5:=c5 λj a b=>hinv j a (by omega)
     conv=>whnf
     repeat' first|(refine go ?_;conv=>whnf)|(refine go2 ?_ ?_<;>(try intro hc)<;>conv=>whnf)|fail
     all_goals try(exfalso;omega)
     refine e2x [0,1,4] 40 ?_
     (conv=>whnf)
     refine e3v 86 ({k:Int//(0<=k/\k<=C.length)/\∀j:Int,0<=j->j<k->pQ 48 (C.getD j.toNat (0,0))}) 0 (λ⟨k,_⟩ nx=>([(8,.d (int k))],[])) (λp=>(C.length-p.1).toNat) (⟨0,⟨by omega,by omega⟩,λj _ _=>by omega⟩) ?_ ?_
     ·rintro⟨k,⟨k0,k1⟩,hk⟩
      by_cases hkm:k<C.length
      ·by_cases hb2:pQ 48 (C.getD k.toNat (0,0))
       ·have f2:=lM _ _ hb2
        conv=>whnf
        repeat' first|((first|refine go ?_|refine gc (f2) ?_);conv=>whnf)|(refine go2 ?_ ?_<;>(try intro hc)<;>conv=>whnf)|fail
        all_goals first|(exfalso;omega)|exact⟨rfl,⟨k+1,⟨by omega,by omega⟩,λj a b=>if e:j=k then(by subst e;exact hb2)else hk j a (by omega)⟩,Lf,by simp only;omega⟩
       ·have f2:=nP _ _ hb2
        have e:=c4 (.inr (.inl λh=>hb2 (h _ (aE (by omega) (0,0)))))
        conv=>whnf
        repeat' first|((first|refine go ?_|refine gc (f2) ?_);conv=>whnf)|(refine go2 ?_ ?_<;>(try intro hc)<;>conv=>whnf)|fail
        all_goals first|(exfalso;omega)|exact Lf
      ·have e:=c5 λj a b=>hk j a (by omega)
       conv=>whnf
       repeat' first|(refine go ?_;conv=>whnf)|(refine go2 ?_ ?_<;>(try intro hc)<;>conv=>whnf)|fail
       all_goals first|(exfalso;omega)|exact Lf
     ·exact Lf
   ·exact Lf
 ·exact Lf
theorem gW {α:Type}{enc:α->DV}{d:α}{x:α}{f g:Nat->DV}(h:dI (g 0) (enc x)):∀j,j<[x].length->dI (apd 0 f g j) (bG enc d [x] j):=by
 intro j hj
 have:j=0:=by simpa using hj
 subst this
 exact h
def tnC (Z:List (List (Int×Int)))(k n:Nat):List (Int×Int):=(List.range n).map λi=>(Z.getD i []).getD k (0,0)
def tnZ (Z:List (List (Int×Int)))(n k:Nat):List (List (Int×Int)):=(List.range k).map λk=>tnC Z k n
theorem a6r (Z:List (List (Int×Int)))(k n:Nat):tnC Z k (n+1)=tnC Z k n++[(Z.getD n []).getD k (0,0)]:=by unfold tnC;rw[e4d,e1z];rfl
theorem b9s (Z:List (List (Int×Int)))(n k:Nat):tnZ Z n (k+1)=tnZ Z n k++[tnC Z k n]:=by unfold tnZ;rw[e4d,e1z];rfl
theorem b5e (Z:List (List (Int×Int)))(k n:Nat):(tnC Z k n).length=n:=by unfold tnC;simp
theorem xE (Z:List (List (Int×Int)))(n k:Nat):(tnZ Z n k).length=k:=by unfold tnZ;simp
theorem cA {α:Type}(f:Nat->α){n i:Nat}(h:i<n)(d:α):((List.range n).map f).getD i d=f i:=by
 rw[d9r,e0j,e3p h];rfl
theorem d5g (Z:List (List (Int×Int))){n m i k:Nat}(hi:i<n)(hk:k<m):((tnZ Z n m).getD k []).getD i (0,0)=(Z.getD i []).getD k (0,0):=by
 unfold tnZ;rw[cA _ hk];unfold tnC;rw[cA _ hi]
theorem d5h {R C:List (Int×Int)}{Z:List (List (Int×Int))}(h:TabOk R C Z):TabOk C R (tnZ Z R.length C.length):=by
 refine⟨h.c0,h.c1,h.r0,h.r1,xE _ _ _,λl hl=>?_,h.cc,h.rr,λl hl r hr=>?_⟩
 ·unfold tnZ at hl;obtain⟨k,_,rfl⟩:=e0l.1 hl;exact b5e _ _ _
 ·unfold tnZ at hl;obtain⟨k,hk,rfl⟩:=e0l.1 hl
  unfold tnC at hr;obtain⟨i,hi,rfl⟩:=e0l.1 hr
  have hm:Z.getD i []∈Z:=aE (by rw[h.z0];exact e1e.1 hi) []
  exact h.zz _ hm _ (aE (by rw[h.z1 _ hm];exact e1e.1 hk) _)
theorem sF {α:Type}{enc:α->DV}{d x:α}{l l':List α}{n m:Nat}{g:Nat->DV}(hy:l'=l++[x])(hn:n=l.length)(h:dI (g 0) (enc x))(hm:m=l'.length):∀j,j<m->dI (apd n (bG enc d l) g j) (bG enc d l' j):=by
 subst hy hn hm
 exact a6d h λ_=>dI.refl _
def d8h (k:Nat)(nC nR nx:Nat):List (List (Int×Int))->List (Nat×AV)×List (Nat×Res)
  |[]=>([(4,.d (int k))],[(11,.cs true 3 (uO [.ms 5 2 0 nC,.ms 9 2 0 nR,.d (.v (.slice none 0 0))]))])
  |y::o=>([(4,.d (int k))],[(11,.cs true 3 (uO [.ms 5 2 0 nC,.ms 9 2 0 nR,.ms nx 1 0 (y::o).length])),(nx,.row true 22 1 (y::o).length (bG rgs [] (y::o)))])
theorem a1j (R C:List (Int×Int))(Z:List (List (Int×Int)))(h:TabOk R C Z):Fn Tryz.prog 25 [jA R C Z] (jA C R (tnZ Z R.length C.length)):=by
 have hr1:=h.r1
 have hc1:=h.c1
 have hz0:=h.z0
 have hz1:=λ(i:Int) (i0:0<=i) (i1:i<R.length)=>h.z1 _ (aE (l:=Z) (i:=i.toNat) (by omega) [])
 have tc:=b5e Z
 generalize hT:tnZ Z R.length C.length=ZT
 refine e1t (cuts:=[]) tys hM Tryz.func25 rfl Tryz.call25 rfl ?_
 show exC Tryz.prog T [] _ false none 0 (entry 48 [jA R C Z]) (cH T [ResultVar.cell 2 25] _)
 conv=>whnf
 repeat' first|(refine go ?_;conv=>whnf)|(refine go2 ?_ ?_<;>(try intro hc)<;>conv=>whnf)|fail
 refine e2x [0,1,2,3,47] 150 ?_
 (conv=>whnf)
 refine e3v 48 ({p:Nat×List (List (Int×Int))//p.1<=C.length/\p.2=tnZ Z R.length p.1}) 1 (λ⟨(k,o),_⟩ nx=>d8h k C.length R.length nx o) (λp=>C.length-p.1.1) (⟨(0,[]),by simp,rfl⟩) ?_ ?_ (hl:=by rintro⟨⟨i,o⟩,_⟩;cases o<;>rfl)
 ·rintro⟨⟨k,o⟩,hk,ho⟩
  simp only at hk ho
  by_cases hkm:k<C.length
  ·have hs:tnZ Z R.length (k+1)=o++[tnC Z k R.length]:=by rw[ho,b9s]
   have hol:o.length=k:=by rw[ho,xE]
   cases o with
   |nil=>
    conv=>whnf
    repeat' first|(refine go ?_;conv=>whnf)|(refine go2 ?_ ?_<;>(try intro hc)<;>conv=>whnf)|fail
    refine e2x [0,1,2,3,4,16,17,18,19,21,22,41,42,43,44,45,46,47] 40 ?_
    (conv=>whnf)
    refine e3v 48 ({i:Int//0<=i/\i<=R.length}) 0 (λ⟨i,_⟩ nx=>([(6,.d (int i)),(5,.ms 18 2 0 (tnC Z k i.toNat).length)],[(18,.row true 35 2 (tnC Z k i.toNat).length (bG rgD (0,0) (tnC Z k i.toNat)))])) (λp=>(R.length-p.1).toNat) (⟨0,by omega,by omega⟩) ?_ ?_
    ·rintro⟨i,i0,i1⟩
     have hl:=tc k i.toNat
     by_cases hi:i<R.length
     ·have hzi:=hz1 i i0 hi
      have hy:tnC Z k (i+1).toNat=tnC Z k i.toNat++[(Z.getD i.toNat []).getD k (0,0)]:=by rw[show(i+1).toNat=i.toNat+1 by omega,a6r]
      have hl2:(tnC Z k i.toNat).length+1=(tnC Z k (i+1).toNat).length:=by rw[hy];simp
      conv=>whnf
      repeat' first|(refine go ?_;conv=>whnf)|(refine go2 ?_ ?_<;>(try intro hc)<;>conv=>whnf)|fail
      all_goals try(exfalso;omega)
      all_goals(refine⟨rfl,⟨i+1,by omega,by omega⟩,?_,by simp only;omega⟩;(conv=>whnf);repeat' first|(refine e2d ?_)|((conv=>whnf);first|exact True.intro|(refine And.intro ?_ ?_)|exact rfl|exact e1h (e0f _)|exact e0h _|((conv=>arg 1;whnf);first|exact e0h _|(refine e1q ?_)|(refine e1i ?_)|(refine e2k ?_)|(refine e2e ?_ ?_)|(refine e1v ?_)|(refine e2f rfl ?_))|(refine aA ?_)|exact eF.refl _|exact aB|exact aC|exact e0m|exact bS.refl _)|exact rfl|(refine And.intro ?_ ?_)|exact e0h _)
      all_goals first|omega|refine sF hy rfl ?_ rfl
      all_goals repeat' first|(refine e2d ?_)|((conv=>whnf);first|exact True.intro|(refine And.intro ?_ ?_)|exact rfl|exact e1h (e0f _)|exact e0h _|((conv=>arg 1;whnf);first|exact e0h _|(refine e1q ?_)|(refine e1i ?_)|(refine e2k ?_)|(refine e2e ?_ ?_)|(refine e1v ?_)|(refine e2f rfl ?_))|(refine aA ?_)|(apply bA)|exact aB|exact aC|exact e0m|exact bS.refl _)|exact rfl|(refine And.intro ?_ ?_)|exact e0h _
      all_goals omega
     ·obtain rfl:i=(R.length:Int):=by omega
      rw[e1b]at hl
      conv=>whnf
      repeat' first|(refine go ?_;conv=>whnf)|(refine go2 ?_ ?_<;>(try intro hc)<;>conv=>whnf)|fail
      all_goals try(exfalso;omega)
      all_goals(refine⟨rfl,⟨(k+1,[tnC Z k R.length]),by simp only;omega,hs.symm⟩,?_,by simp only;omega⟩;repeat' first|(refine e2d ?_)|((conv=>whnf);first|exact True.intro|(refine And.intro ?_ ?_)|exact rfl|exact e1h (e0f _)|exact e0h _|((conv=>arg 1;whnf);first|exact e0h _|(refine e1q ?_)|(refine e1i ?_)|(refine e2k ?_)|(refine e2e ?_ ?_)|(refine e1v ?_)|(refine e2f rfl ?_))|(refine aA ?_)|(apply bA)|exact aB|exact aC|exact e0m|exact bS.refl _)|exact rfl|(refine And.intro ?_ ?_)|exact e0h _)
      all_goals first|omega|refine gW ?_
      all_goals repeat' first|(refine e2d ?_)|((conv=>whnf);first|exact True.intro|(refine And.intro ?_ ?_)|exact rfl|exact e1h (e0f _)|exact e0h _|((conv=>arg 1;whnf);first|exact e0h _|(refine e1q ?_)|(refine e1i ?_)|(refine e2k ?_)|(refine e2e ?_ ?_)|(refine e1v ?_)|(refine e2f rfl ?_))|(refine aA ?_)|(apply bA)|exact aB|exact aC|exact e0m|exact bS.refl _)|exact rfl|(refine And.intro ?_ ?_)|exact e0h _
      all_goals omega
    ·exact Lf
   |cons y o=>
    conv=>whnf
    repeat' first|(refine go ?_;conv=>whnf)|(refine go2 ?_ ?_<;>(try intro hc)<;>conv=>whnf)|fail
    refine e2x [0,1,2,3,4,16,17,18,19,21,22,41,42,43,44,45,46,47] 40 ?_
    (conv=>whnf)
    refine e3v 48 ({i:Int//0<=i/\i<=R.length}) 0 (λ⟨i,_⟩ nx=>([(6,.d (int i)),(5,.ms 18 2 0 (tnC Z k i.toNat).length)],[(18,.row true 35 2 (tnC Z k i.toNat).length (bG rgD (0,0) (tnC Z k i.toNat)))])) (λp=>(R.length-p.1).toNat) (⟨0,by omega,by omega⟩) ?_ ?_
    ·rintro⟨i,i0,i1⟩
     have hl:=tc k i.toNat
     by_cases hi:i<R.length
     ·have hzi:=hz1 i i0 hi
      have hy:tnC Z k (i+1).toNat=tnC Z k i.toNat++[(Z.getD i.toNat []).getD k (0,0)]:=by rw[show(i+1).toNat=i.toNat+1 by omega,a6r]
      have hl2:(tnC Z k i.toNat).length+1=(tnC Z k (i+1).toNat).length:=by rw[hy];simp
      conv=>whnf
      repeat' first|(refine go ?_;conv=>whnf)|(refine go2 ?_ ?_<;>(try intro hc)<;>conv=>whnf)|fail
      all_goals try(exfalso;omega)
      all_goals(refine⟨rfl,⟨i+1,by omega,by omega⟩,?_,by simp only;omega⟩;(conv=>whnf);repeat' first|(refine e2d ?_)|((conv=>whnf);first|exact True.intro|(refine And.intro ?_ ?_)|exact rfl|exact e1h (e0f _)|exact e0h _|((conv=>arg 1;whnf);first|exact e0h _|(refine e1q ?_)|(refine e1i ?_)|(refine e2k ?_)|(refine e2e ?_ ?_)|(refine e1v ?_)|(refine e2f rfl ?_))|(refine aA ?_)|exact eF.refl _|exact aB|exact aC|exact e0m|exact bS.refl _)|exact rfl|(refine And.intro ?_ ?_)|exact e0h _)
      all_goals first|omega|refine sF hy rfl ?_ rfl
      all_goals repeat' first|(refine e2d ?_)|((conv=>whnf);first|exact True.intro|(refine And.intro ?_ ?_)|exact rfl|exact e1h (e0f _)|exact e0h _|((conv=>arg 1;whnf);first|exact e0h _|(refine e1q ?_)|(refine e1i ?_)|(refine e2k ?_)|(refine e2e ?_ ?_)|(refine e1v ?_)|(refine e2f rfl ?_))|(refine aA ?_)|(apply bA)|exact aB|exact aC|exact e0m|exact bS.refl _)|exact rfl|(refine And.intro ?_ ?_)|exact e0h _
      all_goals omega
     ·obtain rfl:i=(R.length:Int):=by omega
      rw[e1b]at hl
      conv=>whnf
      repeat' first|(refine go ?_;conv=>whnf)|(refine go2 ?_ ?_<;>(try intro hc)<;>conv=>whnf)|fail
      all_goals try(exfalso;omega)
      all_goals(refine⟨rfl,⟨(k+1,y::o++[tnC Z k R.length]),by simp only;omega,hs.symm⟩,?_,by simp only;omega⟩;repeat' first|(refine e2d ?_)|((conv=>whnf);first|exact True.intro|(refine And.intro ?_ ?_)|exact rfl|exact e1h (e0f _)|exact e0h _|((conv=>arg 1;whnf);first|exact e0h _|(refine e1q ?_)|(refine e1i ?_)|(refine e2k ?_)|(refine e2e ?_ ?_)|(refine e1v ?_)|(refine e2f rfl ?_))|(refine aA ?_)|exact eF.refl _|exact aB|exact aC|exact e0m|exact bS.refl _)|exact rfl|(refine And.intro ?_ ?_)|exact e0h _)
      all_goals first|omega|(simp;done)|refine sF (l:=y::o) (l':=y::o++[tnC Z k R.length]) rfl rfl ?_ (by simp)
      all_goals repeat' first|(refine e2d ?_)|((conv=>whnf);first|exact True.intro|(refine And.intro ?_ ?_)|exact rfl|exact e1h (e0f _)|exact e0h _|((conv=>arg 1;whnf);first|exact e0h _|(refine e1q ?_)|(refine e1i ?_)|(refine e2k ?_)|(refine e2e ?_ ?_)|(refine e1v ?_)|(refine e2f rfl ?_))|(refine aA ?_)|(apply bA)|exact aB|exact aC|exact e0m|exact bS.refl _)|exact rfl|(refine And.intro ?_ ?_)|exact e0h _
      all_goals omega
    ·exact Lf
  ·have e:o=ZT:=by rw[ho,<-hT,show k=C.length by omega]
   subst e
   have e2:o.length=C.length:=by rw[ho,xE];omega
   cases o with
   |nil=>exfalso;have:=h.c0;simp at e2;omega
   |cons y o=>
    conv=>whnf
    repeat' first|(refine go ?_;conv=>whnf)|(refine go2 ?_ ?_<;>(try intro hc)<;>conv=>whnf)|fail
    all_goals exact Lf
 ·exact Lf
theorem a4n (b k:Nat):d1k .i64 ((b:Int)/2^k) 1=((b/2^k %2:Nat):Int):=by
 have e:((b:Int)/2^k)=((b/2^k:Nat):Int):=by simp
 rw[e]
 generalize b/2^k=c
 unfold d1k
 have h:(BitVec.ofInt IntKind.i64.bits (c:Int) &&& BitVec.ofInt IntKind.i64.bits 1).toNat=c %2:=by
  have e1:BitVec.ofInt IntKind.i64.bits (c:Int)=BitVec.ofNat 64 c:=BitVec.ofInt_natCast 64 c
  have e2:BitVec.ofInt IntKind.i64.bits 1=BitVec.ofNat 64 1:=rfl
  rw[e1,e2]
  show(BitVec.ofNat 64 c &&& BitVec.ofNat 64 1).toNat=_
  rw[BitVec.toNat_and,BitVec.toNat_ofNat,BitVec.toNat_ofNat,show 1 %2^64=1 from rfl,Nat.and_one_is_mod,Nat.mod_mod_of_dvd]
  decide
 rw[h,jX]
 simp only[inR]
 omega
def shC (C:List (Int×Int))(b:Nat)(k:Nat):Int:=if b/2^k %2=1 then(C.getD k (0,0)).1 else 0
def shZ (Z:List (List (Int×Int)))(a b:Nat)(i k:Nat):Int:=if a/2^i %2=1 then(if b/2^k %2=1 then 0 else((Z.getD i []).getD k (0,0)).1)else if b/2^k %2=1 then-((Z.getD i []).getD k (0,0)).2 else 0
def shR (R:List (Int×Int))(m:Nat)(Z:List (List (Int×Int)))(a b:Nat)(i:Nat):Int:=(if a/2^i %2=1 then-(R.getD i (0,0)).2 else 0)+sm (λk=>shZ Z a b i k) m
def shV (R C:List (Int×Int))(Z:List (List (Int×Int)))(a b:Nat):Int:=sm (λk=>shC C b k) C.length+sm (λi=>shR R C.length Z a b i) R.length
theorem uU (R C:List (Int×Int))(Z:List (List (Int×Int)))(h:TabOk R C Z)(a b:Nat):Fn Tryz.prog 26 [jA R C Z,int a,int b] (int (shV R C Z a b)):=by
 have hr1:=h.r1
 have hc1:=h.c1
 have hz0:=h.z0
 have hz1:=λ(i:Int) (i0:0<=i) (i1:i<R.length)=>h.z1 _ (aE (l:=Z) (i:=i.toNat) (by omega) [])
 have hrr:=λ(i:Int) (i0:0<=i) (i1:i<R.length)=>h.rr _ (aE (l:=R) (i:=i.toNat) (by omega) (0,0))
 have hcc:=λ(i:Int) (i0:0<=i) (i1:i<C.length)=>h.cc _ (aE (l:=C) (i:=i.toNat) (by omega) (0,0))
 have hzz:=λ(i k:Int) (i0:0<=i) (i1:i<R.length) (k0:0<=k) (k1:k<C.length)=>h.zz _ (aE (l:=Z) (i:=i.toNat) (by omega) []) _ (aE (l:=Z.getD i.toNat []) (i:=k.toNat) (by have:=hz1 i i0 i1;omega) (0,0))
 unfold pQ at hrr hcc hzz
 have s1:=λ(k:Int) (k0:0<=k)=>(show sm (λk=>shC C b k) (k+1).toNat=sm (λk=>shC C b k) k.toNat+shC C b k.toNat by rw[show(k+1).toNat=k.toNat+1 by omega];rfl)
 have s2:=λ(k:Int) (k0:0<=k)=>(show sm (λi=>shR R C.length Z a b i) (k+1).toNat=sm (λi=>shR R C.length Z a b i) k.toNat+shR R C.length Z a b k.toNat by rw[show(k+1).toNat=k.toNat+1 by omega];rfl)
 have s3:=λ(i k:Int) (k0:0<=k)=>(show sm (λk=>shZ Z a b i.toNat k) (k+1).toNat=sm (λk=>shZ Z a b i.toNat k) k.toNat+shZ Z a b i.toNat k.toNat by rw[show(k+1).toNat=k.toNat+1 by omega];rfl)
 refine e8b (D:=λr:Int=>int r) λc hr=>?_
 have hc:=hr.h
 clear hr h
 refine e1t (cuts:=[]) tys hM Tryz.func26 rfl Tryz.call26 rfl ?_
 show exC Tryz.prog T [] _ false none 0 (entry 99 [jA R C Z,int a,int b]) (cH T [ResultVar.tmp 6] _)
 conv=>whnf
 repeat' first|(refine go ?_;conv=>whnf)|(refine go2 ?_ ?_<;>(try intro hc)<;>conv=>whnf)|fail
 refine e2x [0,1,2,3,6,9,10,11,12,33,34,35,36,38,39,40,41,42,43,44,46,47,48,49,50,51,52,53,54,55,56,57,59,60,61,62,63,64,65,66,67,68,69,71,72,73,74,75,76,77,78,79,80,81,82,83,84,85,87,88,89,90,91,92,93,94,95,96,97,98] 40 ?_
 (conv=>whnf)
 refine e3v 99 ({p:Int×Int//(0<=p.1/\p.1<=C.length)/\p.2=sm (λk=>shC C b k) p.1.toNat/\0<=p.2/\p.2<=48*p.1}) 0 (λ⟨(k,v),_⟩ nx=>([(8,.d (int k)),(7,.d (int v))],[])) (λp=>(C.length-p.1.1).toNat) (⟨(0,0),⟨by omega,by simp⟩,rfl,by omega,by omega⟩) ?_ ?_
 ·rintro⟨⟨k,v⟩,⟨k0,k1⟩,hv,v0,v1⟩
  simp only at k0 k1 hv v0 v1
  by_cases hk:k<C.length
  ·obtain⟨q1,q2,q3⟩:=hcc k k0 hk
   have hs:=s1 k k0
   have hb:=a4n b k.toNat
   have hsC:shC C b k.toNat=if b/2^k.toNat %2=1 then(C.getD k.toNat (0,0)).1 else 0:=rfl
   rw[hsC]at hs
   by_cases hbit:b/2^k.toNat %2=1
   ·rw[hbit]at hb hs
    rw[e0c rfl]at hs
    conv=>whnf
    repeat' first|(refine go ?_;conv=>whnf)|(refine go2 ?_ ?_<;>(try intro hc)<;>conv=>whnf)|fail
    all_goals first|(exfalso;omega)|exact⟨rfl,⟨(k+1,v+(C.getD k.toNat (0,0)).1),⟨by simp only;omega,by simp only;omega⟩,by simp only;rw[hv];exact hs.symm,by simp only;omega,by simp only;omega⟩,Lf,by simp only;omega⟩
   ·have hbit:b/2^k.toNat %2=0:=by omega
    rw[hbit]at hb hs
    rw[d9z (by decide)]at hs
    conv=>whnf
    repeat' first|(refine go ?_;conv=>whnf)|(refine go2 ?_ ?_<;>(try intro hc)<;>conv=>whnf)|fail
    all_goals first|(exfalso;omega)|exact⟨rfl,⟨(k+1,v),⟨by simp only;omega,by simp only;omega⟩,by simp only;rw[hv,<-e6w (sm _ _)];exact hs.symm,by simp only;omega,by simp only;omega⟩,Lf,by simp only;omega⟩
  ·obtain rfl:k=(C.length:Int):=by omega
   rw[e1b]at hv
   clear s1
   conv=>whnf
   repeat' first|(refine go ?_;conv=>whnf)|(refine go2 ?_ ?_<;>(try intro hc)<;>conv=>whnf)|fail
   all_goals try(exfalso;omega)
   refine e2x [0,1,2,3,6,98] 40 ?_
   (conv=>whnf)
   refine e3v 99 ({p:Int×Int//(0<=p.1/\p.1<=R.length)/\p.2=v+sm (λi=>shR R C.length Z a b i) p.1.toNat/\ -200*p.1<=p.2/\p.2<=200+200*p.1}) 0 (λ⟨(i,w),_⟩ nx=>([(9,.d (int i)),(7,.d (int w))],[])) (λp=>(R.length-p.1.1).toNat) (⟨(0,v),⟨by omega,by simp⟩,(e6w v).symm,by simp only;omega,by simp only;omega⟩) ?_ ?_
   ·rintro⟨⟨i,w⟩,⟨i0,i1⟩,hw,w0,w1⟩
    simp only at i0 i1 hw w0 w1
    by_cases hi:i<R.length
    ·obtain⟨q1,q2,q3⟩:=hrr i i0 hi
     have hs:=s2 i i0
     have ha:=a4n a i.toNat
     have hzi:=hz1 i i0 hi
     have hzz:=hzz i
     have s3:=s3 i
     have hsR:shR R C.length Z a b i.toNat=(if a/2^i.toNat %2=1 then-(R.getD i.toNat (0,0)).2 else 0)+sm (λk=>shZ Z a b i.toNat k) C.length:=rfl
     by_cases hbit:a/2^i.toNat %2=1
     ·have hai:a/2^i.toNat %2=1:=hbit
      rw[hbit]at ha
      rw[e0c hbit]at hsR
      rw[hsR]at hs
      conv=>whnf
      repeat' first|(refine go ?_;conv=>whnf)|(refine go2 ?_ ?_<;>(try intro hc)<;>conv=>whnf)|fail
      all_goals try(exfalso;omega)
      refine e2x [0,1,2,3,6,9,10,33,34,35,36,38,39,40,41,42,43,44,46,47,48,49,50,51,52,53,98] 40 ?_
      (conv=>whnf)
      refine e3v 99 ({p:Int×Int//(0<=p.1/\p.1<=C.length)/\p.2=w-(R.getD i.toNat (0,0)).2+sm (λk=>shZ Z a b i.toNat k) p.1.toNat/\w-48-12*p.1<=p.2/\p.2<=w+12*p.1}) 0 (λ⟨(k,x),_⟩ nx=>([(11,.d (int k)),(7,.d (int x))],[])) (λp=>(C.length-p.1.1).toNat) (⟨(0,w-(R.getD i.toNat (0,0)).2),⟨by omega,by simp⟩,(e6w _).symm,by simp only;omega,by simp only;omega⟩) ?_ ?_
      ·rintro⟨⟨k,x⟩,⟨k0,k1⟩,hx,x0,x1⟩
       simp only at k0 k1 hx x0 x1
       by_cases hk:k<C.length
       ·obtain⟨r1,r2,r3⟩:=hzz k i0 hi k0 hk
        have hs3:=s3 k k0
        have hb:=a4n b k.toNat
        by_cases hbk:b/2^k.toNat %2=1
        ·have hz:shZ Z a b i.toNat k.toNat=0:=by unfold shZ;rw[e0c hai];rw[e0c hbk]
         rw[hbk]at hb
         rw[hz]at hs3
         conv=>whnf
         repeat' first|(refine go ?_;conv=>whnf)|(refine go2 ?_ ?_<;>(try intro hc)<;>conv=>whnf)|fail
         all_goals first|(exfalso;omega)|exact⟨rfl,⟨(k+1,x+(0)),⟨by simp only;omega,by simp only;omega⟩,by simp only;omega,by simp only;omega,by simp only;omega⟩,Lf,by simp only;omega⟩
        ·have hz:shZ Z a b i.toNat k.toNat=((Z.getD i.toNat []).getD k.toNat (0,0)).1:=by unfold shZ;rw[e0c hai];rw[d9z hbk]
         have hbk:b/2^k.toNat %2=0:=by omega
         rw[hbk]at hb
         rw[hz]at hs3
         conv=>whnf
         repeat' first|(refine go ?_;conv=>whnf)|(refine go2 ?_ ?_<;>(try intro hc)<;>conv=>whnf)|fail
         all_goals first|(exfalso;omega)|exact⟨rfl,⟨(k+1,x+(((Z.getD i.toNat []).getD k.toNat (0,0)).1)),⟨by simp only;omega,by simp only;omega⟩,by simp only;omega,by simp only;omega,by simp only;omega⟩,Lf,by simp only;omega⟩
       ·obtain rfl:k=(C.length:Int):=by omega
        rw[e1b]at hx
        conv=>whnf
        repeat' first|(refine go ?_;conv=>whnf)|(refine go2 ?_ ?_<;>(try intro hc)<;>conv=>whnf)|fail
        all_goals first|(exfalso;omega)|exact⟨rfl,⟨(i+1,x),⟨by simp only;omega,by simp only;omega⟩,by simp only;omega,by simp only;omega,by simp only;omega⟩,Lf,by simp only;omega⟩
      ·exact Lf
     ·have hai:¬a/2^i.toNat %2=1:=hbit
      rw[d9z hbit]at hsR
      rw[hsR]at hs
      have hbit:a/2^i.toNat %2=0:=by omega
      rw[hbit]at ha
      conv=>whnf
      repeat' first|(refine go ?_;conv=>whnf)|(refine go2 ?_ ?_<;>(try intro hc)<;>conv=>whnf)|fail
      all_goals try(exfalso;omega)
      refine e2x [0,1,2,3,6,9,10,33,34,35,36,38,39,40,41,42,43,44,46,47,48,49,50,51,52,53,98] 40 ?_
      (conv=>whnf)
      refine e3v 99 ({p:Int×Int//(0<=p.1/\p.1<=C.length)/\p.2=w+sm (λk=>shZ Z a b i.toNat k) p.1.toNat/\w-48-12*p.1<=p.2/\p.2<=w+12*p.1}) 0 (λ⟨(k,x),_⟩ nx=>([(11,.d (int k)),(7,.d (int x))],[])) (λp=>(C.length-p.1.1).toNat) (⟨(0,w),⟨by omega,by simp⟩,(e6w _).symm,by simp only;omega,by simp only;omega⟩) ?_ ?_
      ·rintro⟨⟨k,x⟩,⟨k0,k1⟩,hx,x0,x1⟩
       simp only at k0 k1 hx x0 x1
       by_cases hk:k<C.length
       ·obtain⟨r1,r2,r3⟩:=hzz k i0 hi k0 hk
        have hs3:=s3 k k0
        have hb:=a4n b k.toNat
        by_cases hbk:b/2^k.toNat %2=1
        ·have hz:shZ Z a b i.toNat k.toNat= -((Z.getD i.toNat []).getD k.toNat (0,0)).2:=by unfold shZ;rw[d9z hai];rw[e0c hbk]
         rw[hbk]at hb
         rw[hz]at hs3
         conv=>whnf
         repeat' first|(refine go ?_;conv=>whnf)|(refine go2 ?_ ?_<;>(try intro hc)<;>conv=>whnf)|fail
         all_goals first|(exfalso;omega)|exact⟨rfl,⟨(k+1,x+(-((Z.getD i.toNat []).getD k.toNat (0,0)).2)),⟨by simp only;omega,by simp only;omega⟩,by simp only;omega,by simp only;omega,by simp only;omega⟩,Lf,by simp only;omega⟩
        ·have hz:shZ Z a b i.toNat k.toNat=0:=by unfold shZ;rw[d9z hai];rw[d9z hbk]
         have hbk:b/2^k.toNat %2=0:=by omega
         rw[hbk]at hb
         rw[hz]at hs3
         conv=>whnf
         repeat' first|(refine go ?_;conv=>whnf)|(refine go2 ?_ ?_<;>(try intro hc)<;>conv=>whnf)|fail
         all_goals first|(exfalso;omega)|exact⟨rfl,⟨(k+1,x+(0)),⟨by simp only;omega,by simp only;omega⟩,by simp only;omega,by simp only;omega,by simp only;omega⟩,Lf,by simp only;omega⟩
       ·obtain rfl:k=(C.length:Int):=by omega
        rw[e1b]at hx
        conv=>whnf
        repeat' first|(refine go ?_;conv=>whnf)|(refine go2 ?_ ?_<;>(try intro hc)<;>conv=>whnf)|fail
        all_goals first|(exfalso;omega)|exact⟨rfl,⟨(i+1,x),⟨by simp only;omega,by simp only;omega⟩,by simp only;omega,by simp only;omega,by simp only;omega⟩,Lf,by simp only;omega⟩
      ·exact Lf
    ·obtain rfl:i=(R.length:Int):=by omega
     rw[e1b]at hw
     have e:w=c:=by rw[<-hc,hw,hv];rfl
     conv=>whnf
     repeat' first|(refine go ?_;conv=>whnf)|(refine go2 ?_ ?_<;>(try intro hc)<;>conv=>whnf)|fail
     all_goals first|(exfalso;omega)|exact Lf
   ·exact Lf
 ·exact Lf
def iA (R C:List (Int×Int))(Z:List (List (Int×Int))):Prop:=∀a b:Nat,a<2^R.length->b<2^C.length->shV R C Z a b<=0/\shV C R (tnZ Z R.length C.length) b a<=0
theorem b4v (n:Nat)(h:n<=4):(1:Int)*2^((n:Int)).toNat=((2^n:Nat):Int)/\2^n<=16:=by
 refine⟨by simp,?_⟩
 rcases n with _|_|_|_|_|n<;>first|decide|omega
open Classical in
def isB (R C:List (Int×Int))(Z:List (List (Int×Int))):Bool:=decide (iA R C Z)
theorem b2h {R C:List (Int×Int)}{Z:List (List (Int×Int))}(h:iA R C Z):isB R C Z=true:=by classical exact e1r h
theorem c0p {R C:List (Int×Int)}{Z:List (List (Int×Int))}(h:¬iA R C Z):isB R C Z=false:=by classical exact e1o h
theorem c1s (R C:List (Int×Int))(Z:List (List (Int×Int)))(h:TabOk R C Z):Fn Tryz.prog 13 [jA R C Z] (bool (isB R C Z)):=by
 have hr1:=h.r1
 have hc1:=h.c1
 obtain⟨n1,n2⟩:=b4v R.length hr1
 obtain⟨m1,m2⟩:=b4v C.length hc1
 have hT:=a1j R C Z h
 have hS:=λa b=>uU R C Z h a b
 have hS2:=λa b=>uU C R (tnZ Z R.length C.length) (d5h h) b a
 refine e8b (D:=λr:Bool=>bool r) λc hr=>?_
 have hc:=hr.h
 have cy:(∀a b:Nat,a<2^R.length->b<2^C.length->shV R C Z a b<=0/\shV C R (tnZ Z R.length C.length) b a<=0)->c=true:=λh=>by rw[<-hc];exact b2h h
 have cn:∀a b:Nat,a<2^R.length->b<2^C.length->(0<shV R C Z a b\/0<shV C R (tnZ Z R.length C.length) b a)->c=false:=λa b ha hb h=>by rw[<-hc];exact c0p λhn=>by have:=hn a b ha hb;omega
 clear hr hc h
 generalize tnZ Z R.length C.length=X at*
 generalize hn:2^R.length=n at*
 generalize hm:2^C.length=m at*
 refine e1t (cuts:=[]) tys hM Tryz.func13 rfl Tryz.call13 rfl ?_
 show exC Tryz.prog T [] _ false none 0 (entry 36 [jA R C Z]) (cH T [ResultVar.tmp 2] _)
 conv=>whnf
 repeat' first|((first|refine go ?_|refine gc (hT) ?_);conv=>whnf)|(refine go2 ?_ ?_<;>(try intro hc)<;>conv=>whnf)|fail
 refine e2x [0,1,3] 40 ?_
 (conv=>whnf)
 refine e3v 36 ({p:Nat//p<=n/\∀a b:Nat,a<p->b<m->shV R C Z a b<=0/\shV C R X b a<=0}) 0 (λ⟨a,_⟩ nx=>([(4,.d (int a))],[])) (λp=>n-p.1) (⟨0,by omega,λa b h=>by omega⟩) ?_ ?_
 ·rintro⟨a,ha,hia⟩
  by_cases han:a<n
  ·conv=>whnf
   repeat' first|(refine go ?_;conv=>whnf)|(refine go2 ?_ ?_<;>(try intro hc)<;>conv=>whnf)|fail
   all_goals try(exfalso;omega)
   refine e2x [0,1,3,4,8,9,10,11,12,14,15] 40 ?_
   (conv=>whnf)
   refine e3v 36 ({p:Nat//p<=m/\∀b:Nat,b<p->shV R C Z a b<=0/\shV C R X b a<=0}) 0 (λ⟨b,_⟩ nx=>([(5,.d (int b))],[])) (λp=>m-p.1) (⟨0,by omega,λb h=>by omega⟩) ?_ ?_
   ·rintro⟨b,hb,hib⟩
    by_cases hbm:b<m
    ·have hs:=hS a b
     have hs2:=hS2 a b
     have cn:=cn a b han hbm
     have hin:∀b':Nat,b'<b+1->shV R C Z a b<=0->shV C R X b a<=0->shV R C Z a b'<=0/\shV C R X b' a<=0:=λb' h1 h2 h3=>if e:b'=b then by subst e;exact⟨h2,h3⟩else hib b' (by omega)
     generalize shV R C Z a b=v at*
     generalize shV C R X b a=w at*
     conv=>whnf
     repeat' first|((first|refine go ?_|(apply Cl.go;(conv=>whnf);first|refine e2m (hs) ?_|refine e2m (hs2) ?_));conv=>whnf)|(refine go2 ?_ ?_<;>(try intro hc)<;>conv=>whnf)|fail
     all_goals first|(exfalso;omega)|(have e:=cn (by omega);exact Lf)|exact⟨rfl,⟨b+1,by omega,λb' h=>hin b' h (by omega) (by omega)⟩,Lf,by simp only;omega⟩
    ·conv=>whnf
     repeat' first|(refine go ?_;conv=>whnf)|(refine go2 ?_ ?_<;>(try intro hc)<;>conv=>whnf)|fail
     all_goals first|(exfalso;omega)|exact⟨rfl,⟨a+1,by omega,λa' b' h1 h2=>if e:a'=a then by subst e;exact hib b' (by omega)else hia a' b' (by omega) h2⟩,Lf,by simp only;omega⟩
   ·exact Lf
  ·have e:=cy λa' b' h1 h2=>hia a' b' (by omega) h2
   conv=>whnf
   repeat' first|(refine go ?_;conv=>whnf)|(refine go2 ?_ ?_<;>(try intro hc)<;>conv=>whnf)|fail
   all_goals first|(exfalso;omega)|exact Lf
 ·exact Lf
theorem a7f (R C:List (Int×Int))(Z:List (List (Int×Int)))(hR:R.length<=1000)(hC:C.length<=9223372036854775807)(hZ:Z.length<=1000)(hZl:∀l∈Z,l.length<=9223372036854775807):∃c:Int,Fn Tryz.prog 4 [jA R C Z] (int c)/\(c=0->TabOk R C Z/\iA R C Z):=by
 have hCk:=pB R C Z hR hC hZ hZl
 by_cases h:TabOk R C Z
 ·rw[b0t.2 h]at hCk
  have hIs:=c1s R C Z h
  by_cases hs:iA R C Z
  ·rw[show isB R C Z=true from b2h hs]at hIs
   refine⟨0,?_,λ_=>⟨h,hs⟩⟩
   refine e1t (cuts:=[]) tys hM Tryz.func4 rfl Tryz.call4 rfl ?_
   show exC Tryz.prog T [] _ false none 0 (entry 11 [jA R C Z]) (cH T [ResultVar.tmp 2] _)
   conv=>whnf
   repeat' first|((first|refine go ?_|(apply Cl.go;(conv=>whnf);first|refine e2m (hCk) ?_|refine e2m (hIs) ?_));conv=>whnf)|(refine go2 ?_ ?_<;>(try intro hc)<;>conv=>whnf)|fail
   all_goals exact Lf
  ·rw[show isB R C Z=false from c0p hs]at hIs
   refine⟨20,?_,λh=>by cases h⟩
   refine e1t (cuts:=[]) tys hM Tryz.func4 rfl Tryz.call4 rfl ?_
   show exC Tryz.prog T [] _ false none 0 (entry 11 [jA R C Z]) (cH T [ResultVar.tmp 2] _)
   conv=>whnf
   repeat' first|((first|refine go ?_|(apply Cl.go;(conv=>whnf);first|refine e2m (hCk) ?_|refine e2m (hIs) ?_));conv=>whnf)|(refine go2 ?_ ?_<;>(try intro hc)<;>conv=>whnf)|fail
   all_goals exact Lf
 ·have hc:ckT R C Z≠0:=λe=>h (b0t.1 e)
  refine⟨_,?_,λe=>absurd e hc⟩
  generalize ckT R C Z=c at*
  refine e1t (cuts:=[]) tys hM Tryz.func4 rfl Tryz.call4 rfl ?_
  show exC Tryz.prog T [] _ false none 0 (entry 11 [jA R C Z]) (cH T [ResultVar.tmp 2] _)
  conv=>whnf
  repeat' first|((first|refine go ?_|refine gc (hCk) ?_);conv=>whnf)|(refine go2 ?_ ?_<;>(try intro hc)<;>conv=>whnf)|fail
  all_goals first|exact Lf|(exfalso;omega)
noncomputable def nrD (E:Int->Int->Prop)(B:Int->Int->Int×Int)(g:Int->Int->Int):DV:= .pt (.ag 5 λj=>match j with|3=> .mp ⟨true,2,true⟩ (bM E B)|4=> .mp ⟨true,2,false⟩ (fM E g)|_=> .top) 0
end Go.Px.Tryz
namespace Go.Px
open Go Go.Proofs Go.RowKit
variable {P:Program} {T:Nat->Option TI} {B:Base} {Fr:Nat->Prop} {E:Env} {st:St} {a:Act} {W:World}
theorem Sat.aside (h:Sat B Fr E st a W){b:Nat}{o o':Obj}(hc:W.heap[b]?=some o)(hnc:∀c T,o≠ .cells c T (0,0))(hnd:∀ds,o≠ .deferred ds)(hown:¬E.S b/\B.ow b)(hn:∀i,st.hp i≠none->E.ρ i≠ .at b):Sat B Fr E st a (W.putObj b o'):=by
 have hoth:∀k,k≠b->(W.putObj b o').heap[k]?=W.heap[k]?:=λk hk=>e1x hk
 have hsz:(W.putObj b o').heap.size=W.heap.size:=e2t
 have hev:Ev E W E (W.putObj b o'):=
  ⟨λ_ h=>h,λk hk=>hoth k (λe=>hown.1 (e▸hk)),λ_ _=>rfl,λk cc T' hcc=>by
   by_cases e:k=b
   ·subst e;rw[hc]at hcc;cases hcc;exact absurd rfl (hnc _ _)
   ·exact⟨cc,(hoth k e).trans hcc,rfl⟩⟩
 have hst:Stp B.ow W (W.putObj b o'):=⟨rfl,rfl,rfl,by rw[hsz];exact e0g _,λk _ hk=>hoth k λe=>hk (e▸hown.2),hev.sh⟩
 refine h.go hev (λi k hi hk=>hoth k λe=>hn i hi (e▸hk)) (λ_ _ _ _ _ hn=>hn) (λ_=>rfl) (λk hk=>by rw[hsz];exact h.sup k hk) rfl (λD hD=>?_) hst
 obtain⟨h1,h2,h3⟩:=h.dd D hD
 refine⟨hoth D λe=>?_,h2⟩
 subst e
 rw[hc]at h3;cases h3;exact hnd _ rfl
theorem a1v (hT:bQ P T){t u ty:Nat}{kt:KT}(h1:kmp T t=some kt){r:Nat}{es:Array MapEntry}{clock:Nat}{m:List Int->Option Int}(hh:W.heap[r]?=some (.map es clock))(hmo:MapOk kt m es clock){l:List Int}(hlen:l.length=kt.n):
  ∃es':Array MapEntry,(Builtin.delete_ #[t,u] ty #[.map (some r),aJ kt l]).run P W= .ok (.tuple #[]) (W.putObj r (.map es' clock))/\MapOk kt (a1u m l) es' clock/\es'.toList.Sublist es.toList:=by
 obtain⟨kT,eT,hu,hko,_⟩:=fV hT h1
 rcases hmo.find hko hlen W with⟨hf,hn,hne⟩|⟨j,e,z,hf,hj,hke,hev,hfl⟩
 ·refine⟨es,?_,uK hmo hn,e4x _⟩
  simp only[Builtin.delete_,e0t,e0w,e2c,d9t,e0k hu,aH hh,d9q,hko.chk es.isEmpty l W hlen,hf]
  rw[aU hh (by simp) (by simp)];rfl
 ·refine⟨es.eraseIdxIfInBounds j,?_,rT hmo hlen hj hke,?_⟩
  ·simp only[Builtin.delete_,e0t,e0w,e2c,d9t,e0k hu,aH hh,d9q,hko.chk es.isEmpty l W hlen,hf]
   rw[aU hh (by simp) (by simp)];rfl
  ·have hlt:=(d9w.1 hj).1
   have:(es.eraseIdxIfInBounds j).toList=es.toList.eraseIdx j:=by simp[Array.eraseIdxIfInBounds,hlt,e6x]
   rw[this];exact e6u ..
def oT (m:List Int->Option Int)(seen:List (List Int)):List Int->Option Int:=λk=>match m k with
  |some x=>if k∈seen/\x<=0 then none else some x
  |none=>none
def c6r (m:List Int->Option Int):List Int->Option Int:=λk=>match m k with
  |some x=>if x<=0 then none else some x
  |none=>none
theorem zW {m:List Int->Option Int}{seen:List (List Int)}{k:List Int}{x:Int}(h:oT m seen k=some x):m k=some x/\¬(k∈seen/\x<=0):=by
 unfold oT at h
 split at h
 ·rename_i y hy
  split at h
  ·cases h
  ·rename_i hn;cases h;exact⟨hy,hn⟩
 ·cases h
theorem a6a (m:List Int->Option Int):oT m []=m:=by
 funext k
 unfold oT
 split
 ·rename_i y hy;rw[d9z (by simp),hy]
 ·rename_i hy;rw[hy]
theorem b4a {m:List Int->Option Int}{seen:List (List Int)}{k:List Int}{x:Int}(h:m k=some x)(hx:0<x):oT m (k::seen)=oT m seen:=by
 funext j
 unfold oT
 split
 ·rename_i y hy
  by_cases e:j=k
  ·subst e;rw[h]at hy;cases hy;rw[d9z (by omega),d9z (by omega)]
  ·have:(j∈k::seen/\y<=0)↔(j∈seen/\y<=0):=by simp[e]
   simp only[this]
 ·rfl
theorem b9g {m:List Int->Option Int}{seen:List (List Int)}{k:List Int}{x:Int}(h:m k=some x)(hx:x<=0):a1u (oT m seen) k=oT m (k::seen):=by
 funext j
 unfold a1u oT
 by_cases e:j=k
 ·subst e;rw[e0c rfl,h];simp[hx]
 ·rw[d9z e]
  split
  ·rename_i y hy
   have:(j∈k::seen/\y<=0)↔(j∈seen/\y<=0):=by simp[e]
   simp only[this]
  ·rfl
theorem b9h {m:List Int->Option Int}{seen:List (List Int)}(h:∀k x,oT m seen k=some x->k∈seen):oT m seen=c6r m:=by
 funext k
 have hk:=h k
 unfold oT at hk⊢
 unfold c6r
 split
 ·rename_i y hy
  rw[hy]at hk
  simp only at hk
  by_cases hx:y<=0
  ·rw[e0c hx]
   by_cases hs:k∈seen
   ·rw[e0c ⟨hs,hx⟩]
   ·rw[d9z λh=>hs h.1]at hk
    exact absurd (hk y rfl) hs
  ·rw[d9z hx,d9z λh=>hx h.2]
 ·rfl
theorem yG {α:Type}{p q:α->Bool}(hpq:∀x,q x=true->p x=true){e:α}(hp:p e=true)(hq:q e=false):∀{l:List α},e∈l->(l.filter q).length<(l.filter p).length
 |[],h=>by cases h
 |x::l,h=>by
  have hle:(l.filter q).length<=(l.filter p).length:=by
   clear h
   induction l with
   |nil=>exact e0g _
   |cons y l ih=>
    rw[e5u,e5u]
    cases hy:q y with
    |true=>rw[hpq y hy];simp;exact ih
    |false=>cases p y<;>simp<;>omega
  rw[e5u,e5u]
  rcases e0b.1 h with rfl|h
  ·rw[hp,hq];simp;omega
  ·have ih:=yG hpq hp hq h
   cases hx:q x with
   |true=>rw[hpq x hx];simp;exact ih
   |false=>cases p x<;>simp<;>omega
theorem yS (es:Array MapEntry)(sn:Array Nat):(leftOf es sn).size=(es.toList.filter λe=> !sn.contains e.born).length:=by
 unfold leftOf
 rw[<-e1c,Array.toList_filter]
theorem zI {sn:Array Nat}{n:Nat}:(!sn.contains n)=true↔n∉sn:=by
 rw[e5i,<-e5e,e6q]
theorem b2l {es es':Array MapEntry}{sn:Array Nat}{e:MapEntry}(he:e∈es.toList)(hn:e.born∉sn)(hs:es'.toList.Sublist es.toList):(leftOf es' (sn.push e.born)).size<(leftOf es sn).size:=by
 rw[yS,yS]
 refine Nat.lt_of_le_of_lt (hs.filter _).length_le ?_
 refine yG (e:=e) (λx hx=>zI.2 λh=>zI.1 hx (Array.mem_push_of_mem _ h)) (zI.2 hn) ?_ he
 simp only[Bool.not_eq_false',e6q];exact Array.mem_push_self
structure J2 (B:Base)(Fr:Nat->Prop)(E:Env)(st:St)(a0:Act)(id r rb:Nat)(kt:KT)(m0:List Int->Option Int)(cl:Nat)(seen:List (List Int))(es:Array MapEntry)(sn:Array Nat)(W:World):Prop where
  sat:Sat B Fr E (st.set id (some (.mp true kt (oT m0 seen)))) a0 W
  rho:E.ρ id= .at r
  mp:W.heap[r]?=some (.map es cl)
  ok:MapOk kt (oT m0 seen) es cl
  it:W.heap[rb]?=some (.mapIter (some r) cl sn cl)
  bn:∀e∈es.toList,e.born∈sn↔∃k∈seen,k.length=kt.n/\e.key=aJ kt k
  ow:¬E.S rb/\B.ow rb
  own:¬E.S r/\B.ow r
  nr:∀i,(st.set id (some (.mp true kt m0))).hp i≠none->E.ρ i≠ .at rb
structure J3 (B:Base)(Fr:Nat->Prop)(E:Env)(st:St)(a0:Act)(id r rb:Nat)(kt:KT)(m0:List Int->Option Int)(cl:Nat)(seen:List (List Int))(es:Array MapEntry)(sn:Array Nat)(e:MapEntry)(k:List Int)(x:Int)(W:World):Prop where
  sat:Sat B Fr E (st.set id (some (.mp true kt (oT m0 seen)))) a0 W
  rho:E.ρ id= .at r
  mp:W.heap[r]?=some (.map es cl)
  ok:MapOk kt (oT m0 seen) es cl
  it:W.heap[rb]?=some (.mapIter (some r) cl (sn.push e.born) cl)
  bn:∀e∈es.toList,e.born∈sn↔∃k∈seen,k.length=kt.n/\e.key=aJ kt k
  ow:¬E.S rb/\B.ow rb
  own:¬E.S r/\B.ow r
  nr:∀i,(st.set id (some (.mp true kt m0))).hp i≠none->E.ρ i≠ .at rb
  e1:e∈es.toList
  e2:e.born∉sn
  e3:e.key=aJ kt k
  e4:e.val=jW kt x
  kl:k.length=kt.n
  kx:oT m0 seen k=some x
variable {a0:Act} {id r rb cl:Nat} {kt:KT} {m0:List Int->Option Int} {seen:List (List Int)} {es:Array MapEntry} {sn:Array Nat} {e:MapEntry} {k:List Int} {x:Int}
theorem a6h {st:St}{id i:Nat}{r r':Res}(h:(st.set id (some r)).hp i≠none):(st.set id (some r')).hp i≠none:=by
 revert h
 show(bif Nat.beq i id then some r else st.hp i)≠none->(bif Nat.beq i id then some r' else st.hp i)≠none
 cases Nat.beq i id<;>simp
theorem J2.next (h:J2 B Fr E st a0 id r rb kt m0 cl seen es sn W)(ty:Nat):
  ((Instr.next (.pointer (some ⟨rb,0,none⟩)) false ty).run P W= .ok (.tuple #[.bool false]) W/\oT m0 seen=c6r m0)\/
  ∃e k x W',(Instr.next (.pointer (some ⟨rb,0,none⟩)) false ty).run P W= .ok (.tuple #[.bool true,aJ kt k,jW kt x]) W'/\J3 B Fr E st a0 id r rb kt m0 cl seen es sn e k x W':=by
 have hne:r≠rb:=λe=>by have:=h.mp;rw[e,h.it]at this;cases this
 rcases run_next_at (P:=P) W ty rb r cl cl sn es cl h.it h.mp (λx hx=>h.ok.lt x hx) (e0g _)with⟨h1,h2⟩|⟨e,he,W1,hW1,h2⟩
 ·refine .inl ⟨h2,b9h λk x hk=>?_⟩
  obtain⟨hlen,e,he,hke⟩:=h.ok.all k x hk
  have:e.born∈sn:=e3q λhn=>by
   have:e∈leftOf es sn:=by
    unfold leftOf
    rw[e6m]
    exact⟨e1p.1 he,zI.2 hn⟩
   have h3:=Array.size_pos_of_mem this
   omega
  obtain⟨k',hk',hl',hke'⟩:=(h.bn e he).1 this
  rw[keyV_inj h.ok.wf hlen hl' (hke.symm.trans hke')];exact hk'
 ·right
  have he':=e1p.1 he
  unfold leftOf at he'
  rw[e6m]at he'
  obtain⟨hes,hns⟩:=he'
  have hes':e∈es.toList:=e1p.2 hes
  obtain⟨k,x,hlen,hkey,hval,hfk⟩:=h.ok.ent e hes'
  have hsW1:Sat B Fr E (st.set id (some (.mp true kt (oT m0 seen)))) a0 W1:=by
   rcases hW1 with rfl|rfl
   ·exact h.sat
   ·exact h.sat.drew
  have hh1:W1.heap[rb]?=some (.mapIter (some r) cl sn cl):=by rcases hW1 with rfl|rfl<;>exact h.it
  have hm1:W1.heap[r]?=some (.map es cl):=by rcases hW1 with rfl|rfl<;>exact h.mp
  have hlt:rb<W1.heap.size:=(d9w.1 hh1).1
  rw[hkey,hval]at h2
  exact⟨e,k,x,_,h2,hsW1.aside (o':= .mapIter (some r) cl (sn.push e.born) cl) hh1 (by simp) (by simp) h.ow λi hi=>h.nr i (a6h hi),h.rho,(e1x hne).trans hm1,h.ok,e2z hlt,h.bn,h.ow,h.own,h.nr,hes',zI.1 hns,hkey,hval,hlen,hfk⟩
theorem J3.below {W':World}(h:J3 B Fr E st a0 id r rb kt m0 cl seen es sn e k x W)(hb:Below W.heap.size W W'):J3 B Fr E st a0 id r rb kt m0 cl seen es sn e k x W':=
 ⟨h.sat.below hb,h.rho,(hb.block _ (d9w.1 h.mp).1).trans h.mp,h.ok,(hb.block _ (d9w.1 h.it).1).trans h.it,h.bn,h.ow,h.own,h.nr,h.e1,h.e2,h.e3,h.e4,h.kl,h.kx⟩
theorem J3.entry (h:J3 B Fr E st a0 id r rb kt m0 cl seen es sn e k x W):(Instr.entry (.pointer (some ⟨rb,0,none⟩))).run P W= .ok (.tuple #[aJ kt k,jW kt x]) W:=by
 rw[<-h.e3,<-h.e4]
 exact run_entry_at W rb r cl sn es cl e h.it h.mp h.e1 h.ok.nd
theorem J3.bn' (h:J3 B Fr E st a0 id r rb kt m0 cl seen es sn e k x W){es':Array MapEntry}(hs:es'.toList.Sublist es.toList):∀e'∈es'.toList,e'.born∈sn.push e.born↔∃k'∈k::seen,k'.length=kt.n/\e'.key=aJ kt k':=λe2 he2=>by
 have he2:=hs.subset he2
 constructor
 ·intro hx
  rcases Array.mem_push.1 hx with hx|hx
  ·obtain⟨k',h3,h4⟩:=(h.bn e2 he2).1 hx
   exact⟨k',d9v _ h3,h4⟩
  ·obtain rfl:=mO h.ok.nd he2 h.e1 hx
   exact⟨k,d9y ..,h.kl,h.e3⟩
 ·rintro⟨k',hk',hl',hke'⟩
  rcases e0b.1 hk' with rfl|hk'
  ·obtain rfl:=mO h.ok.kn he2 h.e1 (hke'.trans h.e3.symm)
   exact Array.mem_push_self
  ·exact Array.mem_push_of_mem _ ((h.bn e2 he2).2 ⟨k',hk',hl',hke'⟩)
theorem J3.keep (h:J3 B Fr E st a0 id r rb kt m0 cl seen es sn e k x W)(hx:0<x):J2 B Fr E st a0 id r rb kt m0 cl (k::seen) es (sn.push e.born) W:=by
 have hk:=b4a (seen:=seen) (zW h.kx).1 hx
 exact⟨by rw[hk];exact h.sat,h.rho,h.mp,by rw[hk];exact h.ok,h.it,h.bn' (e4x _),h.ow,h.own,h.nr⟩
theorem J3.del (h:J3 B Fr E st a0 id r rb kt m0 cl seen es sn e k x W)(hx:x<=0)(hT:bQ P T){t u ty:Nat}(h1:kmp T t=some kt):
  ∃es' W',(Builtin.delete_ #[t,u] ty #[.map (some r),aJ kt k]).run P W= .ok (.tuple #[]) W'/\J2 B Fr E st a0 id r rb kt m0 cl (k::seen) es' (sn.push e.born) W'/\es'.toList.Sublist es.toList:=by
 have hne:rb≠r:=λe=>by have:=h.mp;rw[<-e,h.it]at this;cases this
 obtain⟨es',h2,h3,h4⟩:=a1v (P:=P) (u:=u) (ty:=ty) hT h1 h.mp h.ok h.kl
 rw[b9g (zW h.kx).1 hx]at h3
 refine⟨es',_,h2,⟨?_,h.rho,e2z (d9w.1 h.mp).1,h3,(e1x hne).trans h.it,h.bn' h4,h.ow,h.own,h.nr⟩,h4⟩
 have hl:(st.set id (some (.mp true kt (oT m0 seen)))).hp id≠none:=by
  show(bif Nat.beq id id then _ else _)≠none
  rw[show Nat.beq id id=true from e3k id];simp
 have hs:=h.sat.writeO (o':= .map es' cl) (r:= .mp true kt (oT m0 (k::seen))) hl h.rho h.mp (by simp) (by simp) h.own ⟨r,es',cl,h.rho,e2z (d9w.1 h.mp).1,h.own,h3⟩
 have:(st.set id (some (.mp true kt (oT m0 seen)))).set id (some (.mp true kt (oT m0 (k::seen))))=st.set id (some (.mp true kt (oT m0 (k::seen)))):=sG ..
 rw[this]at hs;exact hs
end Go.Px
namespace Go.Px.Tryz
open Go Go.Proofs Go.Px Go.RowKit
section
variable {n:Nat} {P:Program} {ops:Array Oper} {Q:Exit->Act->World->Prop} {a:Act} {w w':World} {rest:List Oper} {o:Oper} {v:Value}
theorem bR (hg:o.guard=none)(hrun:(o.semAt Fence.wide.round a.eval).run P w= .ok (.value v) w')(h:wpListIn Fence.wide n P ops Q rest (a.put o.dst v) w'):wpListIn Fence.wide n P ops Q (o::rest) a w:=
 wpListIn_plain hg λK hK=>⟨λ_ _=>trivial,by rw[hrun];exact hK _ _ h⟩
theorem c3q (hg:o.guard=none)(hrun:(o.semAt Fence.wide.round a.eval).run P w= .ok .skip w')(h:wpListIn Fence.wide n P ops Q rest (a.put o.dst undef) w'):wpListIn Fence.wide n P ops Q (o::rest) a w:=
 wpListIn_plain hg λK hK=>⟨λ_ _=>trivial,by rw[hrun];exact hK _ _ h⟩
theorem bV (a:Act){i:Nat}(v:Value)(h:i<a.tmps.size):(a.put (some i) v).tmps.getD i undef=v:=by
 show(a.tmps.setIfInBounds i v).getD i undef=v
 rw[d9x,e5a h];rfl
theorem gT (a:Act){i j:Nat}(v:Value)(h:i≠j):(a.put (some i) v).tmps.getD j undef=a.tmps.getD j undef:=by
 show(a.tmps.setIfInBounds i v).getD j undef=_
 rw[d9x,e3t h]
 exact(d9x ..).symm
end
def lef:Code->Code| .seq c _=>c|c=>c
def rig:Code->Code| .seq _ c=>c|c=>c
structure Kq (a0:Act)(r rb:Nat)(a:Act):Prop where
  size:a.tmps.size=57
  df:a.defers=a0.defers
  g3:a.tmps.getD 3 undef= .map (some r)
  gi:a.tmps.getD 46 undef= .pointer (some ⟨rb,0,none⟩)
theorem Kq.put {a0 a:Act}{r rb i:Nat}{v:Value}(h:Kq a0 r rb a)(h1:i≠3)(h2:i≠46):Kq a0 r rb (a.put (some i) v):=
 ⟨by show(a.tmps.setIfInBounds i v).size=_;rw[e2i];exact h.size,h.df,by rw[gT _ _ h1];exact h.g3,by rw[gT _ _ h2];exact h.gi⟩
section
variable {o:Oper} {ρ:Operand->Value} {w w':World}
theorem b8x {t r kT eT:Nat}{y:Operand}{es:Array MapEntry}{cl:Nat}(ho:o.op= .range t y)(hu:Tryz.prog.underlying t=some (.map kT eT))(hy:ρ y= .map (some r))(hh:w.heap[r]?=some (.map es cl)):
  (o.semAt Fence.wide.round ρ).run Tryz.prog w= .ok (.value (.pointer (some ⟨w.heap.size,0,none⟩))) (w.alloc (.mapIter (some r) cl #[] cl)):=by
 rw[e3x _ _ _ (by rw[ho];simp)]
 simp only[execOp,ho,hy,Instr.range,d9t,e0k hu,aH hh,d9q,d9u]
 rfl
theorem b3h {y:Operand}{u v:Value}(ho:o.op= .next y false)(hy:ρ y=u)(hr:(Instr.next u false o.type).run Tryz.prog w= .ok v w'):(o.semAt Fence.wide.round ρ).run Tryz.prog w= .ok (.value v) w':=by
 rw[e3x _ _ _ (by rw[ho];simp)]
 simp only[execOp,ho,hy,d9t,hr,d9q,d9u]
theorem b8v {y:Operand}{u v:Value}(ho:o.op= .entry y)(hy:ρ y=u)(hr:(Instr.entry u).run Tryz.prog w= .ok v w'):(o.semAt Fence.wide.round ρ).run Tryz.prog w= .ok (.value v) w':=by
 rw[e3x _ _ _ (by rw[ho];simp)]
 simp only[execOp,ho,hy,d9t,hr,d9q,d9u]
theorem kK {y:Operand}{cs:Array Value}{v:Value}{i:Nat}(ho:o.op= .extract y i)(hy:ρ y= .tuple cs)(hv:cs[i]?=some v):(o.semAt Fence.wide.round ρ).run Tryz.prog w= .ok (.value v) w:=by
 rw[e3x _ _ _ (by rw[ho];simp)]
 simp[execOp,ho,hy,Instr.extract,d9t,hv,d9u]
theorem b8u {t:Nat}{ti:TI}(ho:o.op= .alloc t)(hk:TOk Tryz.prog ti t):(o.semAt Fence.wide.round ρ).run Tryz.prog w= .ok (.value (.pointer (some ⟨w.heap.size,0,none⟩))) (w.alloc (.cells ti.z.cells t (0,0))):=by
 rw[e3x _ _ _ (by rw[ho];simp)]
 simp only[execOp,ho,Instr.alloc,d9t,hk.zeroValue,d9q,nV,d9u]
theorem b8y {t:Nat}{ti:TI}{x y:Operand}(ho:o.op= .store t x y)(hk:TOk Tryz.prog ti t){b j:Nat}{c:Array Value}{U:TypeId}{u:Value}(hx:ρ x= .pointer (some ⟨b,j,none⟩))(hy:ρ y=u)(hh:w.heap[b]?=some (Obj.cells c U (0,0)))
  (hs:u.cells.size=ti.size) (hle:j+ti.size<=c.size) (h1:∀j,j<ti.size->(u.cells.getD j undef).oneCell'=true):
  (o.semAt Fence.wide.round ρ).run Tryz.prog w= .ok .skip (w.setRow b (bJ c j u.cells.toList)):=by
 rw[e3x _ _ _ (by rw[ho];simp)]
 simp only[execOp,ho,hx,hy,d9t,jS hk hh hs hle h1,d9q,d9u]
theorem b8w {t:Nat}{ti:TI}{x:Operand}(ho:o.op= .load t x)(hk:TOk Tryz.prog ti t)(hg:ti.agg=true){b:Nat}(g:Nat->Value)(hx:ρ x= .pointer (some ⟨b,0,none⟩))(h:∀j,j<ti.size->w.cell? ⟨b,0+j,none⟩=some (g j)):
  (o.semAt Fence.wide.round ρ).run Tryz.prog w= .ok (.value (.agg ((List.range ti.size).map g).toArray)) w:=by
 rw[e3x _ _ _ (by rw[ho];simp)]
 simp only[execOp,ho,hx,Instr.loadAt,Instr.sureAddr,d9t,dT hk hg g h,d9q,d9u]
theorem c8y {p t:Nat}{x:Operand}{k:Int}(ho:o.op= .binOp .leq t x (.const (.int .i64 0)) p)(hx:ρ x= .int .i64 k)(hc:ρ (.const (.int .i64 0))= .int .i64 0):(o.semAt Fence.wide.round ρ).run Tryz.prog w= .ok (.value (.bool (decide (k<=0)))) w:=by
 rw[e3x _ _ _ (by rw[ho];simp)]
 simp only[execOp,ho,hx,hc,d9t]
 rfl
theorem b3g {m k:Operand}{t u:Nat}{um uk:Value}(ho:o.op= .call {callee:= .builtin .delete,args:= #[m,k],argTypes:= #[t,u]})(hm:ρ m=um)(hk:ρ k=uk)(hr:(Builtin.delete_ #[t,u] o.type #[um,uk]).run Tryz.prog w= .ok (.tuple #[]) w'):
  (o.semAt Fence.wide.round ρ).run Tryz.prog w= .ok (.value (.tuple #[])) w':=by
 rw[e3x _ _ _ (by rw[ho];simp)]
 simp only[execOp,ho,resolve,invoke,builtin,d9t,d9u,d9q,e3h,e0o,e3c,hm,hk,hr]
end
noncomputable def b7a:Code:=(Tryz.f92.body).getD .skip
noncomputable def cL2:Code:=lef (rig (rig (rig b7a)))
def kt2:KT:=⟨true,2,false⟩
theorem c0s:kmp T 75=some kt2:=rfl
variable {B:Base} {Fr:Nat->Prop} {E:Env} {st:St} {a0 a:Act} {id r rb cl:Nat} {m0:List Int->Option Int} {seen:List (List Int)} {es:Array MapEntry} {sn:Array Nat} {W:World} {n:Nat} {Q:Exit->Act->World->Prop}
theorem c9p {e:MapEntry}{k:List Int}{x:Int}(k0:Kq a0 r rb a)(h:J3 B Fr E st a0 id r rb kt2 m0 cl seen es sn e k x W)
  (hq:∀a' W' seen' es' sn',Kq a0 r rb a'->J2 B Fr E st a0 id r rb kt2 m0 cl seen' es' sn' W'->(leftOf es' sn').size<(leftOf es sn).size->Q .normal a' W'):
  ((match cL2 with| .seq _ (.block _ (.loop (.seq _ (.seq _ (.block _ c)))))=>c|_=> .skip).wpIn Fence.wide n Tryz.prog Q a W):=by
 show(Code.seq (.region 9 _ false) (.seq (.region 10 _ false) (.cond (.tmp 53) (.region 11 _ false) .skip))).wpIn Fence.wide n Tryz.prog Q a W
 obtain⟨p,q,rfl⟩:∃p q,k=[p,q]:=by
  have:=h.kl
  match k,this with
  |[p,q],_=>exact⟨p,q,rfl⟩
 have hne:r<W.heap.size:=(d9w.1 h.mp).1
 refine e6d ?_
 refine e6n ?_
 show wpListIn Fence.wide n Tryz.prog _ _ [_,_,_,_,_,_] a W
 refine bR (v:= .tuple #[aJ kt2 [p,q],.int .i64 x]) rfl (b8v (y:= .tmp 46) rfl k0.gi h.entry) ?_
 have k1:=k0.put (i:=49) (v:= .tuple #[aJ kt2 [p,q],.int .i64 x]) (by decide) (by decide)
 have g1:=bV a (i:=49) (.tuple #[aJ kt2 [p,q],.int .i64 x]) (by rw[k0.size];decide)
 show wpListIn Fence.wide n Tryz.prog _ _ _ (a.put (some 49) (.tuple #[aJ kt2 [p,q],.int .i64 x])) W
 generalize a.put (some 49) (.tuple #[aJ kt2 [p,q],.int .i64 x])=a1 at*
 refine bR (v:=aJ kt2 [p,q]) rfl (kK (y:= .tmp 49) rfl g1 rfl) ?_
 have k2:=k1.put (i:=50) (v:=aJ kt2 [p,q]) (by decide) (by decide)
 have g2:=bV a1 (i:=50) (aJ kt2 [p,q]) (by rw[k1.size];decide)
 have g2':=(gT a1 (i:=50) (j:=49) (aJ kt2 [p,q]) (by decide)).trans g1
 show wpListIn Fence.wide n Tryz.prog _ _ _ (a1.put (some 50) (aJ kt2 [p,q])) W
 generalize a1.put (some 50) (aJ kt2 [p,q])=a2 at*
 refine bR (v:= .int .i64 x) rfl (kK (y:= .tmp 49) rfl g2' rfl) ?_
 have k3:=k2.put (i:=51) (v:= .int .i64 x) (by decide) (by decide)
 have g3:=bV a2 (i:=51) (.int .i64 x) (by rw[k2.size];decide)
 have g3':=(gT a2 (i:=51) (j:=50) (.int .i64 x) (by decide)).trans g2
 show wpListIn Fence.wide n Tryz.prog _ _ _ (a2.put (some 51) (.int .i64 x)) W
 generalize a2.put (some 51) (.int .i64 x)=a3 at*
 refine bR (v:= .pointer (some ⟨W.heap.size,0,none⟩)) rfl (b8u (t:=48) rfl b9t) ?_
 have k4:=k3.put (i:=6) (v:= .pointer (some ⟨W.heap.size,0,none⟩)) (by decide) (by decide)
 have g4:=bV a3 (i:=6) (.pointer (some ⟨W.heap.size,0,none⟩)) (by rw[k3.size];decide)
 have g4':=(gT a3 (i:=6) (j:=50) (.pointer (some ⟨W.heap.size,0,none⟩)) (by decide)).trans g3'
 have g4'':=(gT a3 (i:=6) (j:=51) (.pointer (some ⟨W.heap.size,0,none⟩)) (by decide)).trans g3
 show wpListIn Fence.wide n Tryz.prog _ _ _ (a3.put (some 6) (.pointer (some ⟨W.heap.size,0,none⟩))) (W.alloc (.cells a9l.z.cells 48 (0,0)))
 generalize a3.put (some 6) (.pointer (some ⟨W.heap.size,0,none⟩))=a4 at*
 have hb1:Below W.heap.size W (W.alloc (.cells a9l.z.cells 48 (0,0))):=(e5p _ W).alloc (e0g _) _
 have hn1:(W.alloc (.cells a9l.z.cells 48 (0,0))).heap[W.heap.size]?=some (.cells a9l.z.cells 48 (0,0)):=dZ W _
 generalize W.alloc (.cells a9l.z.cells 48 (0,0))=W1 at*
 refine c3q rfl (b8y (x:= .tmp 6) (y:= .tmp 50) rfl b9t g4 g4' hn1 rfl (by decide) (λj hj=>by
  have:j=0\/j=1:=by have:j<2:=hj;omega
  rcases this with rfl|rfl<;>rfl)) ?_
 have hb2:Below W.heap.size W (W1.setRow W.heap.size (bJ a9l.z.cells 0 (aJ kt2 [p,q]).cells.toList)):=⟨hb1.os,hb1.tape,hb1.output,by simpa[World.setRow]using hb1.size,λk hk=>(e5v W1 W.heap.size k _ (by omega)).trans (hb1.block k hk)⟩
 have hn2:=e6t W1 W.heap.size a9l.z.cells (bJ a9l.z.cells 0 (aJ kt2 [p,q]).cells.toList) 48 (0,0) hn1
 generalize W1.setRow W.heap.size (bJ a9l.z.cells 0 (aJ kt2 [p,q]).cells.toList)=W2 at*
 have h5:=h.below hb2
 refine bR (v:= .int .i64 x) rfl (by rw[<-g4''];rfl) ?_
 have k5:=k4.put (i:=7) (v:= .int .i64 x) (by decide) (by decide)
 have g5:=bV a4 (i:=7) (.int .i64 x) (by rw[k4.size];decide)
 have g5':=(gT a4 (i:=7) (j:=6) (.int .i64 x) (by decide)).trans g4
 show(Code.seq (.region 10 _ false) (.cond (.tmp 53) (.region 11 _ false) .skip)).wpIn Fence.wide n Tryz.prog Q (a4.put (some 7) (.int .i64 x)) W2
 generalize a4.put (some 7) (.int .i64 x)=a5 at*
 refine e6d ?_
 refine e6n ?_
 show wpListIn Fence.wide n Tryz.prog _ _ [_,_] a5 W2
 refine bR (v:= .int .i64 x) rfl (by rw[<-g5];rfl) ?_
 have k6:=k5.put (i:=52) (v:= .int .i64 x) (by decide) (by decide)
 have g6:=bV a5 (i:=52) (.int .i64 x) (by rw[k5.size];decide)
 have g6':=(gT a5 (i:=52) (j:=6) (.int .i64 x) (by decide)).trans g5'
 show wpListIn Fence.wide n Tryz.prog _ _ _ (a5.put (some 52) (.int .i64 x)) W2
 generalize a5.put (some 52) (.int .i64 x)=a6 at*
 refine bR (v:= .bool (decide (x<=0))) rfl (c8y (x:= .tmp 52) rfl g6 rfl) ?_
 have k7:=k6.put (i:=53) (v:= .bool (decide (x<=0))) (by decide) (by decide)
 have g7:=bV a6 (i:=53) (.bool (decide (x<=0))) (by rw[k6.size];decide)
 have g7':=(gT a6 (i:=53) (j:=6) (.bool (decide (x<=0))) (by decide)).trans g6'
 show(Code.cond (.tmp 53) (.region 11 _ false) .skip).wpIn Fence.wide n Tryz.prog Q (a6.put (some 53) (.bool (decide (x<=0)))) W2
 generalize a6.put (some 53) (.bool (decide (x<=0)))=a7 at*
 refine wpIn_cond_split g7 (λhc=>?_) (λhc=>?_)
 ·have hc:x<=0:=e2u hc
  refine e6n ?_
  show wpListIn Fence.wide n Tryz.prog _ _ [_,_,_] a7 W2
  refine bR (v:= .map (some r)) rfl (by rw[<-k7.g3];rfl) ?_
  have k8:=k7.put (i:=54) (v:= .map (some r)) (by decide) (by decide)
  have g8:=bV a7 (i:=54) (.map (some r)) (by rw[k7.size];decide)
  have g8':=(gT a7 (i:=54) (j:=6) (.map (some r)) (by decide)).trans g7'
  show wpListIn Fence.wide n Tryz.prog _ _ _ (a7.put (some 54) (.map (some r))) W2
  generalize a7.put (some 54) (.map (some r))=a8 at*
  refine bR (v:=aJ kt2 [p,q]) rfl (b8w (x:= .tmp 6) (t:=48) (ti:=a9l) rfl b9t rfl (λj=>[Value.int .i64 p,.int .i64 q].getD j undef) g8' (λj hj=>by
   have:j=0\/j=1:=by have:j<2:=hj;omega
   rcases this with rfl|rfl<;>exact cK hn2 (by show _<2;decide))) ?_
  have k9:=k8.put (i:=55) (v:=aJ kt2 [p,q]) (by decide) (by decide)
  have g9:=bV a8 (i:=55) (aJ kt2 [p,q]) (by rw[k8.size];decide)
  have g9':=(gT a8 (i:=55) (j:=54) (aJ kt2 [p,q]) (by decide)).trans g8
  show wpListIn Fence.wide n Tryz.prog _ _ _ (a8.put (some 55) (aJ kt2 [p,q])) W2
  generalize a8.put (some 55) (aJ kt2 [p,q])=a9 at*
  obtain⟨es',W3,d1,d2,d3⟩:=h5.del (u:=48) (ty:=0) hc tys c0s
  refine bR (v:= .tuple #[]) rfl (b3g (m:= .tmp 54) (k:= .tmp 55) (t:=75) (u:=48) rfl g9' g9 d1) ?_
  exact hq _ _ _ _ _ k9 d2 (b2l h.e1 h.e2 d3)
 ·have hc:¬x<=0:=of_decide_eq_false hc
  exact wpIn_skip (hq _ _ _ _ _ k7 (h5.keep (by omega)) (b2l h.e1 h.e2 (e4x _)))
theorem c9y {st:St}{id:Nat}{r:Res}(hid:st.hp id=some r):st.set id (some r)=st:=by
 cases st with
 |mk n nx tm hp gh=>
  show St.mk n nx tm (λj=>bif Nat.beq j id then some r else hp j) gh=_
  congr 1
  funext j
  cases hb:Nat.beq j id with
  |true=>obtain rfl:=d9s hb;exact hid.symm
  |false=>rfl
theorem d3l (h:Sat B Fr E st a0 W)(hid:st.hp id=some (.mp true kt2 m0))(h3:st.tm 3= .mp id)(hn:st.n=57)
  (hq:∀a' W' rb r,Kq a0 r rb a'->E.ρ id= .at r->Sat B Fr E (st.set id (some (.mp true kt2 (c6r m0)))) a0 W'->Q .normal a' W'):cL2.wpIn Fence.wide n Tryz.prog Q a0 W:=by
 obtain⟨r,es,cl,hr,hh,hown,hmo⟩:=h.hp id _ hid
 have hown':¬E.S r/\B.ow r:=hown
 obtain⟨r',hr',g3⟩:∃b,E.ρ id= .at b/\a0.tmps.getD 3 undef= .map (some b):=by
  have:=h.tm 3 (by rw[hn];decide)
  rw[h3]at this;exact this
 rw[hr]at hr';cases hr'
 have hsz:=h.size
 rw[hn]at hsz
 obtain⟨kT,eT,hu,_,_⟩:=fV tys c0s
 show(Code.seq (.region 7 _ false) (.block 2 (.loop _))).wpIn Fence.wide n Tryz.prog Q a0 W
 refine e6d ?_
 refine e6n ?_
 show wpListIn Fence.wide n Tryz.prog _ _ [_,_] a0 W
 refine bR (v:= .map (some r)) rfl (by rw[<-g3];rfl) ?_
 have g1:=bV a0 (i:=45) (.map (some r)) (by rw[hsz];decide)
 have z1:(a0.put (some 45) (.map (some r))).tmps.size=57:=by show(a0.tmps.setIfInBounds _ _).size=_;rw[e2i];exact hsz
 have d1:(a0.put (some 45) (.map (some r))).defers=a0.defers:=rfl
 have g3':=(gT a0 (i:=45) (j:=3) (.map (some r)) (by decide)).trans g3
 show wpListIn Fence.wide n Tryz.prog _ _ _ (a0.put (some 45) (.map (some r))) W
 generalize a0.put (some 45) (.map (some r))=a1 at*
 refine bR (v:= .pointer (some ⟨W.heap.size,0,none⟩)) rfl (b8x (y:= .tmp 45) rfl hu g1 hh) ?_
 have k2:Kq a0 r W.heap.size (a1.put (some 46) (.pointer (some ⟨W.heap.size,0,none⟩))):=
  ⟨by show(a1.tmps.setIfInBounds _ _).size=_;rw[e2i];exact z1,d1,(gT a1 _ (by decide)).trans g3',bV a1 _ (by rw[z1];decide)⟩
 show(Code.block 2 (.loop _)).wpIn Fence.wide n Tryz.prog Q (a1.put (some 46) (.pointer (some ⟨W.heap.size,0,none⟩))) (W.alloc (.mapIter (some r) cl #[] cl))
 generalize a1.put (some 46) (.pointer (some ⟨W.heap.size,0,none⟩))=a2 at*
 have hb:Below W.heap.size W (W.alloc (.mapIter (some r) cl #[] cl)):=(e5p _ W).alloc (e0g _) _
 have hrl:r<W.heap.size:=(d9w.1 hh).1
 have hst:st.set id (some (.mp true kt2 (oT m0 [])))=st:=by
  rw[a6a]
  exact c9y hid
 have j0:J2 B Fr E st a0 id r W.heap.size kt2 m0 cl [] es #[] (W.alloc (.mapIter (some r) cl #[] cl)):=
  ⟨by rw[hst];exact h.below hb,hr,(hb.block r hrl).trans hh,by rw[a6a];exact hmo,dZ W _,λe _=>⟨λhx=>by simp at hx,λ⟨k,hk,_⟩=>by cases hk⟩,
   ⟨λhS=>e5g _ (h.S_lt _ hS),B.how W h.g _ (e0g _)⟩,hown',λi hi e=>by
    have hi':st.hp i≠none:=by
     rw[<-hst];exact a6h hi
    exact e5g _ (h.at_lt hi' e)⟩
 generalize W.heap.size=rb at*
 generalize W.alloc (.mapIter (some r) cl #[] cl)=W2 at*
 refine wpIn_block ?_
 refine oZ (λ(i:Nat) a W=>∃seen es sn,Kq a0 r rb a/\J2 B Fr E st a0 id r rb kt2 m0 cl seen es sn W/\(leftOf es sn).size=i) (λi=>i) _ ⟨[],es,#[],k2,j0,rfl⟩ ?_
 rintro i a W ⟨seen,es,sn,k0,j,rfl⟩
 show(Code.seq (.region 8 _ false) (.seq (.cond (.tmp 48) .skip (.exit 2)) (.block 3 _))).wpIn Fence.wide n Tryz.prog _ a W
 refine e6d ?_
 refine e6n ?_
 show wpListIn Fence.wide n Tryz.prog _ _ [_,_] a W
 rcases j.next (P:=Tryz.prog) 0 with⟨n1,n2⟩|⟨e,k,x,W',n1,n2⟩
 ·refine bR (v:= .tuple #[.bool false]) rfl (b3h (y:= .tmp 46) rfl k0.gi n1) ?_
  have k1:=k0.put (i:=47) (v:= .tuple #[.bool false]) (by decide) (by decide)
  have g1:=bV a (i:=47) (.tuple #[.bool false]) (by rw[k0.size];decide)
  show wpListIn Fence.wide n Tryz.prog _ _ _ (a.put (some 47) (.tuple #[.bool false])) W
  generalize a.put (some 47) (.tuple #[.bool false])=a1 at*
  refine bR (v:= .bool false) rfl (kK (y:= .tmp 47) rfl g1 rfl) ?_
  have k2:=k1.put (i:=48) (v:= .bool false) (by decide) (by decide)
  have g2:=bV a1 (i:=48) (.bool false) (by rw[k1.size];decide)
  show(Code.seq (.cond (.tmp 48) .skip (.exit 2)) (.block 3 _)).wpIn Fence.wide n Tryz.prog _ (a1.put (some 48) (.bool false)) W
  generalize a1.put (some 48) (.bool false)=a2 at*
  refine e6d ?_
  refine wpIn_cond_split g2 (λhc=>by cases hc) (λ_=>?_)
  refine wpIn_exit ?_
  exact hq _ _ _ _ k2 hr (by rw[<-n2];exact j.sat)
 ·refine bR (v:= .tuple #[.bool true,aJ kt2 k,jW kt2 x]) rfl (b3h (y:= .tmp 46) rfl k0.gi n1) ?_
  have k1:=k0.put (i:=47) (v:= .tuple #[.bool true,aJ kt2 k,jW kt2 x]) (by decide) (by decide)
  have g1:=bV a (i:=47) (.tuple #[.bool true,aJ kt2 k,jW kt2 x]) (by rw[k0.size];decide)
  show wpListIn Fence.wide n Tryz.prog _ _ _ (a.put (some 47) (.tuple #[.bool true,aJ kt2 k,jW kt2 x])) W'
  generalize a.put (some 47) (.tuple #[.bool true,aJ kt2 k,jW kt2 x])=a1 at*
  refine bR (v:= .bool true) rfl (kK (y:= .tmp 47) rfl g1 rfl) ?_
  have k2:=k1.put (i:=48) (v:= .bool true) (by decide) (by decide)
  have g2:=bV a1 (i:=48) (.bool true) (by rw[k1.size];decide)
  show(Code.seq (.cond (.tmp 48) .skip (.exit 2)) (.block 3 _)).wpIn Fence.wide n Tryz.prog _ (a1.put (some 48) (.bool true)) W'
  generalize a1.put (some 48) (.bool true)=a2 at*
  refine e6d ?_
  refine wpIn_cond_split g2 (λ_=>?_) (λhc=>by cases hc)
  refine wpIn_skip ?_
  refine wpIn_block ?_
  exact c9p k2 n2 λa' W' seen' es' sn' k' j' hlt=>⟨_,⟨seen',es',sn',k',j',rfl⟩,hlt⟩
end Go.Px.Tryz
namespace Go.Px.Tryz
open Go Go.Proofs Go.Px Go.RowKit
def qn (f:St->Prop):Exit->St->Prop:=λe st=>match e with| .normal=>f st|_=>False
noncomputable def cR0:Code:=lef b7a
noncomputable def cR1:Code:=lef (rig b7a)
noncomputable def cL1:Code:=lef (rig (rig b7a))
def d8f (m:List Int->Option Int)(st:St):Prop:=st.n=57/\∃id m',st.tm 3= .mp id/\st.hp id=some (.mp true kt2 m')/\m'=m
def aj (E:Int->Int->Prop)(u v:Int):Prop:=E u v\/E v u
theorem c4m {E:Int->Int->Prop}{B:Int->Int->Int×Int}(g:Int->Int->Int):c6r (fM (aj E) (cF E B g))=fM (λu v=>0<cF E B g u v) (cF E B g):=by
 funext k
 unfold c6r fM
 split
 ·rename_i x hx
  split at hx
  ·rename_i u v
   split at hx
   ·cases hx
    by_cases hp:cF E B g u v<=0
    ·rw[e0c hp];simp only;rw[d9z (by omega)]
    ·rw[d9z hp];simp only;rw[e0c (by omega)]
   ·cases hx
  ·cases hx
 ·rename_i hx
  split at hx
  ·rename_i u v
   split at hx
   ·cases hx
   ·rename_i hn
    have:cF E B g u v=0:=by
     unfold cF
     rw[d9z λh=>hn (.inl h),d9z λh=>hn (.inr h)]
    simp only;rw[d9z (by omega)]
  ·rfl
def pN (s:List (List Int))(u v:Int):Prop:=[u,v]∈s\/[v,u]∈s
theorem c3k {N:Nat}{E:Int->Int->Prop}{B:Int->Int->Int×Int}(h:NetOk N E B)(g:Int->Int->Int)(hg:kV E B g):
  exC Tryz.prog T [] cR0 false none 0 (entry 57 [nrD E B g]) (qn λst=>exC Tryz.prog T [] cR1 false none 0 st (qn λst=>exC Tryz.prog T [] cL1 false none 0 st (qn (d8f (fM (aj E) (cF E B g)))))):=by
 conv=>whnf
 repeat' first|(refine go ?_;conv=>whnf)|(refine go2 ?_ ?_<;>(try intro hc)<;>conv=>whnf)|fail
 refine e2x [0,2,3,6,7,13,45,46,47,49,50,51,52,54,55,56] 40 ?_
 (conv=>whnf)
 refine e3v 57 ({s:List (List Int)//s.Nodup/\(∀x∈s,x∈tD N)/\∀u v,[u,v]∈s->E u v}) 0 (λ⟨s,_⟩ nx=>([],[(1,.mp true ⟨true,2,false⟩ (fM (pN s) (cF E B g))),(7,.it true ⟨true,2,true⟩ (bM E B) s none)])) (λp=>100-p.1.length) (⟨[],by simp,by simp,by simp⟩) ?_ ?_
 ·rintro⟨s,hs,hsub,hsE⟩
  conv=>whnf
  refine Nx.mk (λka kb kx hx hs'=>?_) (λhe=>?_)
  ·obtain⟨a',b',e1,hE,hkx⟩:=a2d hx
   cases e1
   have hd1:dc1 kx=(B ka kb).1:=by rw[hkx];exact qU _ _
   have hd2:dc2 kx=(B ka kb).2:=by rw[hkx];exact vM _ _
   obtain⟨q1,q2,q3,q4⟩:=h.lt ka kb hE
   obtain⟨b1,b2,b3⟩:=h.bd ka kb hE
   obtain⟨b4,b5⟩:=hg ka kb hE
   have hgl:(fM E g [ka,kb]).getD 0=g ka kb:=by rw[gD hE];rfl
   have hc1:dc2 kx-(fM E g [ka,kb]).getD 0=cF E B g ka kb:=by rw[hd2,hgl];unfold cF;rw[e0c hE]
   have hc2:(fM E g [ka,kb]).getD 0-dc1 kx=cF E B g kb ka:=by rw[hd1,hgl];unfold cF;rw[d9z (h.anti _ _ hE),e0c hE]
   have hr1:=c2j h hg ka kb
   have hr2:=c2j h hg kb ka
   have hn:([ka,kb]::s).Nodup:=e2b.2 ⟨hs',hs⟩
   have hn2:∀x∈[ka,kb]::s,x∈tD N:=λy hy=>by
    rcases e0b.1 hy with rfl|hy
    ·exact wN ⟨q1,q2⟩ ⟨q3,q4⟩
    ·exact hsub y hy
   have hn3:∀u v,[u,v]∈[ka,kb]::s->E u v:=λu v hm=>by
    rcases e0b.1 hm with hm|hm
    ·cases hm;exact hE
    ·exact hsE u v hm
   have hl2:s.length+1<=100:=by
    have:=kI _ ([ka,kb]::s) hn hn2
    have:=vV h.n10
    rw[e0r]at*
    omega
   have e0:jV (fM (pN s) (cF E B g)) [ka,kb] (dc2 kx-(fM E g [ka,kb]).getD 0)=fM (λu v=>pN s u v\/(u=ka/\v=kb)) (cF E B g):=funext (mD (λu v=>e6i) hc1 λ_ _ _ _=>rfl)
   have e3:eF (jV (jV (fM (pN s) (cF E B g)) [ka,kb] (dc2 kx-(fM E g [ka,kb]).getD 0)) [kb,ka] ((fM E g [ka,kb]).getD 0-dc1 kx)) (fM (pN ([ka,kb]::s)) (cF E B g)):=by
    rw[e0]
    refine mD (λu v=>?_) hc2 λ_ _ _ _=>rfl
    unfold pN
    simp only[e0b,e5c,and_true]
    constructor
    ·rintro((⟨h1,h2⟩|h1)|(⟨h1,h2⟩|h1))
     ·exact .inl (.inr ⟨h1,h2⟩)
     ·exact .inl (.inl (.inl h1))
     ·exact .inr ⟨h2,h1⟩
     ·exact .inl (.inl (.inr h1))
    ·rintro(((h1|h1)|⟨h1,h2⟩)|⟨h1,h2⟩)
     ·exact .inl (.inr h1)
     ·exact .inr (.inr h1)
     ·exact .inl (.inl ⟨h1,h2⟩)
     ·exact .inr (.inl ⟨h2,h1⟩)
   clear e0
   conv=>whnf
   repeat' first|(refine go ?_;conv=>whnf)|(refine go2 ?_ ?_<;>(try intro hc)<;>conv=>whnf)|fail
   all_goals first|(exfalso;omega)|exact⟨rfl,⟨[ka,kb]::s,hn,hn2,hn3⟩,Lf,by simp only[e0r];omega⟩
  ·have e4:fM (pN s) (cF E B g)=fM (aj E) (cF E B g):=funext (mC (λu v=>by
    unfold pN aj
    have he1:=λu v=>he u v
    exact⟨λh=>h.imp (hsE u v) (hsE v u),λh=>h.imp (λhE=>he _ _ (gD hE)) λhE=>he _ _ (gD hE)⟩) λ_ _ _=>rfl)
   conv=>whnf
   repeat' first|(refine go ?_;conv=>whnf)|(refine go2 ?_ ?_<;>(try intro hc)<;>conv=>whnf)|fail
   exact⟨rfl,1,_,rfl,rfl,e4⟩
 ·have e0:eF (λ_=>none) (fM (pN []) (cF E B g)):=b1h λu v h=>by simp[pN]at h
  exact Lf
theorem Sat.less {B:Base}{Fr:Nat->Prop}{E:Env}{st st':St}{a a':Act}{W:World}(h:Sat B Fr E st a W)(hn:a'.tmps.size=st'.n)(hd:a'.defers=a.defers)(ht:∀i,i<st'.n->aK E W (st'.tm i) (a'.tmps.getD i undef))(hh:st'.hp=st.hp):Sat B Fr E st' a' W:=
 ⟨hn,ht,λid r hr=>h.hp id r (by rw[<-hh];exact hr),λi j b hi hj=>h.dist i j b (by rw[<-hh];exact hi) (by rw[<-hh];exact hj),h.fr,h.sub,h.sup,h.s0,by rw[hd];exact h.df,h.dn,h.dd,h.g,h.r0⟩
theorem a3j {f:St->Prop}{e:Exit}{st:St}(h:qn f e st):e= .normal/\f st:=by
 cases e<;>first|exact⟨rfl,h⟩|exact h.elim
theorem yT {N:Nat}{E:Int->Int->Prop}{B:Int->Int->Int×Int}(h:NetOk N E B)(g:Int->Int->Int)(hg:kV E B g):
  FnN Tryz.prog 92 [nrD E B g] (.mp true ⟨true,2,false⟩ (fM (λu v=>0<cF E B g u v) (cF E B g))) (.mp 0):=by
 have hvc:=c3k h g hg
 refine⟨Tryz.call92,λS w vals hS hv=>?_⟩
 rw[<-e7m (n:=0)]
 refine e5m Tryz.func92 rfl trivial ?_
 have hB:(∀b,(eI S w).ow b↔w.heap.size<=b)/\(eI S w).S0=S/\(eI S w).G w/\∀id,(eI S w).ρ0 id= .un:=⟨λ_=>e6i,rfl,e5p _ _,λ_=>rfl⟩
 have hs:=mB (n:=57) hB hS hv (by show 1<=57;decide)
 let F:Fam Tryz.prog none 0:=⟨λ_ B=>B=eI S w,λ_ B e j hj=>by subst e;exact absurd rfl hj,λ_ e=>by cases e⟩
 show(Code.seq cR0 (.seq cR1 (.seq cL1 (.seq cL2 (.seq (.region 12 _ false) .ret))))).wpIn Fence.wide 0 Tryz.prog _ _ w
 refine e6d ?_
 refine iE (T:=T) (cuts:=[]) tys hM cR0 false none 0 F none 0 _ _ (λ_=>rfl) (by rw[<-qZ];exact hvc) _ _ _ ⟨eI S w,_,rfl,hs.weak λ_ _=>trivial⟩ ?_
 rintro e st1 a1 W1 hq1 hs1
 obtain⟨rfl,hq1⟩:=a3j hq1
 show(Code.seq cR1 (.seq cL1 (.seq cL2 (.seq (.region 12 _ false) .ret)))).wpIn Fence.wide 0 Tryz.prog _ a1 W1
 refine e6d ?_
 refine iE (T:=T) (cuts:=[]) tys hM cR1 false none 0 F none 0 _ _ (λ_=>rfl) (by rw[<-qZ];exact hq1) _ _ _ hs1 ?_
 rintro e st2 a2 W2 hq2 hs2
 obtain⟨rfl,hq2⟩:=a3j hq2
 show(Code.seq cL1 (.seq cL2 (.seq (.region 12 _ false) .ret))).wpIn Fence.wide 0 Tryz.prog _ a2 W2
 refine e6d ?_
 refine iE (T:=T) (cuts:=[]) tys hM cL1 false none 0 F none 0 _ _ (λ_=>rfl) (by rw[<-qZ];exact hq2) _ _ _ hs2 ?_
 rintro e st3 a3 W3 hq3 hs3
 obtain⟨rfl,hq3⟩:=a3j hq3
 show(Code.seq cL2 (.seq (.region 12 _ false) .ret)).wpIn Fence.wide 0 Tryz.prog _ a3 W3
 refine e6d ?_
 obtain⟨n3,id,m',t3,h3,rfl⟩:=hq3
 obtain⟨B3,E3,hB3,hs3⟩:=hs3
 have hB3:B3=eI S w:=hB3
 subst hB3
 refine d3l hs3 h3 t3 n3 λa4 W4 rb r kq hr hs4=>?_
 show(Code.seq (.region 12 _ false) .ret).wpIn Fence.wide 0 Tryz.prog _ a4 W4
 rw[c4m]at hs4
 refine e6d ?_
 refine e6n ?_
 show wpListIn Fence.wide 0 Tryz.prog _ _ [_,_] a4 W4
 refine bR (v:= .map (some r)) rfl (by rw[<-kq.g3];rfl) ?_
 have k5:=kq.put (i:=56) (v:= .map (some r)) (by decide) (by decide)
 have g5:=bV a4 (i:=56) (.map (some r)) (by rw[kq.size];decide)
 show wpListIn Fence.wide 0 Tryz.prog _ _ _ (a4.put (some 56) (.map (some r))) W4
 generalize a4.put (some 56) (.map (some r))=a5 at*
 refine bR (v:= .map (some r)) rfl (by rw[<-g5];rfl) ?_
 have k6:=k5.put (i:=2) (v:= .map (some r)) (by decide) (by decide)
 have g6:=bV a5 (i:=2) (.map (some r)) (by rw[k5.size];decide)
 show Code.ret.wpIn Fence.wide 0 Tryz.prog _ (a5.put (some 2) (.map (some r))) W4
 generalize a5.put (some 2) (.map (some r))=a6 at*
 refine wpIn_ret ?_
 have hdf:a6.defers=E3.D.map mark:=k6.df.trans hs4.df
 have hsat:Sat (eI S w) _ E3 ⟨57,0,λi=>bif Nat.beq i 2 then .mp id else .d .top,(st3.set id (some (.mp true kt2 (fM (λu v=>0<cF E B g u v) (cF E B g))))).hp,none⟩ a6 W4:=Sat.less hs4 k6.size k6.df (λi hi=>by
  show aK E3 W4 (bif Nat.beq i 2 then .mp id else .d .top) _
  by_cases e:i=2
  ·subst e;exact⟨r,hr,g6⟩
  ·rw[cG e];trivial) rfl
 clear g6 k6 hs4
 obtain⟨tmps,defers⟩:=a6
 simp only at hdf
 subst hdf
 refine cZ E3.D E3 W4 hsat rfl λE5 W5 hs5=>?_
 obtain⟨r5,e1,e2⟩:∃b,E5.ρ id= .at b/\tmps.getD 2 undef= .map (some b):=hs5.tm 2 (by show 2<57;decide)
 obtain⟨b,es,cl,m1,m2,m3,m4⟩:=hs5.hp id (.mp true kt2 (fM (λu v=>0<cF E B g u v) (cF E B g))) (by
  show(bif Nat.beq id id then _ else _)=_
  rw[bD];rfl)
 rw[e1]at m1;cases m1
 refine⟨.map (some r5),?_,.map (some r5),⟨E5.S,λj=>bif Nat.beq j 0 then .at r5 else .un,[]⟩,rfl,λj hj=>?_,hs5.sub,hs5.sup,hs5.g,⟨r5,es,cl,rfl,m2,m3,m4⟩,⟨r5,rfl,rfl⟩⟩
 ·rw[<-e2];exact results_tmp rfl tmps _ W5
 ·show(bif Nat.beq j 0 then Loc.at r5 else .un)= .un
  rw[cG hj];rfl
def nxC (X:DV)(a:Int)(l:List Int->Option Int):List DV:=[.pt (.ag 1 λ_=> .pt X 0) 0,.pt (.ag 1 λ_=> .mp ⟨true,2,false⟩ l) 0,.pt (.ag 1 λ_=>int a) 0]
theorem b2y (X:DV)(a:Int)(l:List Int->Option Int):Fn Tryz.prog 94 [.pt X 0,int a,.mp ⟨true,2,false⟩ l] (.fn 150 0 3 (λ_=> .top) λj=>(nxC X a l).getD j .top):=by
 refine e1t (cuts:=[]) tys hM Tryz.func94 rfl Tryz.call94 rfl ?_
 show exC Tryz.prog T [] _ false none 0 (entry 8 [.pt X 0,int a,.mp ⟨true,2,false⟩ l]) (cH T [ResultVar.tmp 6] _)
 conv=>whnf
 repeat' first|(refine go ?_;conv=>whnf)|(refine go2 ?_ ?_<;>(try intro hc)<;>conv=>whnf)|fail
 all_goals exact Lf
def xL (c:Nat->Nat->Int)(a t:Nat):Nat:=((List.range t).filter λt=>decide (0<c a t)).length
theorem b6z {c:Nat->Nat->Int}{a t:Nat}(h:0<c a t):xL c a (t+1)=xL c a t+1:=by
 unfold xL
 rw[e4d,e4j,List.filter_cons_of_pos (by simp[h])];simp
theorem c2r {c:Nat->Nat->Int}{a t:Nat}(h:¬0<c a t):xL c a (t+1)=xL c a t:=by
 unfold xL
 rw[e4d,e4j,List.filter_cons_of_neg (by simp[h])];simp
theorem b6y {c:Nat->Nat->Int}{a t N:Nat}(h:0<c a t)(ht:t<N):(nX c N a).getD (xL c a t) 0=t/\xL c a t<(nX c N a).length:=by
 obtain⟨m,rfl⟩:∃m,N=(t+1)+m:=⟨N-(t+1),by omega⟩
 have e:nX c (t+1+m) a=((List.range t).filter λt=>decide (0<c a t))++t::(((List.range m).map (t+1+ ·)).filter λt=>decide (0<c a t)):=by
  unfold nX
  rw[List.range_add,e4d,e4j,e4j,List.filter_cons_of_pos (by simp[h])]
  simp
 rw[e]
 unfold xL
 constructor
 ·rw[d9r,e1m (e0g _)];simp
 ·simp
theorem b6x {c:Nat->Nat->Int}{a N:Nat}:xL c a N=(nX c N a).length:=rfl
theorem a8r {R C:List (Int×Int)}(hR:R.length<=4)(hC:C.length<=4)(X:DV)(hn:Imp (.pt X 0) (.pt (.ag 5 λj=>match j with|0=>rgs R|1=>rgs C|_=> .top) 0))(a:Nat)(l:List Int->Option Int)(c:Nat->Nat->Int)
  (hc:∀t:Nat,(l [(a:Int),(t:Int)]).isSome=decide (0<c a t)) (L:List Int) (hL:L=(nX c (2+R.length+C.length) a).map λ(t:Nat)=>(t:Int)):Seq Tryz.prog 150 [] (nxC X a l) L.length (λk=>[int (L.getD k 0)]):=by
 have hnd:=(uN R C hR hC).imp (args':=[.pt X 0]) ⟨hn,trivial⟩ (e6y _)
 refine Seq.of_ex (cuts:=[]) tys hM Tryz.func150 rfl Tryz.call150 rfl rfl λly=>?_
 show exC Tryz.prog T [] _ false (some ⟨ly,_,_⟩) 0 (entry 29 ([]++[.v (.func (.yield ly) #[] #[])]++nxC X a l)) (d2t _)
 conv=>whnf
 repeat' first|((first|refine go ?_|refine gc (hnd) ?_);conv=>whnf)|(refine go2 ?_ ?_<;>(try intro hc)<;>conv=>whnf)|fail
 refine Lp.go 29 {t:Int//0<=t/\t<=2+R.length+C.length} (λ⟨t,_⟩=>⟨0,[(0,.d (.v (.func (.yield ly) #[] #[]))),(1,.d ((nxC X a l).getD 0 .top)),(2,.d ((nxC X a l).getD 1 .top)),(3,.d ((nxC X a l).getD 2 .top)),(9,.d (int (2+R.length+C.length))),(10,.d (int t))],[],some (xL c a t.toNat)⟩) (λp=>(2+R.length+C.length-p.1).toNat) ⟨0,by omega,by omega⟩ ?_ ?_ rfl (λ_=>rfl)
 ·rintro⟨t,t0,t1⟩
  by_cases ht:t<2+R.length+C.length
  ·have hct:=hc t.toNat
   rw[e3b t0]at hct
   have e1:(t+1).toNat=t.toNat+1:=by omega
   by_cases hp:0<c a t.toNat
   ·obtain⟨g1,g2⟩:=b6y (N:=2+R.length+C.length) hp (by omega)
    have e:some (xL c a t.toNat+1)=some (xL c a (t+1).toNat):=by rw[e1,b6z hp]
    have e2:xL c a t.toNat<L.length:=by rw[hL,e0z];exact g2
    have e3:L.getD (xL c a t.toNat) 0=t:=by
     rw[hL,d9r,e0j]
     rw[d9r]at g1
     rw[e0e g2]at g1⊢
     simp only[e2v]at g1
     simp only[e1y,e2v,g1]
     omega
    rw[e1r hp]at hct
    conv=>whnf
    repeat' first|(refine go ?_;conv=>whnf)|(refine go2 ?_ ?_<;>(try intro hc)<;>conv=>whnf)|fail
    all_goals first|(exfalso;rw[hct]at hc;cases hc;done)|exact .inl rfl|exact⟨rfl,⟨t+1,by omega,by omega⟩,Lf,by simp only;omega⟩
   ·have e:some (xL c a t.toNat)=some (xL c a (t+1).toNat):=by rw[e1,c2r hp]
    rw[e1o hp]at hct
    conv=>whnf
    repeat' first|(refine go ?_;conv=>whnf)|(refine go2 ?_ ?_<;>(try intro hc)<;>conv=>whnf)|fail
    all_goals first|(exfalso;rw[hct]at hc;cases hc;done)|exact⟨rfl,⟨t+1,by omega,by omega⟩,Lf,by simp only;omega⟩
  ·have e:xL c a t.toNat=L.length:=by rw[hL,e0z,<-b6x];congr 1;omega
   conv=>whnf
   repeat' first|(refine go ?_;conv=>whnf)|(refine go2 ?_ ?_<;>(try intro hc)<;>conv=>whnf)|fail
   all_goals first|exact .inr (e2r some e)
 ·exact Lf
def zl (l:List Nat):List Int:=l.map λ(x:Nat)=>(x:Int)
theorem nI (l:List Nat):(zl l).length=l.length:=e0z ..
theorem c6g (l:List Nat)(i:Nat):zl (l++[i])=zl l++[(i:Int)]:=by simp[zl]
theorem sO (l:List Nat)(j:Nat):(zl l).getD j 0=((l.getD j 0:Nat):Int):=by
 unfold zl
 rw[d9r,d9r,e0j]
 cases l[j]?<;>rfl
theorem b1c {l:List Nat}{off x:Nat}(ho:off<=l.length):(l++[x]).drop off=l.drop off++[x]:=List.drop_append_of_le_length ho
def znF (l:List Nat):Nat->DV:=bG int 0 (zl l)
theorem sD {l:List Nat}{n x m:Nat}{g:Nat->DV}(hn:n=l.length)(h:dI (g 0) (int x))(hm:m=(l++[x]).length):∀j,j<m->dI (apd n (znF l) g j) (znF (l++[x]) j):=by
 subst hn;subst hm
 intro j hj
 have:=aA (enc:=int) (d:=0) (l:=zl l) h j (by rw[e1f,nI];simpa using hj)
 rw[nI,<-c6g]at this
 exact this
theorem a0c {l:List Nat}{off n x m:Nat}{g:Nat->DV}(hn:n=l.length-off)(ho:off<=l.length)(h:dI (g 0) (int x))(hm:m=(l.drop off++[x]).length):∀j,j<m->dI (apd n (λj=>znF l (off+j)) g j) (znF (l.drop off++[x]) j):=by
 have e:(λj=>znF l (off+j))=znF (l.drop off):=by
  funext j
  unfold znF bG
  rw[sO,sO,d9r,d9r,e4n]
 rw[e]
 exact sD (by rw[hn,e2p]) h hm
def bF (b:Nat->Nat):Nat->Int:=λj=>(b j:Int)
theorem a7e (L:List Int)(h1:L.length<1000):FnF Tryz.prog 93 [ints L] 3 1 L.length (bG int 0 L) (.ms 0 1 0 L.length):=by
 cases hL:L with
 |nil=>
  refine FnF.of_ex (cuts:=[]) tys hM Tryz.func93 rfl Tryz.call93 rfl ?_
  show exC Tryz.prog T [] _ false none 0 (entry 8 [ints []]) (d1p T 0 [ResultVar.tmp 2] _ _)
  conv=>whnf
  repeat' first|(refine go ?_;conv=>whnf)|(refine go2 ?_ ?_<;>(try intro hc)<;>conv=>whnf)|(refine Uk.mk (λhn=>?_) ?_<;>(conv=>whnf))|fail
  all_goals first|exact Lf|((conv=>whnf);repeat' first|(refine e2d ?_)|((conv=>whnf);first|exact True.intro|(refine And.intro ?_ ?_)|exact rfl|exact e1h (e0f _)|exact e0h _|((conv=>arg 1;whnf);first|exact e0h _|(refine e1q ?_)|(refine e1i ?_)|(refine e2k ?_)|(refine e2e ?_ ?_)|(refine e1v ?_)|(refine e2f rfl ?_))|(refine aA ?_)|exact eF.refl _|exact aB|exact aC|exact e0m|exact bS.refl _)|exact rfl|(refine And.intro ?_ ?_)|exact e0h _;trace_state)
 |cons a l=>
  rw[<-hL]
  have h0:0<L.length:=by rw[hL];exact Nat.succ_pos _
  clear hL
  refine FnF.of_ex (cuts:=[]) tys hM Tryz.func93 rfl Tryz.call93 rfl ?_
  show exC Tryz.prog T [] _ false none 0 (entry 8 [ints L]) (d1p T 0 [ResultVar.tmp 2] _ _)
  conv=>whnf
  repeat' first|(refine go ?_;conv=>whnf)|(refine go2 ?_ ?_<;>(try intro hc)<;>conv=>whnf)|(refine Uk.mk (λhn=>?_) ?_<;>(conv=>whnf))|fail
  ·exfalso;omega
  ·conv=>whnf
   repeat' first|(refine e2d ?_)|((conv=>whnf);first|exact True.intro|(refine And.intro ?_ ?_)|exact rfl|exact e1h (e0f _)|exact e0h _|((conv=>arg 1;whnf);first|exact e0h _|(refine e1q ?_)|(refine e1i ?_)|(refine e2k ?_)|(refine e2e ?_ ?_)|(refine e1v ?_)|(refine e2f rfl ?_))|(refine aA ?_)|exact eF.refl _|exact aB|exact aC|exact e0m|exact bS.refl _)|exact rfl|(refine And.intro ?_ ?_)|exact e0h _
   all_goals first|omega|exact Lf
def cut (w0 w1:Int)(c:Int->Int->Int)(u v:Int):Int:=if(u=w0/\v=w1)\/(u=w1/\v=w0)then 0 else c u v
def cN (c:Int->Int->Int):Nat->Nat->Int:=λu v=>c u v
def mK (b:Nat->Nat):DV:= .ag 10 λj=>int (b j)
def stB (src:List Nat)(k:Nat):Nat->Nat:=λx=>if x∈src.take k then x+1 else 0
theorem c5h (src:List Nat):stB src src.length=fW src:=by unfold stB fW;rw[e5q]
theorem b9n {src:List Nat}{k:Nat}(h:k<src.length)(x:Nat):stB src (k+1) x=if x=src.getD k 0 then src.getD k 0+1 else stB src k x:=by
 unfold stB
 rw[bP src k 0 h]
 by_cases e:x=src.getD k 0
 ·rw[e0c e,e0c (by rw[e];simp),e]
 ·rw[d9z e]
  simp only[e0x,e1k,e,or_false]
theorem c2t {c:Int->Int->Int}(w0 w1:Int):eF (a1u (a1u (fM (λu v=>0<c u v) c) [w0,w1]) [w1,w0]) (fM (λu v=>0<cut w0 w1 c u v) (cut w0 w1 c)):=λk=>by
 unfold a1u
 by_cases e1:k=[w1,w0]
 ·rw[e0c e1,e1,b7m]
  unfold cut
  rw[e0c (.inr ⟨rfl,rfl⟩)];omega
 ·rw[d9z e1]
  by_cases e2:k=[w0,w1]
  ·rw[e0c e2,e2,b7m]
   unfold cut
   rw[e0c (.inl ⟨rfl,rfl⟩)];omega
  ·rw[d9z e2]
   unfold fM
   split
   ·rename_i u v
    have:cut w0 w1 c u v=c u v:=by
     unfold cut
     rw[d9z]
     rintro(⟨rfl,rfl⟩|⟨rfl,rfl⟩)
     ·exact e2 rfl
     ·exact e1 rfl
    simp only[this]
    by_cases hp:0<c u v
    ·rw[e0c hp,e0c hp]
    ·rw[d9z hp,d9z hp]
   ·rfl
theorem a6y {R C:List (Int×Int)}{Z:List (List (Int×Int))}(hR:R.length<=4)(hC:C.length<=4){E:Int->Int->Prop}{B:Int->Int->Int×Int}(h:NetOk (2+R.length+C.length) E B)(g:Int->Int->Int)(hg:kV E B g)(src:List Nat)(hs:∀x∈src,x<2+R.length+C.length)(hl:src.length<=100)(w0 w1:Int):
  Fn Tryz.prog 44 [d7a R C Z (bM E B) (fM E g),ints (zl src),.ag 2 λj=>match j with|0=>int w0|_=>int w1] (mK (a9m (cN (cut w0 w1 (cF E B g))) (2+R.length+C.length) src)):=by
 have hlf:=yT h g hg
 have hcl:=a7e (zl src) (by rw[nI];omega)
 rw[nI]at hcl
 have hem:=c2t (c:=cF E B g) w0 w1
 obtain⟨fin,hfin⟩:∃fin,a9m (cN (cut w0 w1 (cF E B g))) (2+R.length+C.length) src=fin:=⟨_,rfl⟩
 rw[hfin]
 refine e1t (cuts:=[]) tys hM Tryz.func44 rfl Tryz.call44 rfl ?_
 show exC Tryz.prog T [] _ false none 0 (entry 63 [d7a R C Z (bM E B) (fM E g),ints (zl src),.ag 2 λj=>match j with|0=>int w0|_=>int w1]) (cH T [ResultVar.cell 6 70] _)
 conv=>whnf
 repeat' first
  |(refine Ob.a ?_;conv=>whnf)
  |(refine Sp.tt ?_;conv=>whnf)
  |(refine Sp.ff ?_;conv=>whnf)
  |(refine Sp.yes ?_;conv=>whnf)
  |(refine Sp.no ?_;conv=>whnf)
  |(refine Sp.nyes ?_;conv=>whnf)
  |(refine Sp.nno ?_;conv=>whnf)
  |(refine Sp.ne (λhc=>?_) (λhc=>?_)<;>(conv=>whnf))
  |(refine Sp.dec (λhc=>?_) (λhc=>?_)<;>(conv=>whnf))
  |(refine Sp.ndec (λhc=>?_) (λhc=>?_)<;>(conv=>whnf))
  |(refine Sp.mk (λhc=>?_) (λhc=>?_)<;>(conv=>whnf))
  |(apply Cl.fr;(conv=>whnf);(first|(refine Ob.frX (hcl) ?_ ?_ ?_;(focus exact Lf);(focus exact Lf)));(conv=>whnf))
  |(apply Cl.nw;(conv=>whnf);(first|(refine Ob.nwX (hlf) ?_ ?_ ?_;(focus exact Lf);(focus exact Lf)));(conv=>whnf))
  |(refine Nx.mk (λka kb kx hx hs=>?_) (λhe=>?_)<;>(conv=>whnf))
  |(refine Nx.mk (λka kx hx hs=>?_) (λhe=>?_)<;>(conv=>whnf))
  |(refine Uk.mk (λhn=>?_) ?_<;>(conv=>whnf))
  |(refine Ap.a ?_ ?_<;>(conv=>whnf))
  |(refine Fi.a ?_;conv=>whnf)
  |(refine Yl.a ?_ ?_<;>(conv=>whnf))
  |(refine Ob.b ?_;conv=>whnf)
 obtain⟨N,hN⟩:∃N,N=2+R.length+C.length:=⟨_,rfl⟩
 rw[<-hN]at hs hfin
 have hN10:N<=10:=by omega
 have hself:∀a,cN (cut w0 w1 (cF E B g)) a a<=0:=λa=>by
  unfold cN cut
  rw[vK h]
  split<;>omega
 have hbi0:=BI.start (c:=cN (cut w0 w1 (cF E B g))) (N:=N) hs
 have hu0:2*uns (fW src) N+src.length<=2*N+src.length:=by have:=a6v (fW src) N;omega
 have hf0:b6q (cN (cut w0 w1 (cF E B g))) N (2*N+src.length) (fW src,src)=fin:=hfin
 generalize cut w0 w1 (cF E B g)=c at*
 clear hlf hfin
 refine e2x [0,1,2,6,7,8,9,12,13,26,27,37,38,40,41,42,43,44,45,46,47,49,50,51,52,54,55,56,57,58,59,60,61,62] 40 ?_
 (conv=>whnf)
 refine e3v 63 ({i:Int//0<=i/\i<=src.length}) 0 (λ⟨i,_⟩ nx=>([(28,.d (int i))],[(15,.row true 70 1 10 (rowF (bF (stB src i.toNat))))])) (λp=>(src.length-p.1).toNat) (⟨0,by omega,by omega⟩) ?_ ?_
 ·rintro⟨i,i0,i1⟩
  by_cases hi:i<src.length
  ·have hx:=hs _ (aE (l:=src) (i:=i.toNat) (by omega) 0)
   have hz:=sO src i.toNat
   have hzl:=nI src
   have e9:∀j,j<10->bF (stB src (i+1).toNat) j=if j=0+((zl src).getD i.toNat 0).toNat then(zl src).getD i.toNat 0+1 else bF (stB src i.toNat) j:=λj _=>by
    unfold bF
    rw[hz,show(i+1).toNat=i.toNat+1 by omega,b9n (by omega),e1b,e0f]
    split<;>rfl
   conv=>whnf
   repeat' first|(refine go ?_;conv=>whnf)|(refine go2 ?_ ?_<;>(try intro hc)<;>conv=>whnf)|fail
   all_goals first|(exfalso;omega)|exact⟨rfl,⟨i+1,by omega,by omega⟩,Lf,by simp only;omega⟩
  ·have e9:∀j,j<10->bF (stB src i.toNat) j=bF (fW src) j:=λj _=>by rw[show i.toNat=src.length by omega,c5h]
   have hzl:=nI src
   conv=>whnf
   repeat' first|(refine go ?_;conv=>whnf)|(refine go2 ?_ ?_<;>(try intro hc)<;>conv=>whnf)|fail
   all_goals try(exfalso;omega)
   refine e2x [0,1,2,6,7,8,9,49,62] 40 ?_
   (conv=>whnf)
   refine e3v 63 ({s:Bool×(Nat×Nat)×List Nat×(Nat->Nat)//s.2.1.2<=s.2.2.1.length/\s.2.2.1.length<=1000/\b6q (cN c) N s.2.1.1 (s.2.2.2,s.2.2.1.drop s.2.1.2)=fin/\BI (cN c) N src s.2.2.2 (s.2.2.1.drop s.2.1.2) (λ_ _=>False)/\2*uns s.2.2.2 N+(s.2.2.1.length-s.2.1.2)<=s.2.1.1/\2*uns s.2.2.2 N+s.2.2.1.length<=2*N+src.length}) 0 (λ⟨(bl,(f,off),L,b),_⟩ nx=>([],[(3,.mp bl ⟨true,2,false⟩ (fM (λu v=>0<c u v) c)),(15,.row true 70 1 10 (rowF (bF b))),(17,.row true 3 1 L.length (znF L)),(18,.cs true 1 (λ_=> .ms 17 1 off (L.length-off)))])) (λp=>p.1.2.1.1) (⟨(true,(2*N+src.length,0),src,fW src),by simp,by simp only;omega,hf0,hbi0,hu0,hu0⟩) ?_ ?_
   ·rintro⟨⟨bl,⟨f,off⟩,L,b⟩,ho,hL10,hf,hbi,hmu,hmu2⟩
    simp only at ho hL10 hf hbi hmu hmu2
    by_cases hq:off<L.length
    ·have hdrop:L.drop off=L.getD off 0::L.drop (off+1):=by
      rw[e5y hq,d9r,e0e hq];rfl
     obtain⟨f',rfl⟩:∃f',f=f'+1:=⟨f-1,by omega⟩
     rw[hdrop]at hf hbi
     have ha:(zl L).getD (off+Int.toNat 0) 0=((L.getD off 0:Nat):Int):=by rw[show off+Int.toNat 0=off from rfl,sO]
     have haN:=(hbi.que _ (d9y ..)).2
     have hround:=xU (hself _) hbi
     have hf:b6q (cN c) N f' (eG (L.getD off 0) (nX (cN c) N (L.getD off 0)) (b,L.drop (off+1)))=fin:=hf
     generalize L.getD off 0=a at*
     have hnx:=b2y (d3w R C Z (bM E B) (fM E g)) a (fM (λu v=>0<c u v) c)
     have hsq:=a8r hR hC (d3w R C Z (bM E B) (fM E g)) (Imp.pt rfl (Imp.ag rfl λj hj=>match j,hj with|0,_=>e6y _|1,_=>e6y _|2,_=>Imp.top _|3,_=>Imp.top _|4,_=>Imp.top _)) a (fM (λu v=>0<c u v) c) (cN c) (λt=>by
      by_cases hp:0<c a t
      ·rw[gD (p:=λu v=>0<c u v) (g:=c) (u:=(a:Int)) (v:=(t:Int)) hp,show cN c a t=c a t from rfl,e1r hp];rfl
      ·rw[b7m (p:=λu v=>0<c u v) (g:=c) (u:=(a:Int)) (v:=(t:Int)) hp,show cN c a t=c a t from rfl,e1o hp];rfl) (zl (nX (cN c) N a)) (by rw[hN];rfl)
     have hmo:∀k,k<(nX (cN c) N a).length->(nX (cN c) N a).getD k 0<N:=λk hk=>(wO.1 (aE hk 0)).1
     have hnext:∀k,k<(nX (cN c) N a).length->eG a ((nX (cN c) N a).take (k+1)) (b,L.drop (off+1))=pG a (eG a ((nX (cN c) N a).take k) (b,L.drop (off+1))) ((nX (cN c) N a).getD k 0):=λk hk=>by rw[bP _ k 0 hk,b0d]
     have hlastr:eG a ((nX (cN c) N a).take (nX (cN c) N a).length) (b,L.drop (off+1))=eG a (nX (cN c) N a) (b,L.drop (off+1)):=by rw[e5q]
     have hmu4:2*uns b N+L.length<=2*N+src.length:=hmu2
     generalize hO:nX (cN c) N a=O at*
     conv=>whnf
     repeat' first|((first|refine go ?_|refine gc (hnx) ?_);conv=>whnf)|(refine go2 ?_ ?_<;>(try intro hc)<;>conv=>whnf)|fail
     refine Rg.snap [0,1,2,6,7,8,9,12,13,38,42,45,46,47,49,50,51,52,54,55,56,57,58,59,60,61,62] 40 ?_
     (conv=>whnf)
     refine RgB.drop [17] ?_
     (conv=>whnf)
     refine RgB.go 63 ({s:Nat×Nat×List Nat//s.1<=O.length/\s.2.1<=s.2.2.length/\s.2.2.drop s.2.1=(eG a (O.take s.1) (b,L.drop (off+1))).2/\2*uns (eG a (O.take s.1) (b,L.drop (off+1))).1 N+s.2.2.length<=2*N+src.length}) 1 (λ⟨(k,off',L'),_⟩ nx=>[(15,.row true 70 1 10 (rowF (bF (eG a (O.take k) (b,L.drop (off+1))).1))),(nx,.row true 3 1 L'.length (znF L')),(18,.cs true 1 (λ_=> .ms nx 1 off' (L'.length-off')))]) (λp=>p.1.1) (⟨(0,off+1,L),by simp,by simp only;omega,rfl,hmu4⟩) hsq ?_ ?_ ?_
     ·rintro⟨⟨k,off',L'⟩,hk,ho',hd',hL'⟩ j hj0 hj
      simp only at hk ho' hd' hL' hj0
      subst hj0
      have hj:k<O.length:=by rw[nI]at hj;exact hj
      have hz:=sO O k
      have hmk:=hmo k hj
      have hnx:=hnext k hj
      have hbv:bF (eG a (O.take k) (b,L.drop (off+1))).1 (0+((zl O).getD k 0).toNat)=(((eG a (O.take k) (b,L.drop (off+1))).1 (O.getD k 0):Nat):Int):=by rw[hz,e1b,e0f];rfl
      by_cases hc1:(eG a (O.take k) (b,L.drop (off+1))).1 (O.getD k 0)=0
      ·have hst:pG a (eG a (O.take k) (b,L.drop (off+1))) (O.getD k 0)=(xQ (eG a (O.take k) (b,L.drop (off+1))).1 (O.getD k 0) (a+1),(eG a (O.take k) (b,L.drop (off+1))).2++[O.getD k 0]):=e0c hc1
       rw[hst]at hnx
       have hu:=xI (b:=(eG a (O.take k) (b,L.drop (off+1))).1) (k:=O.getD k 0) (v:=a+1) hc1 (by omega) (n:=N)
       rw[e0c hmk]at hu
       have e9:∀j,j<10->bF (eG a (O.take (k+1)) (b,L.drop (off+1))).1 j=if j=0+((zl O).getD k 0).toNat then(zl L).getD (off+Int.toNat 0) 0+1 else bF (eG a (O.take k) (b,L.drop (off+1))).1 j:=λj _=>by
        rw[hnx,hz,e1b,e0f,ha]
        show((xQ _ _ _ j:Nat):Int)=_
        unfold xQ
        split
        ·omega
        ·rfl
       have hx:dI (int ((zl O).getD k 0)) (int ((O.getD k 0:Nat):Int)):=⟨rfl,hz⟩
       have hmu5:2*uns (eG a (O.take (k+1)) (b,L.drop (off+1))).1 N+(L'.length+1)<=2*N+src.length:=by rw[hnx];show 2*uns (xQ _ _ _) N+_<=_;omega
       have hd5:L'.drop off'++[O.getD k 0]=(eG a (O.take (k+1)) (b,L.drop (off+1))).2:=by rw[hnx,hd']
       have hb0:((((eG a (O.take k) (b,L.drop (off+1))).1 (O.getD k 0):Nat):Int))=0:=by omega
       cases off' with
       |zero=>
        conv=>whnf
        repeat' first|(refine go ?_;conv=>whnf)|(refine go2 ?_ ?_<;>(try intro hc)<;>conv=>whnf)|fail
        all_goals try(exfalso;omega)
        all_goals(refine⟨rfl,⟨(k+1,0,L'++[O.getD k 0]),hj,by simp,hd5,by simp only[e1f,e3n];exact hmu5⟩,rfl,?_⟩;(conv=>whnf);repeat' first|(refine e2d ?_)|((conv=>whnf);first|exact True.intro|(refine And.intro ?_ ?_)|exact rfl|exact e1h (e0f _)|exact e0h _|((conv=>arg 1;whnf);first|exact e0h _|(refine e1q ?_)|(refine e1i ?_)|(refine e2k ?_)|(refine e2e ?_ ?_)|(refine e1v ?_)|(refine e2f rfl ?_))|(refine aA ?_)|exact eF.refl _|exact aB|exact aC|exact e0m|exact bS.refl _)|exact rfl|(refine And.intro ?_ ?_)|exact e0h _)
        all_goals first|exact qD ⟨rfl,rfl⟩ e9|exact sD (by omega) hx (by simp)|(simp;omega)|omega|(simp only[e1f,e3n,e2p];omega)
       |succ o=>
        conv=>whnf
        repeat' first|(refine go ?_;conv=>whnf)|(refine go2 ?_ ?_<;>(try intro hc)<;>conv=>whnf)|fail
        all_goals try(exfalso;omega)
        ·refine⟨rfl,⟨(k+1,0,L'.drop (o+1)++[O.getD k 0]),hj,by simp,hd5,by simp only[e1f,e3n,e2p];omega⟩,rfl,?_⟩
         conv=>whnf
         repeat' first|(refine e2d ?_)|((conv=>whnf);first|exact True.intro|(refine And.intro ?_ ?_)|exact rfl|exact e1h (e0f _)|exact e0h _|((conv=>arg 1;whnf);first|exact e0h _|(refine e1q ?_)|(refine e1i ?_)|(refine e2k ?_)|(refine e2e ?_ ?_)|(refine e1v ?_)|(refine e2f rfl ?_))|(refine aA ?_)|exact eF.refl _|exact aB|exact aC|exact e0m|exact bS.refl _)|exact rfl|(refine And.intro ?_ ?_)|exact e0h _
         all_goals first|exact qD ⟨rfl,rfl⟩ e9|exact a0c (by omega) ho' hx (by simp)|(simp;omega)|omega|(simp only[e1f,e3n,e2p];omega)
        ·refine⟨rfl,⟨(k+1,o+1,L'++[O.getD k 0]),hj,by simp only[e1f,e3n];omega,by simp only;rw[b1c ho'];exact hd5,by simp only[e1f,e3n];exact hmu5⟩,rfl,?_⟩
         conv=>whnf
         repeat' first|(refine e2d ?_)|((conv=>whnf);first|exact True.intro|(refine And.intro ?_ ?_)|exact rfl|exact e1h (e0f _)|exact e0h _|((conv=>arg 1;whnf);first|exact e0h _|(refine e1q ?_)|(refine e1i ?_)|(refine e2k ?_)|(refine e2e ?_ ?_)|(refine e1v ?_)|(refine e2f rfl ?_))|(refine aA ?_)|exact eF.refl _|exact aB|exact aC|exact e0m|exact bS.refl _)|exact rfl|(refine And.intro ?_ ?_)|exact e0h _
         all_goals first|exact qD ⟨rfl,rfl⟩ e9|exact sD (by omega) hx (by simp)|(simp;omega)|omega|(simp only[e1f,e3n,e2p];omega)
      ·have hst:pG a (eG a (O.take k) (b,L.drop (off+1))) (O.getD k 0)=eG a (O.take k) (b,L.drop (off+1)):=d9z hc1
       rw[hst]at hnx
       have e9:∀j,j<10->bF (eG a (O.take k) (b,L.drop (off+1))).1 j=bF (eG a (O.take (k+1)) (b,L.drop (off+1))).1 j:=λj _=>by rw[hnx]
       have hb0:¬((((eG a (O.take k) (b,L.drop (off+1))).1 (O.getD k 0):Nat):Int))=0:=by omega
       have hmu5:2*uns (eG a (O.take (k+1)) (b,L.drop (off+1))).1 N+L'.length<=2*N+src.length:=by rw[hnx];exact hL'
       have hd5:L'.drop off'=(eG a (O.take (k+1)) (b,L.drop (off+1))).2:=by rw[hnx,hd']
       conv=>whnf
       repeat' first|(refine go ?_;conv=>whnf)|(refine go2 ?_ ?_<;>(try intro hc)<;>conv=>whnf)|fail
       all_goals first|(exfalso;omega)|exact⟨rfl,⟨(k+1,off',L'),hj,ho',hd5,hmu5⟩,rfl,Lf⟩
     ·rintro⟨⟨k,off',L'⟩,hk,ho',hd',hL'⟩ hk'
      simp only at hk ho' hd' hL' hk'
      have hkO:k=O.length:=by rw[nI]at hk';exact hk'
      subst hkO
      rw[hlastr]at hd' hL'
      have e9:∀j,j<10->bF (eG a (O.take O.length) (b,L.drop (off+1))).1 j=bF (eG a O (b,L.drop (off+1))).1 j:=λj _=>by rw[hlastr]
      have hrr:=hround
      rw[<-hd']at hrr
      have hf2:b6q (cN c) N f' ((eG a O (b,L.drop (off+1))).1,L'.drop off')=fin:=by rw[hd'];exact hf
      have hm2:=hrr.2
      rw[e2p,e2p]at hm2
      have hm3:2*uns (eG a O (b,L.drop (off+1))).1 N+(L'.length-off')<=f':=by omega
      conv=>whnf
      repeat' first|(refine go ?_;conv=>whnf)|(refine go2 ?_ ?_<;>(try intro hc)<;>conv=>whnf)|fail
      all_goals first|exact⟨rfl,⟨(false,(f',off'),L',(eG a O (b,L.drop (off+1))).1),ho',by simp only;omega,hf2,hrr.1,hm3,hL'⟩,Lf,by simp only;omega⟩
     ·have e9:∀j,j<10->bF b j=bF (eG a (O.take 0) (b,L.drop (off+1))).1 j:=λ_ _=>rfl
      exact Lf
    ·have hnil:L.drop off=[]:=e3r (by omega)
     have hbf:b=fin:=by
      rw[hnil]at hf
      cases f<;>exact hf
     subst hbf
     conv=>whnf
     repeat' first|(refine go ?_;conv=>whnf)|(refine go2 ?_ ?_<;>(try intro hc)<;>conv=>whnf)|fail
     all_goals first|(exfalso;omega)|exact Lf
   ·exact Lf
 ·have e9:∀j,j<10->dI (int 0) (rowF (bF (stB src 0)) j):=λj _=>by
   unfold rowF bF stB
   simp
   exact⟨rfl,rfl⟩
  have e7:∀j,j<10->0=bF (stB src (Int.toNat 0)) j:=λj _=>by
   unfold bF stB
   simp
  exact Lf
structure Tr (N:Nat)(c:Int->Int->Int)(b:Nat->Nat)(r:Nat->Nat)(cnt:Nat):Prop where
  cN:cnt<=N+1
  lt:∀x,b x≠0->x<N/\r x<cnt/\b x<=N
  up:∀x,b x≠0->b x≠x+1->b (b x-1)≠0/\b x-1<N/\0<c ((b x-1:Nat):Int) (x:Int)/\r (b x-1)<r x
def pE (b:Nat->Nat):Nat->Nat->List (Int×Int)
  |0,_=>[]
  |f+1,x=>if b x=x+1 then []else(((b x-1:Nat):Int),(x:Int))::pE b f (b x-1)
def nZ (b:Nat->Nat):Nat->Nat->Nat
  |0,x=>x
  |f+1,x=>if b x=x+1 then x else nZ b f (b x-1)
def upG (g:Int->Int->Int)(a c x:Int):Int->Int->Int:=λu v=>if u=a/\v=c then x else g u v
open Classical in
def stG (E:Int->Int->Prop)(m:Int)(g:Int->Int->Int)(e:Int×Int):Int->Int->Int:=if E e.1 e.2 then upG g e.1 e.2 (g e.1 e.2+m)else upG g e.2 e.1 (g e.2 e.1-m)
def apG (E:Int->Int->Prop)(m:Int)(P:List (Int×Int))(g:Int->Int->Int):Int->Int->Int:=P.foldl (stG E m) g
def sQ (c:Int->Int->Int)(P:List (Int×Int))(m:Int):Int:=P.foldl (λm e=>min m (c e.1 e.2)) m
theorem b2v (c:Int->Int->Int)(P:List (Int×Int))(e:Int×Int)(m:Int):sQ c (P++[e]) m=min (sQ c P m) (c e.1 e.2):=by unfold sQ;rw[e4v];rfl
theorem b6i (E:Int->Int->Prop)(m:Int)(P:List (Int×Int))(e:Int×Int)(g:Int->Int->Int):apG E m (P++[e]) g=stG E m (apG E m P g) e:=by unfold apG;rw[e4v];rfl
theorem rV (c:Int->Int->Int):∀(P:List (Int×Int)) (m:Int),sQ c P m<=m/\∀e∈P,sQ c P m<=c e.1 e.2
 |[],m=>⟨e4u _,λe h=>by cases h⟩
 |e::P,m=>by
  obtain⟨h1,h2⟩:=rV c P (min m (c e.1 e.2))
  refine⟨Int.le_trans h1 (Int.min_le_left ..),λe' he=>?_⟩
  rcases e0b.1 he with rfl|he
  ·exact Int.le_trans h1 (Int.min_le_right ..)
  ·exact h2 e' he
theorem mM {c:Int->Int->Int}:∀{P:List (Int×Int)} {m:Int},1<=m->(∀e∈P,0<c e.1 e.2)->1<=sQ c P m
 |[],m,h,_=>h
 |e::P,m,h,hp=>by
  have:=hp e (d9y ..)
  exact mM (m:=min m (c e.1 e.2)) (by omega) λe' he=>hp e' (d9v _ he)
section
variable {N:Nat} {E:Int->Int->Prop} {B:Int->Int->Int×Int} {g:Int->Int->Int}
def Apt (P:List (Int×Int)):Prop:=P.Pairwise λe e'=>¬(e.1=e'.1/\e.2=e'.2)/\¬(e.1=e'.2/\e.2=e'.1)
theorem a0j {m:Int}{e e':Int×Int}(h:¬(e.1=e'.1/\e.2=e'.2)/\¬(e.1=e'.2/\e.2=e'.1)):stG E m g e e'.1 e'.2=g e'.1 e'.2/\stG E m g e e'.2 e'.1=g e'.2 e'.1:=by
 unfold stG upG
 split
 ·exact⟨d9z λ⟨a,b⟩=>h.1 ⟨a.symm,b.symm⟩,d9z λ⟨a,b⟩=>h.2 ⟨a.symm,b.symm⟩⟩
 ·exact⟨d9z λ⟨a,b⟩=>h.2 ⟨b.symm,a.symm⟩,d9z λ⟨a,b⟩=>h.1 ⟨b.symm,a.symm⟩⟩
theorem b6s {m:Int}{e e':Int×Int}(h:¬(e.1=e'.1/\e.2=e'.2)/\¬(e.1=e'.2/\e.2=e'.1)):cF E B (stG E m g e) e'.1 e'.2=cF E B g e'.1 e'.2:=by
 obtain⟨h1,h2⟩:=a0j (E:=E) (g:=g) (m:=m) h
 unfold cF
 rw[h1,h2]
theorem d0e (h:NetOk N E B)(hg:kV E B g){m:Int}(hm:0<=m){e:Int×Int}(hc:m<=cF E B g e.1 e.2)(he:E e.1 e.2\/E e.2 e.1):kV E B (stG E m g e):=by
 intro u v huv
 have hb:=hg u v huv
 unfold cF at hc
 unfold stG upG
 by_cases h1:E e.1 e.2
 ·rw[e0c h1]at hc
  rw[e0c h1]
  split
  ·rename_i h2
   obtain⟨rfl,rfl⟩:=h2
   omega
  ·exact hb
 ·have h2:=he.resolve_left h1
  rw[d9z h1,e0c h2]at hc
  rw[d9z h1]
  split
  ·rename_i h3
   obtain⟨rfl,rfl⟩:=h3
   omega
  ·exact hb
theorem a4g (h:NetOk N E B){m:Int}(hm:0<=m):∀{P:List (Int×Int)} {g:Int->Int->Int},kV E B g->Apt P->(∀e∈P,m<=cF E B g e.1 e.2/\(E e.1 e.2\/E e.2 e.1))->kV E B (apG E m P g)
 |[],g,hg,_,_=>hg
 |e::P,g,hg,ha,hc=>by
  obtain⟨ha1,ha2⟩:=e3m.1 ha
  have h0:=hc e (d9y ..)
  refine a4g h hm (P:=P) (g:=stG E m g e) (d0e h hg hm h0.1 h0.2) ha2 λe' he'=>?_
  have:=hc e' (d9v _ he')
  rw[b6s (ha1 e' he')]
  exact this
theorem a4h {m:Int}{u v:Int}:∀{P:List (Int×Int)} {g:Int->Int->Int},(∀e∈P,¬(e.1=u/\e.2=v)/\¬(e.1=v/\e.2=u))->apG E m P g u v=g u v
 |[],_,_=>rfl
 |e::P,g,h=>by
  show apG E m P (stG E m g e) u v=_
  rw[a4h λe' he'=>h e' (d9v _ he')]
  exact(a0j (e':=(u,v)) (h e (d9y ..))).1
theorem sM {a c x:Int}:upG g a c x a c=x:=e0c ⟨rfl,rfl⟩
theorem a0s {a c x u v:Int}(h:¬(u=a/\v=c)):upG g a c x u v=g u v:=d9z h
theorem c0m (h:NetOk N E B){a c x:Int}(he:E a c)(w:Int):exc N E (upG g a c x) w=exc N E g w+((if c=w then x-g a c else 0)-if a=w then x-g a c else 0):=by
 obtain⟨a1,a2,a3,a4⟩:=h.lt _ _ he
 have q1:((a.toNat:Nat):Int)=a:=e3b a1
 have q2:((c.toNat:Nat):Int)=c:=e3b a3
 refine c1k (a:=a.toNat) (b:=c.toNat) (by omega) (by omega) ?_ ?_
 ·rw[q1,q2]
  unfold xw
  rw[e0c he,e0c he,sM]
  split<;>split<;>omega
 ·intro i j hij
  unfold xw
  rw[a0s λ⟨x,y⟩=>hij ⟨by omega,by omega⟩]
theorem c5i (h:NetOk N E B){m:Int}{e:Int×Int}(he:E e.1 e.2\/E e.2 e.1)(w:Int):exc N E (stG E m g e) w=exc N E g w+((if e.2=w then m else 0)-if e.1=w then m else 0):=by
 unfold stG
 by_cases h1:E e.1 e.2
 ·rw[e0c h1,c0m h h1]
  split<;>split<;>omega
 ·rw[d9z h1,c0m h (he.resolve_left h1)]
  split<;>split<;>omega
theorem kM {b:Nat->Nat}{r:Nat->Nat}{cnt:Nat}{c:Int->Int->Int}(hT:Tr N c b r cnt):∀(f x:Nat),b x≠0->∀e∈pE b f x,0<c e.1 e.2/\0<=e.1/\e.1<N/\0<=e.2/\e.2<N/\r e.1.toNat<r e.2.toNat/\r e.2.toNat<=r x
 |0,x,_,e,he=>by cases he
 |f+1,x,hb,e,he=>by
  rw[pE]at he
  split at he
  ·cases he
  ·rename_i hne
   obtain⟨h1,h2,h3,h4⟩:=hT.up x hb hne
   have hx:=hT.lt x hb
   rcases e0b.1 he with rfl|he
   ·simp only[e1b]
    exact⟨h3,by omega,by omega,by omega,by omega,h4,e0g _⟩
   ·obtain⟨k1,k2,k3,k4,k5,k6,k7⟩:=kM hT f (b x-1) h1 e he
    exact⟨k1,k2,k3,k4,k5,k6,by omega⟩
theorem a5u {b:Nat->Nat}{r:Nat->Nat}{cnt:Nat}{c:Int->Int->Int}(hT:Tr N c b r cnt):∀(f x:Nat),b x≠0->Apt (pE b f x)
 |0,x,_=>List.Pairwise.nil
 |f+1,x,hb=>by
  rw[pE]
  split
  ·exact List.Pairwise.nil
  ·rename_i hne
   obtain⟨h1,h2,h3,h4⟩:=hT.up x hb hne
   refine e3m.2 ⟨λe he=>?_,a5u hT f (b x-1) h1⟩
   obtain⟨_,k2,_,k4,_,k6,k7⟩:=kM hT f (b x-1) h1 e he
   constructor
   ·rintro⟨_,h6⟩
    rw[<-h6]at k7
    simp only[e1b]at k7
    omega
   ·rintro⟨_,h6⟩
    rw[<-h6]at k6
    simp only[e1b]at k6
    omega
theorem c1c (h:NetOk N E B){b:Nat->Nat}{m:Int}(w:Int):∀(f x:Nat) (g:Int->Int->Int),(∀e∈pE b f x,E e.1 e.2\/E e.2 e.1)->
  exc N E (apG E m (pE b f x) g) w=exc N E g w+((if(x:Int)=w then m else 0)-if((nZ b f x:Nat):Int)=w then m else 0)
 |0,x,g,_=>by simp only[pE,nZ];show exc N E g w=_;omega
 |f+1,x,g,he=>by
  rw[pE,nZ]
  rw[pE]at he
  split
  ·show exc N E g w=_;omega
  ·rename_i hne
   rw[d9z hne]at he
   show exc N E (apG E m (pE b f (b x-1)) (stG E m g _)) w=_
   rw[c1c h w f (b x-1) _ λe h1=>he e (d9v _ h1),c5i h (he _ (d9y ..))]
   simp only
   omega
theorem b4h {b:Nat->Nat}{r:Nat->Nat}{cnt:Nat}{c:Int->Int->Int}(hT:Tr N c b r cnt):∀(f x:Nat),r x<=f->b x≠0->b (nZ b f x)=nZ b f x+1/\nZ b f x<N
 |0,x,hf,hb=>by
  rw[nZ]
  refine⟨e3z λhne=>?_,(hT.lt x hb).1⟩
  have:=(hT.up x hb hne).2.2.2
  omega
 |f+1,x,hf,hb=>by
  rw[nZ]
  split
  ·rename_i h1;exact⟨h1,(hT.lt x hb).1⟩
  ·rename_i hne
   obtain⟨h1,h2,h3,h4⟩:=hT.up x hb hne
   exact b4h hT f (b x-1) (by omega) h1
end
theorem BI.tr {c:Int->Int->Int}{N:Nat}{src:List Nat}{b:Nat->Nat}{q:List Nat}{pd:Nat->Nat->Prop}(h:BI (λu v=>c u v) N src b q pd):∃r cnt,Tr N c b r cnt:=by
 obtain⟨r,cnt,h1,h2⟩:=h.tree
 refine⟨r,cnt,by omega,λx hx=>⟨(h2 x hx).1,(h2 x hx).2.1,(h2 x hx).2.2.1⟩,λx hx hne=>?_⟩
 rcases(h2 x hx).2.2.2 with h3|h3
 ·exact absurd h3.1 hne
 ·exact h3.2
def b5y (R C:List (Int×Int))(Z:List (List (Int×Int)))(bm fm:List Int->Option Int):List Res:=
  [.mp true ⟨true,2,false⟩ fm,.cs true 5 (λj=>match j with|0=> .d (rgs R)|1=> .d (rgs C)|2=> .d (zZ Z)|3=> .d (.mp ⟨true,2,true⟩ bm)|_=> .mp 0)]
theorem b4g (l:List Int->Option Int)(u v:Int):Fn Tryz.prog 95 [rgD (u,v),.pt (.ag 1 λ_=> .mp ⟨true,2,false⟩ l) 0] (int ((l [u,v]).getD 0)):=by
 refine e1t (cuts:=[]) tys hM Tryz.func95 rfl Tryz.call95 rfl ?_
 show exC Tryz.prog T [] _ false none 0 (entry 7 [rgD (u,v),.pt (.ag 1 λ_=> .mp ⟨true,2,false⟩ l) 0]) (cH T [ResultVar.tmp 3] _)
 conv=>whnf
 repeat' first|(refine go ?_;conv=>whnf)|(refine go2 ?_ ?_<;>(try intro hc)<;>conv=>whnf)|fail
 all_goals exact Lf
theorem c5j {E:Int->Int->Prop}{m:Int}{gk gk2:Int->Int->Int}{e:Int×Int}(hE:E e.1 e.2)(hgn:gk2=stG E m gk e):eF (jV (fM E gk) [e.1,e.2] ((fM E gk [e.1,e.2]).getD 0+m)) (fM E gk2):=by
 rw[gD hE,hgn]
 unfold stG
 rw[e0c hE]
 exact mD (λu v=>⟨.inl,λh=>h.elim id λ⟨h1,h2⟩=>h1▸h2▸hE⟩) sM.symm λu v h1 _=>(a0s h1).symm
theorem b9o {E:Int->Int->Prop}{m:Int}{gk gk2:Int->Int->Int}{e:Int×Int}(hn:¬E e.1 e.2)(hE:E e.2 e.1)(hgn:gk2=stG E m gk e):eF (jV (fM E gk) [e.2,e.1] ((fM E gk [e.2,e.1]).getD 0-m)) (fM E gk2):=by
 rw[gD hE,hgn]
 unfold stG
 rw[d9z hn]
 exact mD (λu v=>⟨.inl,λh=>h.elim id λ⟨h1,h2⟩=>h1▸h2▸hE⟩) sM.symm λu v h1 _=>(a0s h1).symm
theorem sA {R C:List (Int×Int)}{Z:List (List (Int×Int))}{N:Nat}{E:Int->Int->Prop}{B:Int->Int->Int×Int}(h:NetOk N E B)(g:Int->Int->Int)(hg:kV E B g)(b r:Nat->Nat)(cnt:Nat)(hT:Tr N (cF E B g) b r cnt)(to:Nat)(hb:b to≠0)(most:Int)(hm:1<=most/\most<=100000)
  (P:List (Int×Int)) (hP:pE b N to=P) (m:Int) (hmin:sQ (cF E B g) P most=m):
  FnL Tryz.prog 45 (b5y R C Z (bM E B) (fM E g)) [.ref 1 0,.d (mK b),.d (int to),.d (int most)] 2 (λ_:Unit=>b5y R C Z (bM E B) (fM E (apG E m P g))) (λ_=> .d (int m)):=by
 have hlf:=yT h g hg
 have hn10:=h.n10
 have hto:=hT.lt to hb
 have hcn:=hT.cN
 show FnL Tryz.prog 45 [.mp true ⟨true,2,false⟩ (fM E g),.cs true 5 (λj=>match j with|0=> .d (rgs R)|1=> .d (rgs C)|2=> .d (zZ Z)|3=> .d (.mp ⟨true,2,true⟩ (bM E B))|_=> .mp 0)] [.ref 1 0,.d (mK b),.d (int to),.d (int most)] 2 _ _
 refine e8a (cuts:=[]) tys hM Tryz.func45 rfl Tryz.call45 rfl rfl (λ_=>rfl) rfl (λ_=>rfl) ?_
 show exC Tryz.prog T [] _ false none 2 (lA 96 2 [.ref 1 0,.d (mK b),.d (int to),.d (int most)] [.mp true ⟨true,2,false⟩ (fM E g),.cs true 5 (λj=>match j with|0=> .d (rgs R)|1=> .d (rgs C)|2=> .d (zZ Z)|3=> .d (.mp ⟨true,2,true⟩ (bM E B))|_=> .mp 0)]) (b7o T 2 [ResultVar.tmp 8] _ _)
 conv=>whnf
 repeat' first
  |(refine Ob.a ?_;conv=>whnf)
  |(refine Sp.tt ?_;conv=>whnf)
  |(refine Sp.ff ?_;conv=>whnf)
  |(refine Sp.yes ?_;conv=>whnf)
  |(refine Sp.no ?_;conv=>whnf)
  |(refine Sp.nyes ?_;conv=>whnf)
  |(refine Sp.nno ?_;conv=>whnf)
  |(refine Sp.ne (λhc=>?_) (λhc=>?_)<;>(conv=>whnf))
  |(refine Sp.dec (λhc=>?_) (λhc=>?_)<;>(conv=>whnf))
  |(refine Sp.ndec (λhc=>?_) (λhc=>?_)<;>(conv=>whnf))
  |(refine Sp.mk (λhc=>?_) (λhc=>?_)<;>(conv=>whnf))
  |(apply Cl.nw;(conv=>whnf);(first|(refine Ob.nwX (hlf) ?_ ?_ ?_;(focus exact Lf);(focus exact Lf)));(conv=>whnf))
  |(refine Nx.mk (λka kb kx hx hs=>?_) (λhe=>?_)<;>(conv=>whnf))
  |(refine Nx.mk (λka kx hx hs=>?_) (λhe=>?_)<;>(conv=>whnf))
  |(refine Uk.mk (λhn=>?_) ?_<;>(conv=>whnf))
  |(refine Ap.a ?_ ?_<;>(conv=>whnf))
  |(refine Fi.a ?_;conv=>whnf)
  |(refine Yl.a ?_ ?_<;>(conv=>whnf))
  |(refine Ob.b ?_;conv=>whnf)
 have hPe:=kM hT N to hb
 have hPa:=a5u hT N to hb
 rw[hP]at hPe hPa
 have hPl:(∀(f x:Nat),(pE b f x).length<=f):=λf=>by
  induction f with
  |zero=>intro x;exact e0g _
  |succ f ih=>
   intro x
   rw[pE]
   split
   ·exact e4t _
   ·simp only[e0r];have:=ih (b x-1);omega
 have hPN:P.length<=N:=hP▸hPl N to
 have hmle:=rV (cF E B g) P most
 have hmpos:1<=sQ (cF E B g) P most:=mM hm.1 λe he=>(hPe e he).1
 rw[hmin]at hmle hmpos
 refine e2x [0,1,2,3,5,8,9,12,14,16,17,18,41,42,43,44,46,47,48,49,50,51,52,53,54,55,56,58,59,60,61,62,63,64,65,66,67,68,70,71,72,73,74,75,76,77,78,79,80,81,82,83,84,85,86,87,88,89,90,91,92,93,94,95] 40 ?_
 (conv=>whnf)
 refine e3v 96 ({s:(Nat×Nat)×List (Int×Int)//s.2++pE b s.1.1 s.1.2=P/\b s.1.2≠0/\r s.1.2<=s.1.1}) 0 (λ⟨((f,x),P'),_⟩ nx=>([(10,.ms 8 2 0 P'.length),(11,.d (int x))],[(8,.row true 48 2 P'.length (bG rgD (0,0) P'))])) (λp=>p.1.1.1) (⟨((N,to),[]),by simp[hP],hb,by simp only;omega⟩) ?_ ?_
 ·rintro⟨⟨⟨f,x⟩,P'⟩,hpp,hbx,hrx⟩
  simp only at hpp hbx hrx
  have hlx:=hT.lt x hbx
  have hq:((b (0+Int.toNat (x:Int)):Nat):Int)=(b x:Nat):=by rw[e0f,e1b]
  have hlen:P'.length<=N:=by
   have:=e2r List.length hpp
   rw[e1f]at this
   omega
  by_cases hroot:b x=x+1
  ·have hP':P'=P:=by
    cases f with
    |zero=>simpa[pE]using hpp
    |succ f=>rw[pE,e0c hroot]at hpp;simpa using hpp
   subst hP'
   have hrm:∀k,k<P'.length->Fn Tryz.prog 95 [rgD (P'.getD k (0,0)),.pt (.ag 1 λ_=> .mp ⟨true,2,false⟩ (fM (λu v=>0<cF E B g u v) (cF E B g))) 0] (int (cF E B g (P'.getD k (0,0)).1 (P'.getD k (0,0)).2)):=λk hk=>by
    have:=b4g (fM (λu v=>0<cF E B g u v) (cF E B g)) (P'.getD k (0,0)).1 (P'.getD k (0,0)).2
    rw[gD (p:=λu v=>0<cF E B g u v) (g:=cF E B g) (hPe _ (aE hk (0,0))).1]at this
    exact this
   have hmn:∀k,k<P'.length->sQ (cF E B g) (P'.take (k+1)) most=min (sQ (cF E B g) (P'.take k) most) (cF E B g (P'.getD k (0,0)).1 (P'.getD k (0,0)).2):=λk hk=>by rw[bP _ k (0,0) hk,b2v]
   have hmb:∀k,1<=sQ (cF E B g) (P'.take k) most/\sQ (cF E B g) (P'.take k) most<=100000:=λk=>⟨mM hm.1 λe he=>(hPe e (e5f he)).1,by have:=(rV (cF E B g) (P'.take k) most).1;omega⟩
   have hmx:sQ (cF E B g) (P'.take P'.length) most=m:=by rw[e5q];exact hmin
   have hm00:sQ (cF E B g) (P'.take 0) most=most:=rfl
   have hcb:∀k,k<P'.length->0<=cF E B g (P'.getD k (0,0)).1 (P'.getD k (0,0)).2/\cF E B g (P'.getD k (0,0)).1 (P'.getD k (0,0)).2<=192:=λk _=>c2j h hg _ _
   conv=>whnf
   repeat' first|(refine go ?_;conv=>whnf)|(refine go2 ?_ ?_<;>(try intro hc)<;>conv=>whnf)|fail
   all_goals try(exfalso;omega)
   refine e2x [0,1,2,8,10,12,16,17,18,42,43,54,55,56,58,59,60,61,62,63,64,65,66,67,68,70,71,72,73,74,75,76,77,78,79,80,81,82,83,84,85,86,87,88,89,90,91,92,93,94,95] 40 ?_
   (conv=>whnf)
   refine e3v 96 ({i:Int//0<=i/\i<=P'.length}) 0 (λ⟨i,_⟩ nx=>([(44,.d (int i)),(3,.d (int (sQ (cF E B g) (P'.take i.toNat) most)))],[])) (λp=>(P'.length-p.1).toNat) (⟨0,by omega,by omega⟩) ?_ ?_
   ·rintro⟨i,i0,i1⟩
    by_cases hi:i<P'.length
    ·have hri:=hrm i.toNat (by omega)
     have hmi:=hmn i.toNat (by omega)
     have hb1:=hmb i.toNat
     have hc1:=hcb i.toNat (by omega)
     rw[show i.toNat+1=(i+1).toNat by omega]at hmi
     conv=>whnf
     repeat' first|((first|refine go ?_|refine gc (hri) ?_);conv=>whnf)|(refine go2 ?_ ?_<;>(try intro hc)<;>conv=>whnf)|fail
     all_goals first|(exfalso;omega)|exact⟨rfl,⟨i+1,by omega,by omega⟩,Lf,by simp only;omega⟩
    ·have hiP:i.toNat=P'.length:=by omega
     have hm3:sQ (cF E B g) (P'.take i.toNat) most=m:=by rw[hiP,hmx]
     have hgk:∀k,kV E B (apG E m (P'.take k) g):=λk=>a4g h (by omega) hg (hPa.sublist (List.take_sublist ..)) λe he=>⟨hmle.2 e (e5f he),(qP h (hPe e (e5f he)).1).1⟩
     have hgn:∀k,k<P'.length->apG E m (P'.take (k+1)) g=stG E m (apG E m (P'.take k) g) (P'.getD k (0,0)):=λk hk=>by rw[bP _ k (0,0) hk,b6i]
     have hed:∀k,k<P'.length->E (P'.getD k (0,0)).1 (P'.getD k (0,0)).2\/E (P'.getD k (0,0)).2 (P'.getD k (0,0)).1:=λk hk=>(qP h (hPe _ (aE hk (0,0))).1).1
     conv=>whnf
     repeat' first|(refine go ?_;conv=>whnf)|(refine go2 ?_ ?_<;>(try intro hc)<;>conv=>whnf)|fail
     all_goals try(exfalso;omega)
     refine e2x [0,1,2,3,8,54,55,95] 40 ?_
     (conv=>whnf)
     refine e3v 96 ({i:Int//0<=i/\i<=P'.length}) 0 (λ⟨i,_⟩ nx=>([(56,.d (int i)),(3,.d (int m))],[(0,.mp true ⟨true,2,false⟩ (fM E (apG E m (P'.take i.toNat) g)))])) (λp=>(P'.length-p.1).toNat) (⟨0,by omega,by omega⟩) ?_ ?_
     ·rintro⟨i,i0,i1⟩
      by_cases hi:i<P'.length
      ·have hgk:=hgk i.toNat
       have hgn:=hgn i.toNat (by omega)
       have hed:=hed i.toNat (by omega)
       rw[show i.toNat+1=(i+1).toNat by omega]at hgn
       have hz:P'.getD i.toNat (0,0)=P'.getD (0+i.toNat) (0,0):=by rw[e0f]
       rw[hz]at hgn hed
       by_cases hE:E (P'.getD (0+i.toNat) (0,0)).1 (P'.getD (0+i.toNat) (0,0)).2
       ·have hbs:(bM E B [(P'.getD (0+i.toNat) (0,0)).1,(P'.getD (0+i.toNat) (0,0)).2]).isSome=true:=by unfold bM;rw[gD hE];rfl
        have hfl:(fM E (apG E m (P'.take i.toNat) g) [(P'.getD (0+i.toNat) (0,0)).1,(P'.getD (0+i.toNat) (0,0)).2]).getD 0=apG E m (P'.take i.toNat) g (P'.getD (0+i.toNat) (0,0)).1 (P'.getD (0+i.toNat) (0,0)).2:=by rw[gD hE];rfl
        have hbd:=h.bd _ _ hE
        have hgb:=hgk _ _ hE
        have e3:=c5j hE hgn
        conv=>whnf
        repeat' first|(refine Sp.byes ?_;conv=>whnf)|(refine Sp.bno ?_;conv=>whnf)|(refine go ?_;conv=>whnf)|(refine go2 ?_ ?_<;>(try intro hc)<;>conv=>whnf)|fail
        all_goals first|(exfalso;rw[hbs]at hc;cases hc;done)|exact⟨rfl,⟨i+1,by omega,by omega⟩,Lf,by simp only;omega⟩
       ·have hE2:=hed.resolve_left hE
        have hbs:(bM E B [(P'.getD (0+i.toNat) (0,0)).1,(P'.getD (0+i.toNat) (0,0)).2]).isSome=false:=by unfold bM;rw[b7m hE];rfl
        have hfl:(fM E (apG E m (P'.take i.toNat) g) [(P'.getD (0+i.toNat) (0,0)).2,(P'.getD (0+i.toNat) (0,0)).1]).getD 0=apG E m (P'.take i.toNat) g (P'.getD (0+i.toNat) (0,0)).2 (P'.getD (0+i.toNat) (0,0)).1:=by rw[gD hE2];rfl
        have hbd:=h.bd _ _ hE2
        have hgb:=hgk _ _ hE2
        have e3:=b9o hE hE2 hgn
        conv=>whnf
        repeat' first|(refine Sp.byes ?_;conv=>whnf)|(refine Sp.bno ?_;conv=>whnf)|(refine go ?_;conv=>whnf)|(refine go2 ?_ ?_<;>(try intro hc)<;>conv=>whnf)|fail
        all_goals first|(exfalso;rw[hbs]at hc;cases hc;done)|exact⟨rfl,⟨i+1,by omega,by omega⟩,Lf,by simp only;omega⟩
      ·have e4:apG E m (P'.take i.toNat) g=apG E m P' g:=by rw[show i.toNat=P'.length by omega,e5q]
       have e5:eF (fM E (apG E m (P'.take i.toNat) g)) (fM E (apG E m P' g)):=λk=>by rw[e4]
       conv=>whnf
       repeat' first|(refine go ?_;conv=>whnf)|(refine go2 ?_ ?_<;>(try intro hc)<;>conv=>whnf)|fail
       all_goals first|(exfalso;omega)|exact⟨(),Lf⟩
     ·exact Lf
   ·exact Lf
  ·obtain⟨h1,h2,h3,h4⟩:=hT.up x hbx hroot
   obtain⟨f',rfl⟩:∃f',f=f'+1:=⟨f-1,by omega⟩
   rw[pE,d9z hroot]at hpp
   have hpp2:(P'++[(((b x-1:Nat):Int),(x:Int))])++pE b f' (b x-1)=P:=by simpa using hpp
   have e1:((b x:Nat):Int)-1=((b x-1:Nat):Int):=by omega
   have e2:¬((b x:Nat):Int)=x+1:=by omega
   conv=>whnf
   repeat' first|(refine go ?_;conv=>whnf)|(refine go2 ?_ ?_<;>(try intro hc)<;>conv=>whnf)|fail
   all_goals first|(exfalso;omega)|exact⟨rfl,⟨((f',b x-1),P'++[(((b x-1:Nat):Int),(x:Int))]),hpp2,h1,by simp only;omega⟩,Lf,by simp only;omega⟩
 ·exact Lf
theorem b0y {w0 w1:Int}{c:Int->Int->Int}{u v:Int}(h:0<cut w0 w1 c u v):0<c u v/\¬(u=w0/\v=w1)/\¬(u=w1/\v=w0):=by
 unfold cut at h
 split at h
 ·omega
 ·rename_i hn;exact⟨h,λe=>hn (.inl e),λe=>hn (.inr e)⟩
theorem a6z {N:Nat}{E:Int->Int->Prop}{B:Int->Int->Int×Int}(h:NetOk N E B)(g:Int->Int->Int)(w0 w1:Int)(src:List Nat)(hs:∀x∈src,x<N):
  ∃r cnt,Tr N (cF E B g) (a9m (cN (cut w0 w1 (cF E B g))) N src) r cnt/\Tr N (cut w0 w1 (cF E B g)) (a9m (cN (cut w0 w1 (cF E B g))) N src) r cnt:=by
 have hself:∀a,cN (cut w0 w1 (cF E B g)) a a<=0:=λa=>by
  unfold cN cut
  rw[vK h]
  split<;>omega
 have hbi:=b5n (c:=cN (cut w0 w1 (cF E B g))) hself hs
 obtain⟨r,cnt,hT⟩:=BI.tr (c:=cut w0 w1 (cF E B g)) hbi
 exact⟨r,cnt,⟨hT.cN,hT.lt,λx hx hne=>by
  obtain⟨h1,h2,h3,h4⟩:=hT.up x hx hne
  exact⟨h1,h2,(b0y h3).1,h4⟩⟩,hT⟩
def d7b (R C:List (Int×Int))(Z:List (List (Int×Int)))(bm fm:List Int->Option Int)(w0 w1:Int):List Res:=
  [.mp true ⟨true,2,false⟩ fm,.cs true 5 (λj=>match j with|0=> .d (rgs R)|1=> .d (rgs C)|2=> .d (zZ Z)|3=> .d (.mp ⟨true,2,true⟩ bm)|_=> .mp 0),.cs true 1 (λ_=> .ref 1 0),.cs true 2 (λj=>match j with|0=> .d (int w0)|_=> .d (int w1))]
theorem c1o {E:Int->Int->Prop}{g:Int->Int->Int}{a c x:Int}(hE:E a c):eF (jV (fM E g) [a,c] x) (fM E (upG g a c x)):=
 mD (λu v=>⟨.inl,λh=>h.elim id λ⟨h1,h2⟩=>h1▸h2▸hE⟩) sM.symm λu v h1 _=>(a0s h1).symm
theorem d0v {E:Int->Int->Prop}{B:Int->Int->Int×Int}{g:Int->Int->Int}{a c x:Int}(hg:kV E B g)(hx:(B a c).1<=x/\x<=(B a c).2):kV E B (upG g a c x):=λu v h=>by
 by_cases e:u=a/\v=c
 ·rw[e.1,e.2,sM];exact hx
 ·rw[a0s e];exact hg u v h
theorem rG {R C:List (Int×Int)}{Z:List (List (Int×Int))}(hR:R.length<=4)(hC:C.length<=4){E:Int->Int->Prop}{B:Int->Int->Int×Int}(h:NetOk (2+R.length+C.length) E B)(g:Int->Int->Int)(hg:kV E B g)(w0 w1:Int)(hw:E w0 w1)(a c:Int)(hac:(a=w1/\c=w0)\/(a=w0/\c=w1)):
  FnL Tryz.prog 43 (d7b R C Z (bM E B) (fM E g) w0 w1) [.d (int a),.d (int c),.ref 2 0,.ref 3 0] 4 (λz:{z:Int->Int->Int//kV E B z}=>d7b R C Z (bM E B) (fM E z.1) w0 w1) (λ_=> .d .top):=by
 have hwl:=h.lt _ _ hw
 have hwn:w0≠w1:=λe=>h.anti _ _ hw (e▸hw)
 have hac0:0<=a/\a<2+R.length+C.length/\0<=c/\c<2+R.length+C.length/\a≠c:=by omega
 show FnL Tryz.prog 43 [.mp true ⟨true,2,false⟩ (fM E g),.cs true 5 (λj=>match j with|0=> .d (rgs R)|1=> .d (rgs C)|2=> .d (zZ Z)|3=> .d (.mp ⟨true,2,true⟩ (bM E B))|_=> .mp 0),.cs true 1 (λ_=> .ref 1 0),.cs true 2 (λj=>match j with|0=> .d (int w0)|_=> .d (int w1))] _ 4 _ _
 refine e8a (cuts:=[]) tys hM Tryz.func43 rfl Tryz.call43 rfl rfl (λ_=>rfl) rfl (λ_=>rfl) ?_
 show exC Tryz.prog T [] _ false none 4 (lA 72 4 [.d (int a),.d (int c),.ref 2 0,.ref 3 0] [.mp true ⟨true,2,false⟩ (fM E g),.cs true 5 (λj=>match j with|0=> .d (rgs R)|1=> .d (rgs C)|2=> .d (zZ Z)|3=> .d (.mp ⟨true,2,true⟩ (bM E B))|_=> .mp 0),.cs true 1 (λ_=> .ref 1 0),.cs true 2 (λj=>match j with|0=> .d (int w0)|_=> .d (int w1))]) (b7o T 4 [] _ _)
 conv=>whnf
 refine e2x [0,1,2,3] 40 ?_
 (conv=>whnf)
 refine e3v 72 ({z:Int->Int->Int//kV E B z}) 0 (λ⟨z,_⟩ nx=>([],[(0,.mp true ⟨true,2,false⟩ (fM E z))])) (λp=>(if a=w0 then p.1 w0 w1-(B w0 w1).1 else(B w0 w1).2-p.1 w0 w1).toNat) (⟨g,hg⟩) ?_ ?_
 ·rintro⟨z,hz⟩
  have hwz:=hz _ _ hw
  have hbw:=h.bd _ _ hw
  obtain⟨r,cnt,hT,hTc⟩:=a6z h z w0 w1 [a.toNat] (λx hx=>by rw[e1k.1 hx];omega)
  have hway:=a6y (Z:=Z) hR hC h z hz [a.toNat] (λx hx=>by rw[e1k.1 hx];omega) (by simp) w0 w1
  generalize a9m (cN (cut w0 w1 (cF E B z))) (2+R.length+C.length) [a.toNat]=b at*
  have hal:zl [a.toNat]=[a]:=by unfold zl;simp;omega
  rw[hal]at hway
  have hd2:dc2 ((bM E B [w0,w1]).getD 0)=(B w0 w1).2:=by unfold bM;rw[gD hw];exact vM _ _
  have hd1:dc1 ((bM E B [w0,w1]).getD 0)=(B w0 w1).1:=by unfold bM;rw[gD hw];exact qU _ _
  have hfz:(fM E z [w0,w1]).getD 0=z w0 w1:=by rw[gD hw];rfl
  have hb0:((b (0+c.toNat):Nat):Int)=(b c.toNat:Nat):=by rw[e0f]
  by_cases hbc:b c.toNat=0
  ·conv=>whnf
   repeat' first|((first|refine go ?_|refine gc (hway) ?_);conv=>whnf)|(refine go2 ?_ ?_<;>(try intro hc)<;>conv=>whnf)|fail
   all_goals first|(exfalso;omega)|exact⟨⟨z,hz⟩,Lf⟩
  ·have hPe:=kM hTc (2+R.length+C.length) c.toNat hbc
   have hPe2:=kM hT (2+R.length+C.length) c.toNat hbc
   have hPa:=a5u hT (2+R.length+C.length) c.toNat hbc
   have fin:∀(most m:Int),1<=most->most<=100000->sQ (cF E B z) (pE b (2+R.length+C.length) c.toNat) most=m->
     (1<=m/\m<=most)/\kV E B (apG E m (pE b (2+R.length+C.length) c.toNat) z)/\apG E m (pE b (2+R.length+C.length) c.toNat) z w0 w1=z w0 w1:=λmost m h1 h2 h3=>by
    have hle:=rV (cF E B z) (pE b (2+R.length+C.length) c.toNat) most
    have hpos:1<=sQ (cF E B z) (pE b (2+R.length+C.length) c.toNat) most:=mM h1 λe he=>(hPe2 e he).1
    rw[h3]at hle hpos
    exact⟨⟨hpos,hle.1⟩,a4g h (by omega) hz hPa λe he=>⟨hle.2 e he,(qP h (hPe2 e he).1).1⟩,a4h λe he=>by
     have:=b0y (hPe e he).1
     exact⟨this.2.1,this.2.2⟩⟩
   by_cases ha:a=w0
   ·by_cases hmu:z w0 w1-(B w0 w1).1<=0
    ·conv=>whnf
     repeat' first|((first|refine go ?_|refine gc (hway) ?_);conv=>whnf)|(refine go2 ?_ ?_<;>(try intro hc)<;>conv=>whnf)|fail
     all_goals first|(exfalso;omega)|exact⟨⟨z,hz⟩,Lf⟩
    ·obtain⟨m,hm⟩:∃m,sQ (cF E B z) (pE b (2+R.length+C.length) c.toNat) (z w0 w1-(B w0 w1).1)=m:=⟨_,rfl⟩
     obtain⟨⟨m1,m2⟩,hgo,hgw⟩:=fin _ _ (by omega) (by omega) hm
     have hpush:=sA (R:=R) (C:=C) (Z:=Z) h z hz b r cnt hT c.toNat hbc (z w0 w1-(B w0 w1).1) ⟨by omega,by omega⟩ _ rfl m hm
     generalize apG E m (pE b (2+R.length+C.length) c.toNat) z=gp at*
     have hfg:(fM E gp [w0,w1]).getD 0=gp w0 w1:=by rw[gD hw];rfl
     have e3:eF (jV (fM E gp) [w0,w1] ((fM E gp [w0,w1]).getD 0+(0-m))) (fM E (upG gp w0 w1 (z w0 w1+(0-m)))):=by
      rw[hfg,hgw];exact c1o hw
     have hok:kV E B (upG gp w0 w1 (z w0 w1+(0-m))):=d0v hgo (by omega)
     have hval:upG gp w0 w1 (z w0 w1+(0-m)) w0 w1=z w0 w1+(0-m):=sM
     conv=>whnf
     repeat' first|((first|refine go ?_|refine gc (hway) ?_);conv=>whnf)|(refine go2 ?_ ?_<;>(try intro hc)<;>conv=>whnf)|fail
     all_goals try(exfalso;omega)
     refine e8d (hpush) ?_
     (conv=>whnf)
     refine Ob.lsX (hpush) ?_ ?_
     focus (exact Lf)
     rintro⟨⟩
     (conv=>whnf)
     repeat' first|(refine go ?_;conv=>whnf)|(refine go2 ?_ ?_<;>(try intro hc)<;>conv=>whnf)|fail
     all_goals first|(exfalso;omega)|exact⟨rfl,⟨upG gp w0 w1 (z w0 w1+(0-m)),hok⟩,Lf,by simp only[e0c ha,hval];omega⟩
   ·by_cases hmu:(B w0 w1).2-z w0 w1<=0
    ·conv=>whnf
     repeat' first|((first|refine go ?_|refine gc (hway) ?_);conv=>whnf)|(refine go2 ?_ ?_<;>(try intro hc)<;>conv=>whnf)|fail
     all_goals first|(exfalso;omega)|exact⟨⟨z,hz⟩,Lf⟩
    ·obtain⟨m,hm⟩:∃m,sQ (cF E B z) (pE b (2+R.length+C.length) c.toNat) ((B w0 w1).2-z w0 w1)=m:=⟨_,rfl⟩
     obtain⟨⟨m1,m2⟩,hgo,hgw⟩:=fin _ _ (by omega) (by omega) hm
     have hpush:=sA (R:=R) (C:=C) (Z:=Z) h z hz b r cnt hT c.toNat hbc ((B w0 w1).2-z w0 w1) ⟨by omega,by omega⟩ _ rfl m hm
     generalize apG E m (pE b (2+R.length+C.length) c.toNat) z=gp at*
     have hfg:(fM E gp [w0,w1]).getD 0=gp w0 w1:=by rw[gD hw];rfl
     have e3:eF (jV (fM E gp) [w0,w1] ((fM E gp [w0,w1]).getD 0+m)) (fM E (upG gp w0 w1 (z w0 w1+m))):=by
      rw[hfg,hgw];exact c1o hw
     have hok:kV E B (upG gp w0 w1 (z w0 w1+m)):=d0v hgo (by omega)
     have hval:upG gp w0 w1 (z w0 w1+m) w0 w1=z w0 w1+m:=sM
     conv=>whnf
     repeat' first|((first|refine go ?_|refine gc (hway) ?_);conv=>whnf)|(refine go2 ?_ ?_<;>(try intro hc)<;>conv=>whnf)|fail
     all_goals try(exfalso;omega)
     refine e8d (hpush) ?_
     (conv=>whnf)
     refine Ob.lsX (hpush) ?_ ?_
     focus (exact Lf)
     rintro⟨⟩
     (conv=>whnf)
     repeat' first|(refine go ?_;conv=>whnf)|(refine go2 ?_ ?_<;>(try intro hc)<;>conv=>whnf)|fail
     all_goals first|(exfalso;omega)|exact⟨rfl,⟨upG gp w0 w1 (z w0 w1+m),hok⟩,Lf,by simp only[d9z ha,hval];omega⟩
 ·exact Lf
theorem a2b {N:Nat}{E:Int->Int->Prop}{B:Int->Int->Int×Int}(h:NetOk N E B)(g:Int->Int->Int)(hg:kV E B g)(u:Int):
  Fn Tryz.prog 90 [.pt (.ag 5 λj=>match j with|4=> .mp ⟨true,2,false⟩ (fM E g)|_=> .top) 0,int u] (int (exc N E g u)):=by
 have hn10:=h.n10
 refine e1t (cuts:=[]) tys hM Tryz.func90 rfl Tryz.call90 rfl ?_
 show exC Tryz.prog T [] _ false none 0 (entry 33 [.pt (.ag 5 λj=>match j with|4=> .mp ⟨true,2,false⟩ (fM E g)|_=> .top) 0,int u]) (cH T [ResultVar.tmp 4] _)
 conv=>whnf
 repeat' first|(refine go ?_;conv=>whnf)|(refine go2 ?_ ?_<;>(try intro hc)<;>conv=>whnf)|fail
 refine e2x [0,1,4,12,32] 40 ?_
 (conv=>whnf)
 refine e3v 33 ({s:List (List Int)//s.Nodup/\∀x∈s,x∈tD N}) 0 (λ⟨s,_⟩ nx=>([(5,.d (int (a7v N E g u s)))],[(6,.it true ⟨true,2,false⟩ (fM E g) s none)])) (λp=>100-p.1.length) (⟨[],by simp⟩) ?_ ?_
 ·rintro⟨s,hs,hsub⟩
  have hb:=c2x h hg u s
  have hnew:∀a b x,fM E g [a,b]=some x->[a,b]∉s->(([a,b]::s).Nodup/\∀x∈[a,b]::s,x∈tD N)/\E a b/\x=g a b:=λa b x hk hn=>by
   obtain⟨a',b',e,hE,rfl⟩:=a2d hk
   cases e
   obtain⟨h1,h2,h3,h4⟩:=h.lt a b hE
   refine⟨⟨e2b.2 ⟨hn,hs⟩,λy hy=>?_⟩,hE,rfl⟩
   rcases e0b.1 hy with rfl|hy
   ·exact wN ⟨h1,h2⟩ ⟨h3,h4⟩
   ·exact hsub y hy
  have hall:(∀k x,fM E g k=some x->k∈s)->a7v N E g u s=exc N E g u:=λha=>b7k λa b hE=>ha _ _ (gD hE)
  have hcons:∀a b,E a b->[a,b]∉s->a7v N E g u ([a,b]::s)=a7v N E g u s+((if b=u then g a b else 0)-if a=u then g a b else 0):=λa b hE hn=>by
   obtain⟨h1,h2,h3,h4⟩:=h.lt a b hE
   rw[b1f ⟨h1,h2⟩ ⟨h3,h4⟩ hn]
   unfold xw
   rw[e0c hE]
  conv=>whnf
  refine Nx.mk (λka kb kx hx hs=>?_) (λhe=>?_)
  ·obtain⟨hn,hE,hkx⟩:=hnew ka kb kx hx hs
   have hc0:=hcons ka kb hE hs
   have h1:=h.bd ka kb hE
   have h2:=hg ka kb hE
   have hk1:0<=kx/\kx<=192:=by omega
   rw[<-hkx]at hc0
   have hl2:s.length+1<=100:=by
    have:=kI _ ([ka,kb]::s) hn.1 hn.2
    have:=vV hn10
    rw[e0r]at*
    omega
   by_cases q1:kb=u
   ·by_cases q2:ka=u
    ·rw[e0c q1,e0c q2]at hc0
     conv=>whnf
     repeat' first|(refine go ?_;conv=>whnf)|(refine go2 ?_ ?_<;>(try intro hc)<;>conv=>whnf)|fail
     all_goals first|(exfalso;omega)|exact⟨rfl,⟨[ka,kb]::s,hn.1,hn.2⟩,Lf,by simp only[e0r];omega⟩
    ·rw[e0c q1,d9z q2]at hc0
     conv=>whnf
     repeat' first|(refine go ?_;conv=>whnf)|(refine go2 ?_ ?_<;>(try intro hc)<;>conv=>whnf)|fail
     all_goals first|(exfalso;omega)|exact⟨rfl,⟨[ka,kb]::s,hn.1,hn.2⟩,Lf,by simp only[e0r];omega⟩
   ·by_cases q2:ka=u
    ·rw[d9z q1,e0c q2]at hc0
     conv=>whnf
     repeat' first|(refine go ?_;conv=>whnf)|(refine go2 ?_ ?_<;>(try intro hc)<;>conv=>whnf)|fail
     all_goals first|(exfalso;omega)|exact⟨rfl,⟨[ka,kb]::s,hn.1,hn.2⟩,Lf,by simp only[e0r];omega⟩
    ·rw[d9z q1,d9z q2]at hc0
     conv=>whnf
     repeat' first|(refine go ?_;conv=>whnf)|(refine go2 ?_ ?_<;>(try intro hc)<;>conv=>whnf)|fail
     all_goals first|(exfalso;omega)|exact⟨rfl,⟨[ka,kb]::s,hn.1,hn.2⟩,Lf,by simp only[e0r];omega⟩
  ·have e:=hall he
   conv=>whnf
   repeat' first|(refine go ?_;conv=>whnf)|(refine go2 ?_ ?_<;>(try intro hc)<;>conv=>whnf)|fail
   all_goals first|exact Lf
 ·have e0:=b7l N E g u
  exact Lf
def b5z (x:Int):Int:=max 0 x
def tot (N:Nat)(E:Int->Int->Prop)(g:Int->Int->Int):Int:=sm (λu=>b5z (exc N E g u)) N
theorem d0b {f:Nat->Int}(h:∀i,0<=f i):∀n,0<=sm f n
 |0=>e4u _
 |n+1=>by rw[sm];have:=d0b h n;have:=h n;omega
theorem a6t (N:Nat)(E:Int->Int->Prop)(g:Int->Int->Int):0<=tot N E g:=d0b (λi=>by unfold b5z;omega) N
theorem b9u {N:Nat}{E:Int->Int->Prop}{g g':Int->Int->Int}{a c:Nat}{m:Int}(haN:a<N)(hm:1<=m)(h1:m<=exc N E g a)(h2:m<= -exc N E g c)(hx:∀w:Int,exc N E g' w=exc N E g w+((if(c:Int)=w then m else 0)-if(a:Int)=w then m else 0)):tot N E g'<tot N E g:=by
 have hac:a≠c:=λe=>by subst e;omega
 have:=a6l (f:=λu:Nat=>b5z (exc N E g u)) (g:=λu:Nat=>b5z (exc N E g' u)) (k:=a) (d:= -m) (by
  show b5z (exc N E g' a)=b5z (exc N E g a)+ -m
  rw[hx a,d9z (by omega),e0c rfl]
  unfold b5z;omega) (λi hi=>by
  show b5z (exc N E g' i)=b5z (exc N E g i)
  rw[hx i]
  by_cases e:(c:Int)=i
  ·rw[e0c e,d9z (by omega),<-e]
   unfold b5z;omega
  ·rw[d9z e,d9z (by omega)]
   congr 1;omega) (n:=N)
 unfold tot
 rw[this,e0c haN]
 omega
def dK (N:Nat)(E:Int->Int->Prop)(g:Int->Int->Int)(i:Nat):List Nat:=(List.range i).filter λu=>decide (0<exc N E g u)
theorem b4f {N:Nat}{E:Int->Int->Prop}{g:Int->Int->Int}{i:Nat}(h:0<exc N E g i):dK N E g (i+1)=dK N E g i++[i]:=by
 unfold dK
 rw[e4d,e4j,List.filter_cons_of_pos (by simp[h])];rfl
theorem b9j {N:Nat}{E:Int->Int->Prop}{g:Int->Int->Int}{i:Nat}(h:¬0<exc N E g i):dK N E g (i+1)=dK N E g i:=by
 unfold dK
 rw[e4d,e4j,List.filter_cons_of_neg (by simp[h])];simp
theorem b8i {N:Nat}{E:Int->Int->Prop}{g:Int->Int->Int}{i u:Nat}:u∈dK N E g i↔u<i/\0<exc N E g u:=by
 unfold dK
 rw[e6v,e1e,e2a]
theorem b4e (N:Nat)(E:Int->Int->Prop)(g:Int->Int->Int)(i:Nat):(dK N E g i).length<=i:=by
 unfold dK
 exact e2h (List.length_filter_le ..) (by simp)
def d6q (c:Int->Int->Int)(u v:Int):Int:=if(u=0/\v=0)\/(u=0/\v=0)then 0 else c u v
theorem b7c {N:Nat}{E:Int->Int->Prop}{B:Int->Int->Int×Int}(h:NetOk N E B)(g:Int->Int->Int):∀u v,d6q (cF E B g) u v=cF E B g u v:=λu v=>by
 unfold d6q
 split
 ·rename_i e
  have:u=0/\v=0:=by omega
  rw[this.1,this.2,vK h]
 ·rfl
def c6x (N:Nat)(E:Int->Int->Prop)(B:Int->Int->Int×Int):Prop:=
  ∀g,kV E B g->∀b:Nat->Nat,(∀u v:Nat,u<N->v<N->b u≠0->b v=0->cF E B g u v<=0)->(∀u:Nat,u<N->b u≠0->0<=exc N E g u)->(∃u:Nat,u<N/\b u≠0/\0<exc N E g u)->False
theorem b3k {s:List (List Int)}{a b:Int}(u v:Int):[u,v]∈[a,b]::s↔[u,v]∈s\/(u=a/\v=b):=by
 rw[e0b,e5c,e5c]
 constructor
 ·rintro(⟨h1,h2,_⟩|h)
  ·exact .inr ⟨h1,h2⟩
  ·exact .inl h
 ·rintro(h|⟨h1,h2⟩)
  ·exact .inr h
  ·exact .inl ⟨h1,h2,rfl⟩
theorem c5q {N:Nat}{E:Int->Int->Prop}{B:Int->Int->Int×Int}(h:NetOk N E B)(g:Int->Int->Int)(src:List Nat)(hs:∀x∈src,x<N):
  (∃r cnt,Tr N (cF E B g) (a9m (cN (cut 0 0 (cF E B g))) N src) r cnt)/\(∀u v:Nat,v<N->a9m (cN (cut 0 0 (cF E B g))) N src u≠0->a9m (cN (cut 0 0 (cF E B g))) N src v=0->cF E B g u v<=0)/\(∀x∈src,a9m (cN (cut 0 0 (cF E B g))) N src x=x+1)/\∀x,a9m (cN (cut 0 0 (cF E B g))) N src x=x+1->x∈src:=by
 have hc:∀u v,cut 0 0 (cF E B g) u v=cF E B g u v:=b7c h g
 have hself:∀a,cN (cut 0 0 (cF E B g)) a a<=0:=λa=>by
  unfold cN
  rw[hc,vK h];omega
 have hbi:=b5n (c:=cN (cut 0 0 (cF E B g))) hself hs
 obtain⟨r,cnt,hT,_⟩:=a6z h g 0 0 src hs
 refine⟨⟨r,cnt,hT⟩,λu v hv hu h0=>?_,hbi.from_,λx hx=>?_⟩
 ·have:=hbi.cl u v hu (by simp) (λh=>h) hv
  unfold cN at this
  rw[hc]at this
  exact Int.not_lt.1 λhp=>this hp h0
 ·obtain⟨r',cnt',_,h2⟩:=hbi.tree
  rcases(h2 x (by omega)).2.2.2 with h3|h3
  ·exact h3.2
  ·exact absurd hx h3.1
theorem b4m {l l':List Nat}{n x m:Nat}{g:Nat->DV}(hy:l'=l++[x])(hn:n=l.length)(h:dI (g 0) (int x))(hm:m=l'.length):∀j,j<m->dI (apd n (λj=>znF l (0+j)) g j) (znF l' j):=by
 subst hy
 have:=a0c (l:=l) (off:=0) (n:=n) (x:=x) (m:=m) (g:=g) (by omega) (e4t _) h (by simpa using hm)
 simpa using this
theorem b1i {R C:List (Int×Int)}{Z:List (List (Int×Int))}(hR:R.length<=4)(hC:C.length<=4){E:Int->Int->Prop}{B:Int->Int->Int×Int}(h:NetOk (2+R.length+C.length) E B)(hnb:c6x (2+R.length+C.length) E B):
  FnL Tryz.prog 42 (b5y R C Z (bM E B) λ_=>none) [.ref 1 0] 2 (λz:{z:Int->Int->Int//kV E B z}=>b5y R C Z (bM E B) (fM E z.1)) (λ_=> .tp 2 λj=>match j with|0=> .d (.ag 10 λ_=>int 0)|_=> .d (bool true)):=by
 have hnd:=uN R C hR hC
 have hn10:=h.n10
 show FnL Tryz.prog 42 [.mp true ⟨true,2,false⟩ (λ_=>none),.cs true 5 (λj=>match j with|0=> .d (rgs R)|1=> .d (rgs C)|2=> .d (zZ Z)|3=> .d (.mp ⟨true,2,true⟩ (bM E B))|_=> .mp 0)] _ 2 _ _
 refine e8a (cuts:=[]) tys hM Tryz.func42 rfl Tryz.call42 rfl rfl (λ_=>rfl) rfl (λ_=>rfl) ?_
 show exC Tryz.prog T [] _ false none 2 (lA 98 2 [.ref 1 0] [.mp true ⟨true,2,false⟩ (λ_=>none),.cs true 5 (λj=>match j with|0=> .d (rgs R)|1=> .d (rgs C)|2=> .d (zZ Z)|3=> .d (.mp ⟨true,2,true⟩ (bM E B))|_=> .mp 0)]) (b7o T 2 [ResultVar.cell 2 70,ResultVar.tmp 3] _ _)
 conv=>whnf
 repeat' first|(refine go ?_;conv=>whnf)|(refine go2 ?_ ?_<;>(try intro hc)<;>conv=>whnf)|fail
 refine e2x [0,2,3,6,7,8,9,10,11,12,17,30,31,32,33,34,36,37,38,39,41,42,43,44,45,46,47,48,49,50,51,52,54,55,56,57,58,59,60,61,63,64,65,66,67,68,69,70,71,72,73,75,76,77,78,79,80,82,83,84,85,86,87,88,89,90,91,92,93,94,96,97] 40 ?_
 (conv=>whnf)
 refine e3v 98 ({s:List (List Int)//s.Nodup/\(∀x∈s,x∈tD (2+R.length+C.length))/\∀u v,[u,v]∈s->E u v}) 0 (λ⟨s,_⟩ nx=>([],[(0,.mp true ⟨true,2,false⟩ (fM (λu v=>[u,v]∈s) λu v=>(B u v).1)),(8,.it true ⟨true,2,true⟩ (bM E B) s none)])) (λp=>100-p.1.length) (⟨[],by simp,by simp,by simp⟩) ?_ ?_
 ·rintro⟨s,hs,hsub,hsE⟩
  conv=>whnf
  refine Nx.mk (λka kb kx hx hs'=>?_) (λhe=>?_)
  ·obtain⟨a',b',e1,hE,hkx⟩:=a2d hx
   cases e1
   have hdk:dc1 kx=(B ka kb).1:=by rw[hkx];exact qU _ _
   obtain⟨q1,q2,q3,q4⟩:=h.lt ka kb hE
   have hn:([ka,kb]::s).Nodup:=e2b.2 ⟨hs',hs⟩
   have hn2:∀x∈[ka,kb]::s,x∈tD (2+R.length+C.length):=λy hy=>by
    rcases e0b.1 hy with rfl|hy
    ·exact wN ⟨q1,q2⟩ ⟨q3,q4⟩
    ·exact hsub y hy
   have hn3:∀u v,[u,v]∈[ka,kb]::s->E u v:=λu v hm=>((b3k u v).1 hm).elim (hsE u v) λ⟨h1,h2⟩=>h1▸h2▸hE
   have hl2:s.length+1<=100:=by
    have:=kI _ ([ka,kb]::s) hn hn2
    have:=vV hn10
    rw[e0r]at*
    omega
   have e3:eF (jV (fM (λu v=>[u,v]∈s) λu v=>(B u v).1) [ka,kb] (dc1 kx)) (fM (λu v=>[u,v]∈[ka,kb]::s) λu v=>(B u v).1):=mD (λu v=>b3k u v) hdk λ_ _ _ _=>rfl
   conv=>whnf
   repeat' first|(refine go ?_;conv=>whnf)|(refine go2 ?_ ?_<;>(try intro hc)<;>conv=>whnf)|fail
   all_goals first|(exfalso;omega)|exact⟨rfl,⟨[ka,kb]::s,hn,hn2,hn3⟩,Lf,by simp only[e0r];omega⟩
  ·have hg0:kV E B λu v=>(B u v).1:=λu v hE=>⟨e4u _,(h.bd u v hE).2.1⟩
   have e4:eF (fM (λu v=>[u,v]∈s) λu v=>(B u v).1) (fM E λu v=>(B u v).1):=mC (λu v=>⟨hsE u v,λhE=>he _ _ (gD hE)⟩) λ_ _ _=>rfl
   clear he
   conv=>whnf
   repeat' first|(refine go ?_;conv=>whnf)|(refine go2 ?_ ?_<;>(try intro hc)<;>conv=>whnf)|fail
   all_goals try(exfalso;omega)
   refine e2x [0,2,6] 40 ?_
   (conv=>whnf)
   refine e3v 98 ({z:Int->Int->Int//kV E B z}) 0 (λ⟨z,_⟩ nx=>([],[(0,.mp true ⟨true,2,false⟩ (fM E z))])) (λp=>(tot (2+R.length+C.length) E p.1).toNat) (⟨λu v=>(B u v).1,hg0⟩) ?_ ?_
   ·clear e4 hg0
    rintro⟨z,hz⟩
    have hex:=λu=>a2b h z hz u
    have hxb:=λu=>c7o h hz u
    have hrl:=b4e (2+R.length+C.length) E z
    conv=>whnf
    repeat' first|((first|refine go ?_|refine gc (hnd) ?_);conv=>whnf)|(refine go2 ?_ ?_<;>(try intro hc)<;>conv=>whnf)|fail
    refine e2x [0,2,3,6,9,10,11,12,32,33,51,52,54,55,56,57,58,59,60,61,63,64,65,66,67,68,69,70,71,72,73,75,76,77,78,79,80,82,83,84,85,86,87,88,89,90,91,92,93,94,96,97] 40 ?_
    (conv=>whnf)
    refine e3v 98 ({i:Int//0<=i/\i<=2+R.length+C.length}) 0 (λ⟨i,_⟩ nx=>([(34,.d (int i)),(7,.ms 9 1 0 (dK (2+R.length+C.length) E z i.toNat).length)],[(9,.row true 3 1 (dK (2+R.length+C.length) E z i.toNat).length (znF (dK (2+R.length+C.length) E z i.toNat)))])) (λp=>(2+R.length+C.length-p.1).toNat) (⟨0,by omega,by omega⟩) ?_ ?_
    ·rintro⟨i,i0,i1⟩
     have hri:=hrl i.toNat
     by_cases hi:i<2+R.length+C.length
     ·have hexi:=hex i
      have hxi:=hxb i
      by_cases hp:0<exc (2+R.length+C.length) E z i
      ·have hy:dK (2+R.length+C.length) E z (i+1).toNat=dK (2+R.length+C.length) E z i.toNat++[i.toNat]:=by
        rw[show(i+1).toNat=i.toNat+1 by omega]
        exact b4f (by rw[e3b i0];exact hp)
       have hx:dI (int i) (int ((i.toNat:Nat):Int)):=⟨rfl,by omega⟩
       have hyl:(dK (2+R.length+C.length) E z i.toNat).length+1=(dK (2+R.length+C.length) E z (i+1).toNat).length:=by rw[hy];simp
       conv=>whnf
       repeat' first|((first|refine go ?_|refine gc (hexi) ?_);conv=>whnf)|(refine go2 ?_ ?_<;>(try intro hc)<;>conv=>whnf)|fail
       all_goals try(exfalso;omega)
       all_goals(refine⟨rfl,⟨i+1,by omega,by omega⟩,?_,by simp only;omega⟩;(conv=>whnf);repeat' first|(refine e2d ?_)|((conv=>whnf);first|exact True.intro|(refine And.intro ?_ ?_)|exact rfl|exact e1h (e0f _)|exact e0h _|((conv=>arg 1;whnf);first|exact e0h _|(refine e1q ?_)|(refine e1i ?_)|(refine e2k ?_)|(refine e2e ?_ ?_)|(refine e1v ?_)|(refine e2f rfl ?_))|(refine aA ?_)|exact eF.refl _|exact aB|exact aC|exact e0m|exact bS.refl _)|exact rfl|(refine And.intro ?_ ?_)|exact e0h _)
       all_goals first|omega|exact b4m hy (by omega) hx (by omega)|(simp;omega)
      ·have hy:dK (2+R.length+C.length) E z (i+1).toNat=dK (2+R.length+C.length) E z i.toNat:=by
        rw[show(i+1).toNat=i.toNat+1 by omega]
        exact b9j (by rw[e3b i0];exact hp)
       have hyl:(dK (2+R.length+C.length) E z i.toNat).length=(dK (2+R.length+C.length) E z (i+1).toNat).length:=by rw[hy]
       conv=>whnf
       repeat' first|((first|refine go ?_|refine gc (hexi) ?_);conv=>whnf)|(refine go2 ?_ ?_<;>(try intro hc)<;>conv=>whnf)|fail
       all_goals first|(exfalso;omega)|exact⟨rfl,⟨i+1,by omega,by omega⟩,Lf,by simp only;omega⟩
     ·have hiN:i.toNat=2+R.length+C.length:=by omega
      have hmr:=λu=>b8i (N:=2+R.length+C.length) (E:=E) (g:=z) (i:=i.toNat) (u:=u)
      by_cases hl0:(dK (2+R.length+C.length) E z i.toNat).length=0
      ·conv=>whnf
       repeat' first|(refine go ?_;conv=>whnf)|(refine go2 ?_ ?_<;>(try intro hc)<;>conv=>whnf)|fail
       all_goals first|(exfalso;omega)|exact⟨⟨z,hz⟩,Lf⟩
      ·have hsN:∀x∈dK (2+R.length+C.length) E z i.toNat,x<2+R.length+C.length:=λx hx=>by have:=((hmr x).1 hx).1;omega
       have hway:=a6y (Z:=Z) hR hC h z hz (dK (2+R.length+C.length) E z i.toNat) hsN (by omega) 0 0
       obtain⟨⟨r,cnt,hT⟩,hcl,hfr,hro⟩:=c5q h z (dK (2+R.length+C.length) E z i.toNat) hsN
       generalize a9m (cN (cut 0 0 (cF E B z))) (2+R.length+C.length) (dK (2+R.length+C.length) E z i.toNat)=b at*
       have hzl:=nI (dK (2+R.length+C.length) E z i.toNat)
       conv=>whnf
       repeat' first|((first|refine go ?_|(apply Cl.go;(conv=>whnf);first|refine e2m (hway) ?_|refine e2m (hnd) ?_));conv=>whnf)|(refine go2 ?_ ?_<;>(try intro hc)<;>conv=>whnf)|fail
       have hxN:∀x,b x≠0->x<2+R.length+C.length:=λx hx=>(hT.lt x hx).1
       refine e2x [0,2,3,6,7,8,9,32,33,34,36,37,38,39,41,42,43,44,45,46,47,48,49,50,51,52,54,55,56,57,58,59,60,97] 40 ?_
       (conv=>whnf)
       refine e3v 98 ({k:Int//(0<=k/\k<=2+R.length+C.length)/\∀u:Nat,(u:Int)<k->b u≠0->0<=exc (2+R.length+C.length) E z u}) 0 (λ⟨k,_⟩ nx=>([(61,.d (int k))],[])) (λp=>(2+R.length+C.length-p.1).toNat) (⟨0,⟨by omega,by omega⟩,λu hu=>by omega⟩) ?_ ?_
       ·rintro⟨k,⟨k0,k1⟩,hdone⟩
        by_cases hk:k<2+R.length+C.length
        ·have hexk:=hex k
         have hxk:=hxb k
         have hbq:((b (0+k.toNat):Nat):Int)=(b k.toNat:Nat):=by rw[e0f]
         by_cases hgood:exc (2+R.length+C.length) E z k<0/\b k.toNat≠0
         ·obtain⟨root,hroot⟩:∃root,nZ b (2+R.length+C.length) k.toNat=root:=⟨_,rfl⟩
          have hrt:=b4h hT (2+R.length+C.length) k.toNat (by have:=(hT.lt _ hgood.2).2.1;have:=hT.cN;omega) hgood.2
          rw[hroot]at hrt
          have hrs:=(hmr root).1 (hro root hrt.1)
          conv=>whnf
          repeat' first|((first|refine go ?_|refine gc (hexk) ?_);conv=>whnf)|(refine go2 ?_ ?_<;>(try intro hc)<;>conv=>whnf)|fail
          all_goals try(exfalso;omega)
          refine e2x [0,2,3,6,7,8,9,10,11,32,33,34,36,37,38,39,41,42,43,44,45,46,47,48,49,50,51,52,54,55,56,57,58,59,60,61,63,64,65,66,67,68,69,70,71,72,73,75,86,87,88,89,90,91,92,93,94,96,97] 40 ?_
          (conv=>whnf)
          refine e3v 98 ({p:Nat×Nat//nZ b p.1 p.2=root/\b p.2≠0/\r p.2<=p.1}) 0 (λ⟨(f,x),_⟩ nx=>([(12,.d (int x))],[])) (λp=>p.1.1) (⟨(2+R.length+C.length,k.toNat),hroot,hgood.2,by have:=(hT.lt _ hgood.2).2.1;have:=hT.cN;simp only;omega⟩) ?_ ?_
          ·rintro⟨⟨f,x⟩,hfx,hbx,hrx⟩
           simp only at hfx hbx hrx
           have hlx:=hT.lt x hbx
           have hq:((b (0+Int.toNat (x:Int)):Nat):Int)=(b x:Nat):=by rw[e0f,e1b]
           by_cases hxr:b x=x+1
           ·have hx:x=root:=by
             cases f with
             |zero=>exact hfx
             |succ f=>rw[nZ,e0c hxr]at hfx;exact hfx
            subst hx
            have hexr:=hex x
            have hxr2:=hxb x
            obtain⟨m,hm⟩:∃m,sQ (cF E B z) (pE b (2+R.length+C.length) k.toNat) (min (0-exc (2+R.length+C.length) E z k) (exc (2+R.length+C.length) E z x))=m:=⟨_,rfl⟩
            have hPe:=kM hT (2+R.length+C.length) k.toNat hgood.2
            have hPa:=a5u hT (2+R.length+C.length) k.toNat hgood.2
            have hpush:=sA (R:=R) (C:=C) (Z:=Z) h z hz b r cnt hT k.toNat hgood.2 (min (0-exc (2+R.length+C.length) E z k) (exc (2+R.length+C.length) E z x)) ⟨by omega,by omega⟩ _ rfl m hm
            have hle:=rV (cF E B z) (pE b (2+R.length+C.length) k.toNat) (min (0-exc (2+R.length+C.length) E z k) (exc (2+R.length+C.length) E z x))
            have hpos:1<=sQ (cF E B z) (pE b (2+R.length+C.length) k.toNat) (min (0-exc (2+R.length+C.length) E z k) (exc (2+R.length+C.length) E z x)):=mM (by omega) λe he=>(hPe e he).1
            rw[hm]at hle hpos
            have hgo:kV E B (apG E m (pE b (2+R.length+C.length) k.toNat) z):=a4g h (by omega) hz hPa λe he=>⟨hle.2 e he,(qP h (hPe e he).1).1⟩
            have htp:tot (2+R.length+C.length) E (apG E m (pE b (2+R.length+C.length) k.toNat) z)<tot (2+R.length+C.length) E z:=b9u (a:=x) (c:=k.toNat) hrt.2 hpos (by omega) (by rw[e3b k0];omega) λw=>by
             have:=c1c h (b:=b) (m:=m) w (2+R.length+C.length) k.toNat z λe he=>(qP h (hPe e he).1).1
             rw[hroot]at this
             exact this
            have htn:=a6t (2+R.length+C.length) E (apG E m (pE b (2+R.length+C.length) k.toNat) z)
            conv=>whnf
            repeat' first|((first|refine go ?_|refine gc (hexr) ?_);conv=>whnf)|(refine go2 ?_ ?_<;>(try intro hc)<;>conv=>whnf)|fail
            all_goals try(exfalso;omega)
            refine e8d (hpush) ?_
            (conv=>whnf)
            refine Ob.lsX (hpush) ?_ ?_
            focus (exact Lf)
            rintro⟨⟩
            (conv=>whnf)
            repeat' first|(refine go ?_;conv=>whnf)|(refine go2 ?_ ?_<;>(try intro hc)<;>conv=>whnf)|fail
            all_goals first|(exfalso;omega)|exact⟨rfl,⟨apG E m (pE b (2+R.length+C.length) k.toNat) z,hgo⟩,Lf,by simp only;omega⟩
           ·obtain⟨h1,h2,h3,h4⟩:=hT.up x hbx hxr
            obtain⟨f',rfl⟩:∃f',f=f'+1:=⟨f-1,by omega⟩
            rw[nZ,d9z hxr]at hfx
            conv=>whnf
            repeat' first|(refine go ?_;conv=>whnf)|(refine go2 ?_ ?_<;>(try intro hc)<;>conv=>whnf)|fail
            all_goals first|(exfalso;omega)|exact⟨rfl,⟨(f',b x-1),hfx,h1,by simp only;omega⟩,Lf,by simp only;omega⟩
          ·exact Lf
         ·have hd2:∀u:Nat,(u:Int)<k+1->b u≠0->0<=exc (2+R.length+C.length) E z u:=λu hu hbu=>by
           by_cases e:(u:Int)=k
           ·have:u=k.toNat:=by omega
            subst this
            rw[e3b k0]
            exact Int.not_lt.1 λh=>hgood ⟨h,hbu⟩
           ·exact hdone u (by omega) hbu
          have hg2:exc (2+R.length+C.length) E z k<0->b k.toNat=0:=λh=>e3z λe=>hgood ⟨h,e⟩
          by_cases hneg:exc (2+R.length+C.length) E z k<0
          ·have hb0:=hg2 hneg
           conv=>whnf
           repeat' first|((first|refine go ?_|refine gc (hexk) ?_);conv=>whnf)|(refine go2 ?_ ?_<;>(try intro hc)<;>conv=>whnf)|fail
           all_goals first|(exfalso;omega)|exact⟨rfl,⟨k+1,⟨by omega,by omega⟩,hd2⟩,Lf,by simp only;omega⟩
          ·conv=>whnf
           repeat' first|((first|refine go ?_|refine gc (hexk) ?_);conv=>whnf)|(refine go2 ?_ ?_<;>(try intro hc)<;>conv=>whnf)|fail
           all_goals first|(exfalso;omega)|exact⟨rfl,⟨k+1,⟨by omega,by omega⟩,hd2⟩,Lf,by simp only;omega⟩
        ·exfalso
         have hx0:=aE (l:=dK (2+R.length+C.length) E z i.toNat) (i:=0) (by omega) 0
         have hx1:=(hmr _).1 hx0
         exact hnb z hz b (λu v _ hv hbu hbv=>hcl u v hv hbu hbv) (λu hu hbu=>hdone u (by omega) hbu) ⟨_,by omega,by rw[hfr _ hx0];omega,hx1.2⟩
       ·exact Lf
    ·exact Lf
   ·exact Lf
 ·have e0:eF (λ_=>none) (fM (λu v=>[u,v]∈([]:List (List Int))) λu v=>(B u v).1):=b1h λu v=>by simp
  exact Lf
theorem jC (p:Nat->Prop):∀n:Nat,∃a,a<2^n/\∀i,i<n->(a/2^i %2=1↔p i)
 |0=>⟨0,by decide,λi h=>by omega⟩
 |n+1=>by
  obtain⟨a,h1,h2⟩:=jC p n
  by_cases hp:p n
  ·refine⟨a+2^n,by rw[Nat.pow_succ];omega,λi hi=>?_⟩
   by_cases e:i=n
   ·subst e
    rw[Nat.add_div_right _ (e7r i),Nat.div_eq_of_lt h1]
    exact⟨λ_=>hp,λ_=>rfl⟩
   ·have hq:2^n=2^i*(2*2^(n-i-1)):=by
     rw[<-Nat.mul_assoc,e7x _ 2,Nat.mul_assoc,<-Nat.pow_add,e7x 2,<-Nat.pow_succ]
     congr 1;omega
    rw[hq,Nat.add_mul_div_left _ _ (e7r i),<-h2 i (by omega)]
    generalize a/2^i=x
    generalize 2^(n-i-1)=y
    omega
  ·refine⟨a,by rw[Nat.pow_succ];omega,λi hi=>?_⟩
   by_cases e:i=n
   ·subst e
    rw[Nat.div_eq_of_lt h1]
    exact⟨λh=>absurd h (by decide),λh=>absurd h hp⟩
   ·exact h2 i (by omega)
theorem xA (f:Nat->Int)(a:Nat):∀b,sm f (a+b)=sm f a+sm (λi=>f (a+i)) b
 |0=>by rw[e2j];exact(e6w _).symm
 |b+1=>by
  rw[<-e3j,sm,sm,xA f a b];omega
theorem c1j (f:Nat->Int):∀n,sm (λi=> -f i) n= -sm f n
 |0=>rfl
 |n+1=>by rw[sm,sm,c1j f n];omega
theorem nA (x:Int)(c:Nat):∀n,sm (λu=>if u=c then x else 0) n=if c<n then x else 0
 |0=>by simp[sm]
 |n+1=>by
  rw[sm,nA x c n]
  by_cases h:n=c
  ·subst h;rw[d9z (by omega),e0c rfl,e0c (by omega)];omega
  ·rw[d9z h]
   by_cases h1:c<n
   ·rw[e0c h1,e0c (by omega)];omega
   ·rw[d9z h1,d9z (by omega)];rfl
def dw (E:Int->Int->Prop)(B:Int->Int->Int×Int)(b:Nat->Nat)(u v:Nat):Int:=by
  classical exact if E u v then(if b u=0/\b v≠0 then(B u v).1 else if b u≠0/\b v=0 then-(B u v).2 else 0)else 0
theorem b8o {N:Nat}{E:Int->Int->Prop}{B:Int->Int->Int×Int}(h:NetOk N E B){g:Int->Int->Int}(hg:kV E B g){b:Nat->Nat}(hc:∀u v:Nat,u<N->v<N->b u≠0->b v=0->cF E B g u v<=0)(h0:∀u:Nat,u<N->b u≠0->0<=exc N E g u)(h1:∃u:Nat,u<N/\b u≠0/\0<exc N E g u):0<sq N (dw E B b):=by
 classical
 have e1:0<sm (λu=>if b u≠0 then exc N E g u else 0) N:=by
  obtain⟨u,hu,hbu,hp⟩:=h1
  have:sm (λv=>if v=u then exc N E g u else 0) N<=sm (λu=>if b u≠0 then exc N E g u else 0) N:=a0i λv hv=>by
   by_cases e:v=u
   ·subst e;rw[e0c rfl,e0c hbu];exact e4u _
   ·rw[d9z e]
    split
    ·rename_i hb;exact h0 v hv hb
    ·exact e4u _
  rw[nA,e0c hu]at this
  omega
 have e2:sm (λu=>if b u≠0 then exc N E g u else 0) N=sm (λa=>sm (λc=>sm (λu=>if b u≠0 then xw E g u a c else 0) N) N) N:=by
  have:∀u,(if b u≠0 then exc N E g u else 0)=sm (λa=>sm (λc=>if b u≠0 then xw E g u a c else 0) N) N:=λu=>by
   by_cases hb:b u≠0
   ·simp only[e0c hb];rfl
   ·simp only[d9z hb]
    rw[show(λ_:Nat=>sm (λ_=>(0:Int)) N)=λ_=>0 from funext λ_=>iU N,iU]
  rw[aS λu _=>this u,xB (λu a=>sm (λc=>if b u≠0 then xw E g u a c else 0) N) N N]
  exact aS λa _=>xB (λu c=>if b u≠0 then xw E g u a c else 0) N N
 rw[e2]at e1
 refine Int.lt_of_lt_of_le e1 (a0i λa ha=>a0i λc hcN=>?_)
 unfold dw
 by_cases hE:E a c
 ·have e3:sm (λu=>if b u≠0 then xw E g u a c else 0) N=(if b c≠0 then g a c else 0)-if b a≠0 then g a c else 0:=by
   have:∀u:Nat,(if b u≠0 then xw E g u a c else 0)=(if u=c then(if b c≠0 then g a c else 0)else 0)+ -(if u=a then(if b a≠0 then g a c else 0)else 0):=λu=>by
    unfold xw
    rw[e0c hE]
    have q1:((c:Int)=u)↔u=c:=by omega
    have q2:((a:Int)=u)↔u=a:=by omega
    simp only[q1,q2]
    by_cases i1:u=c<;>by_cases i2:u=a
    ·subst i1;subst i2;split<;>(simp;try omega)
    ·subst i1;simp[i2]
    ·subst i2;simp[i1];split<;>simp
    ·simp[i1,i2]
   rw[aS λu _=>this u,a0h,c1j,nA,nA,e0c hcN,e0c ha]
   omega
  rw[e3,e0c hE]
  by_cases ba:b a=0<;>by_cases bc:b c=0
  ·simp[ba,bc]
  ·have:=hc c a hcN ha bc ba
   unfold cF at this
   rw[d9z (h.anti _ _ hE),e0c hE]at this
   simp only[ba,bc];simp;omega
  ·have:=hc a c ha hcN ba bc
   unfold cF at this
   rw[e0c hE]at this
   simp only[ba,bc];simp;omega
  ·simp[ba,bc]
 ·have e3:∀u:Nat,(if b u≠0 then xw E g u a c else 0)=0:=λu=>by unfold xw;rw[d9z hE];simp
  rw[aS λu _=>e3 u,iU,d9z hE]
  exact e4u _
def pq (b:Nat->Nat)(u v:Nat)(lo hi:Int):Int:=if b u=0/\b v≠0 then lo else if b u≠0/\b v=0 then-hi else 0
theorem a4v {E:Int->Int->Prop}{B:Int->Int->Int×Int}{b:Nat->Nat}{u v:Nat}{r:Int×Int}(h:E u v)(hr:B u v=r):dw E B b u v=pq b u v r.1 r.2:=by
 unfold dw pq;rw[e0c h,hr]
theorem pJ {E:Int->Int->Prop}{B:Int->Int->Int×Int}{b:Nat->Nat}{u v:Nat}(h:¬E u v):dw E B b u v=0:=by
 unfold dw;rw[d9z h]
theorem lT {f:Nat->Int}{n:Nat}(h:∀i,i<n->f i=0):sm f n=0:=by rw[aS h,iU]
theorem b5c (R C:List (Int×Int))(Z:List (List (Int×Int)))(b:Nat->Nat):
  sq (2+R.length+C.length) (dw (tE R.length C.length) (tB R C Z) b)=pq b 1 0 0 192+sm (λi=>pq b 0 (2+i) (R.getD i (0,0)).1 (R.getD i (0,0)).2) R.length+sm (λi=>sm (λk=>pq b (2+i) (2+R.length+k) ((Z.getD i []).getD k (0,0)).1 ((Z.getD i []).getD k (0,0)).2) C.length) R.length+sm (λk=>pq b (2+R.length+k) 1 (C.getD k (0,0)).1 (C.getD k (0,0)).2) C.length:=by
 have hsp:∀F:Nat->Int,sm F (2+R.length+C.length)=F 0+F 1+sm (λi=>F (2+i)) R.length+sm (λk=>F (2+R.length+k)) C.length:=λF=>by
  rw[xA,xA];simp[sm]
 unfold sq
 rw[hsp]
 rw[hsp λj=>dw _ _ b 0 j,hsp λj=>dw _ _ b 1 j]
 have r0:∀i,i<R.length->sm (λj=>dw (tE R.length C.length) (tB R C Z) b (2+i) j) (2+R.length+C.length)=sm (λk=>pq b (2+i) (2+R.length+k) ((Z.getD i []).getD k (0,0)).1 ((Z.getD i []).getD k (0,0)).2) C.length:=λi hi=>by
  rw[hsp λj=>dw _ _ b (2+i) j,pJ (by unfold tE;omega),pJ (by unfold tE;omega),lT λk hk=>pJ (by unfold tE;omega),aS λk hk=>a4v (u:=2+i) (v:=2+R.length+k) (r:=(Z.getD i []).getD k (0,0)) (by unfold tE;omega) ?_]
  ·omega
  ·unfold tB
   rw[d9z (by omega),d9z (by omega),e0c (by omega),show(((2+i:Nat):Int)-2).toNat=i by omega,show(((2+R.length+k:Nat):Int)-2-R.length).toNat=k by omega]
 have c0:∀k,k<C.length->sm (λj=>dw (tE R.length C.length) (tB R C Z) b (2+R.length+k) j) (2+R.length+C.length)=pq b (2+R.length+k) 1 (C.getD k (0,0)).1 (C.getD k (0,0)).2:=λk hk=>by
  rw[hsp λj=>dw _ _ b (2+R.length+k) j,pJ (by unfold tE;omega),lT λk hk=>pJ (by unfold tE;omega),lT λk hk=>pJ (by unfold tE;omega),a4v (u:=2+R.length+k) (v:=1) (r:=C.getD k (0,0)) (by unfold tE;omega) ?_]
  ·omega
  ·unfold tB
   rw[d9z (by omega),d9z (by omega),d9z (by omega),show(((2+R.length+k:Nat):Int)-2-R.length).toNat=k by omega]
 rw[aS r0,aS c0]
 rw[pJ (u:=0) (v:=0) (by unfold tE;omega),pJ (u:=0) (v:=1) (by unfold tE;omega),a4v (u:=1) (v:=0) (r:=(0,192)) (by unfold tE;omega) (by unfold tB;rfl),pJ (u:=1) (v:=1) (by unfold tE;omega)]
 rw[lT (n:=R.length) (f:=λi=>dw (tE R.length C.length) (tB R C Z) b 1 (2+i)) λk hk=>pJ (by unfold tE;omega),lT (n:=C.length) (f:=λi=>dw (tE R.length C.length) (tB R C Z) b 1 (2+R.length+i)) λk hk=>pJ (by unfold tE;omega),lT (n:=C.length) (f:=λi=>dw (tE R.length C.length) (tB R C Z) b 0 (2+R.length+i)) λk hk=>pJ (by unfold tE;omega)]
 rw[aS (n:=R.length) (f:=λi=>dw (tE R.length C.length) (tB R C Z) b 0 (2+i)) λi hi=>a4v (u:=0) (v:=2+i) (r:=R.getD i (0,0)) (by unfold tE;omega) (by unfold tB;rw[d9z (by omega),e0c (by omega),show(((2+i:Nat):Int)-2).toNat=i by omega])]
 rw[show pq b 1 0 (0,192).1 (0,192).2=pq b 1 0 0 192 from rfl]
 omega
theorem a6j (R C:List (Int×Int))(Z:List (List (Int×Int)))(a b:Nat):shV R C Z a b=sm (λk=>shC C b k) C.length+sm (λi=>if a/2^i %2=1 then-(R.getD i (0,0)).2 else 0) R.length+sm (λi=>sm (λk=>shZ Z a b i k) C.length) R.length:=by
 unfold shV shR
 rw[a0h];omega
theorem cW {b:Nat->Nat}{u v:Nat}{lo hi:Int}:pq b u v lo hi=(if b u=0 then(if b v=0 then 0 else lo)else if b v=0 then-hi else 0):=by
 unfold pq
 by_cases h1:b u=0<;>by_cases h2:b v=0<;>simp[h1,h2]
theorem a6k (c:Int):∀n:Nat,sm (λ_=>c) n=c*n
 |0=>by simp[sm]
 |n+1=>by rw[sm,a6k c n,Int.natCast_succ,Int.mul_add,Int.mul_one]
theorem d3x {R C:List (Int×Int)}{Z:List (List (Int×Int))}(h:TabOk R C Z)(hs:iA R C Z):c6x (2+R.length+C.length) (tE R.length C.length) (tB R C Z):=by
 intro g hg b hc h0 h1
 have hp:=b8o (sK h) hg hc h0 h1
 rw[b5c]at hp
 have hr1:=h.r1
 have hrr:=λ(i:Nat) (i1:i<R.length)=>h.rr _ (aE (l:=R) (i:=i) i1 (0,0))
 have hcc:=λ(i:Nat) (i1:i<C.length)=>h.cc _ (aE (l:=C) (i:=i) i1 (0,0))
 have hzm:=λ(i:Nat) (i1:i<R.length)=>aE (l:=Z) (i:=i) (by rw[h.z0];exact i1) []
 have hzz:=λ(i k:Nat) (i1:i<R.length) (k1:k<C.length)=>h.zz _ (hzm i i1) _ (aE (l:=Z.getD i []) (i:=k) (by rw[h.z1 _ (hzm i i1)];exact k1) (0,0))
 unfold pQ at hrr hcc hzz
 have hX:=λ(i k:Nat) (i1:i<R.length) (k1:k<C.length)=>d5g Z i1 k1
 have hXl:(tnZ Z R.length C.length).length=C.length:=xE _ _ _
 by_cases b0:b 0=0<;>by_cases b1:b 1=0
 ·obtain⟨a,ha,hab⟩:=jC (λi=>b (2+i)≠0) R.length
  obtain⟨q,hq,hqb⟩:=jC (λk=>b (2+R.length+k)≠0) C.length
  have:=(hs a q ha hq).2
  rw[a6j]at this
  have e1:sm (λk=>shC R a k) R.length=sm (λi=>pq b 0 (2+i) (R.getD i (0,0)).1 (R.getD i (0,0)).2) R.length:=aS λi hi=>by
   unfold shC;rw[cW,e0c b0]
   by_cases e:b (2+i)=0
   ·rw[e0c e,d9z λe'=>((hab i hi).1 e') e]
   ·rw[d9z e,e0c ((hab i hi).2 e)]
  have e2:sm (λi=>if q/2^i %2=1 then-(C.getD i (0,0)).2 else 0) C.length=sm (λk=>pq b (2+R.length+k) 1 (C.getD k (0,0)).1 (C.getD k (0,0)).2) C.length:=aS λi hi=>by
   rw[cW,e0c b1,e0c b1]
   by_cases e:b (2+R.length+i)=0
   ·rw[e0c e,d9z λe'=>((hqb i hi).1 e') e]
   ·rw[d9z e,e0c ((hqb i hi).2 e)]
  have e3:sm (λi=>sm (λk=>shZ (tnZ Z R.length C.length) q a i k) R.length) C.length=sm (λi=>sm (λk=>pq b (2+i) (2+R.length+k) ((Z.getD i []).getD k (0,0)).1 ((Z.getD i []).getD k (0,0)).2) C.length) R.length:=by
   rw[xB]
   refine aS λi hi=>aS λk hk=>?_
   unfold shZ;rw[cW,hX i k hi hk]
   by_cases e:b (2+R.length+k)=0
   ·rw[d9z λe'=>((hqb k hk).1 e') e,e0c e]
    by_cases e2:b (2+i)=0
    ·rw[d9z λe'=>((hab i hi).1 e') e2,e0c e2]
    ·rw[e0c ((hab i hi).2 e2),d9z e2,e0c e]
   ·rw[e0c ((hqb k hk).2 e),d9z e]
    by_cases e2:b (2+i)=0
    ·rw[d9z λe'=>((hab i hi).1 e') e2,e0c e2]
    ·rw[e0c ((hab i hi).2 e2),d9z e2,d9z e]
  rw[e1,e2,e3]at this
  have e4:pq b 1 0 0 192=0:=by rw[cW,e0c b1,e0c b0]
  omega
 ·obtain⟨a,ha,hab⟩:=jC (λi=>b (2+i)=0) R.length
  obtain⟨q,hq,hqb⟩:=jC (λk=>b (2+R.length+k)=0) C.length
  have:=(hs a q ha hq).1
  rw[a6j]at this
  have e1:sm (λk=>shC C q k) C.length=sm (λk=>pq b (2+R.length+k) 1 (C.getD k (0,0)).1 (C.getD k (0,0)).2) C.length:=aS λi hi=>by
   unfold shC;rw[cW,d9z b1,d9z b1]
   by_cases e:b (2+R.length+i)=0
   ·rw[e0c e,e0c ((hqb i hi).2 e)]
   ·rw[d9z e,d9z λe'=>e ((hqb i hi).1 e')]
  have e3:sm (λi=>sm (λk=>shZ Z a q i k) C.length) R.length=sm (λi=>sm (λk=>pq b (2+i) (2+R.length+k) ((Z.getD i []).getD k (0,0)).1 ((Z.getD i []).getD k (0,0)).2) C.length) R.length:=by
   refine aS λi hi=>aS λk hk=>?_
   unfold shZ;rw[cW]
   by_cases e2:b (2+i)=0
   ·rw[e0c ((hab i hi).2 e2),e0c e2]
    by_cases e:b (2+R.length+k)=0
    ·rw[e0c ((hqb k hk).2 e),e0c e]
    ·rw[d9z λe'=>e ((hqb k hk).1 e'),d9z e]
   ·rw[d9z λe'=>e2 ((hab i hi).1 e'),d9z e2]
    by_cases e:b (2+R.length+k)=0
    ·rw[e0c ((hqb k hk).2 e),e0c e]
    ·rw[d9z λe'=>e ((hqb k hk).1 e'),d9z e]
  rw[e1,e3]at this
  have e2:sm (λi=>pq b 0 (2+i) (R.getD i (0,0)).1 (R.getD i (0,0)).2) R.length<=sm (λi=>(λ_=>48) i+if a/2^i %2=1 then-(R.getD i (0,0)).2 else 0) R.length:=a0i λi hi=>by
   have:=hrr i hi
   show _<=(48:Int)+_
   rw[cW,e0c b0]
   by_cases e2:b (2+i)=0
   ·rw[e0c ((hab i hi).2 e2),e0c e2];omega
   ·rw[d9z λe'=>e2 ((hab i hi).1 e'),d9z e2];omega
  rw[a0h,show sm (λ_=>(48:Int)) R.length=48*R.length from a6k 48 R.length]at e2
  have e4:pq b 1 0 0 192= -192:=by rw[cW,d9z b1,e0c b0]
  omega
 ·obtain⟨a,ha,hab⟩:=jC (λi=>b (2+i)=0) R.length
  have:=(hs a 0 ha (e7r _)).1
  rw[a6j]at this
  have z0:∀k,¬0/2^k %2=1:=λk=>by rw[Nat.zero_div];decide
  rw[lT (f:=λk=>shC C 0 k) λk _=>by unfold shC;rw[d9z (z0 k)]]at this
  have e1:sm (λk=>pq b (2+R.length+k) 1 (C.getD k (0,0)).1 (C.getD k (0,0)).2) C.length<=sm (λ_=>0) C.length:=a0i λk hk=>by
   have:=hcc k hk
   rw[cW,e0c b1,e0c b1]
   split<;>omega
  rw[iU]at e1
  have e2:sm (λi=>pq b 0 (2+i) (R.getD i (0,0)).1 (R.getD i (0,0)).2) R.length=sm (λi=>if a/2^i %2=1 then-(R.getD i (0,0)).2 else 0) R.length:=aS λi hi=>by
   rw[cW,d9z b0]
   by_cases e2:b (2+i)=0
   ·rw[e0c ((hab i hi).2 e2),e0c e2]
   ·rw[d9z λe'=>e2 ((hab i hi).1 e'),d9z e2]
  have e3:sm (λi=>sm (λk=>pq b (2+i) (2+R.length+k) ((Z.getD i []).getD k (0,0)).1 ((Z.getD i []).getD k (0,0)).2) C.length) R.length<=sm (λi=>sm (λk=>shZ Z a 0 i k) C.length) R.length:=by
   refine a0i λi hi=>a0i λk hk=>?_
   have:=hzz i k hi hk
   unfold shZ;rw[cW,d9z (z0 k),d9z (z0 k)]
   by_cases e2:b (2+i)=0
   ·rw[e0c ((hab i hi).2 e2),e0c e2]
    split<;>omega
   ·rw[d9z λe'=>e2 ((hab i hi).1 e'),d9z e2]
    split<;>omega
  have e4:pq b 1 0 0 192=0:=by rw[cW,e0c b1,d9z b0]
  omega
 ·obtain⟨a,ha,hab⟩:=jC (λi=>b (2+i)=0) R.length
  obtain⟨q,hq,hqb⟩:=jC (λk=>b (2+R.length+k)=0) C.length
  have:=(hs a q ha hq).1
  rw[a6j]at this
  have e1:sm (λk=>shC C q k) C.length=sm (λk=>pq b (2+R.length+k) 1 (C.getD k (0,0)).1 (C.getD k (0,0)).2) C.length:=aS λi hi=>by
   unfold shC;rw[cW,d9z b1,d9z b1]
   by_cases e:b (2+R.length+i)=0
   ·rw[e0c e,e0c ((hqb i hi).2 e)]
   ·rw[d9z e,d9z λe'=>e ((hqb i hi).1 e')]
  have e3:sm (λi=>sm (λk=>shZ Z a q i k) C.length) R.length=sm (λi=>sm (λk=>pq b (2+i) (2+R.length+k) ((Z.getD i []).getD k (0,0)).1 ((Z.getD i []).getD k (0,0)).2) C.length) R.length:=by
   refine aS λi hi=>aS λk hk=>?_
   unfold shZ;rw[cW]
   by_cases e2:b (2+i)=0
   ·rw[e0c ((hab i hi).2 e2),e0c e2]
    by_cases e:b (2+R.length+k)=0
    ·rw[e0c ((hqb k hk).2 e),e0c e]
    ·rw[d9z λe'=>e ((hqb k hk).1 e'),d9z e]
   ·rw[d9z λe'=>e2 ((hab i hi).1 e'),d9z e2]
    by_cases e:b (2+R.length+k)=0
    ·rw[e0c ((hqb k hk).2 e),e0c e]
    ·rw[d9z λe'=>e ((hqb k hk).1 e'),d9z e]
  rw[e1,e3]at this
  have e2:sm (λi=>pq b 0 (2+i) (R.getD i (0,0)).1 (R.getD i (0,0)).2) R.length=sm (λi=>if a/2^i %2=1 then-(R.getD i (0,0)).2 else 0) R.length:=aS λi hi=>by
   rw[cW,d9z b0]
   by_cases e2:b (2+i)=0
   ·rw[e0c ((hab i hi).2 e2),e0c e2]
   ·rw[d9z λe'=>e2 ((hab i hi).1 e'),d9z e2]
  have e4:pq b 1 0 0 192=0:=by rw[cW,d9z b1,d9z b0]
  omega
theorem b2o (a b:Int):Fn Tryz.prog 47 [int a,int b] (bool (decide (a<b))):=by
 refine e1t (cuts:=[]) tys hM Tryz.func47 rfl Tryz.call47 rfl ?_
 show exC Tryz.prog T [] _ false none 0 (entry 8 [int a,int b]) (cH T [ResultVar.tmp 4] _)
 conv=>whnf
 repeat' first|(refine go ?_;conv=>whnf)|(refine go2 ?_ ?_<;>(try intro hc)<;>conv=>whnf)|fail
 all_goals exact Lf
theorem b0g (a b:Int):Fn Tryz.prog 46 [ints [a,b],.fn 47 0 0 (λ_=> .top) (λ_=> .top)] (int (if b<a then b else a)):=by
 have hl:=b2o b a
 have e0:∀i:Int,i=0->(if i=0 then a else if b<a then b else a)=a:=λi h=>e0c h
 have e1:∀i:Int,¬i=0->(if i=0 then a else if b<a then b else a)=if b<a then b else a:=λi h=>d9z h
 refine e1t (cuts:=[]) tys hM Tryz.func46 rfl Tryz.call46 rfl ?_
 show exC Tryz.prog T [] _ false none 0 (entry 25 [ints [a,b],.fn 47 0 0 (λ_=> .top) (λ_=> .top)]) (cH T [ResultVar.tmp 4] _)
 conv=>whnf
 repeat' first|(refine go ?_;conv=>whnf)|(refine go2 ?_ ?_<;>(try intro hc)<;>conv=>whnf)|fail
 refine e2x [0,1,4,12,13,24] 40 ?_
 (conv=>whnf)
 refine e3v 25 ({i:Int//0<=i/\i<=1}) 0 (λ⟨i,_⟩ nx=>([(14,.d (int i)),(5,.d (int (if i=0 then a else if b<a then b else a)))],[])) (λp=>(1-p.1).toNat) (⟨0,by omega,by omega⟩) ?_ ?_
 ·rintro⟨i,i0,i1⟩
  by_cases hi:i=0
  ·subst hi
   by_cases hba:b<a
   ·have e2:(if(0:Int)+1=0 then a else if b<a then b else a)=b:=by rw[d9z (by omega),e0c hba]
    rw[e1r hba]at hl
    conv=>whnf
    repeat' first|((first|refine go ?_|refine gc (hl) ?_);conv=>whnf)|(refine go2 ?_ ?_<;>(try intro hc)<;>conv=>whnf)|fail
    all_goals first|(exfalso;omega)|exact⟨rfl,⟨0+1,by omega,by omega⟩,Lf,by simp only;omega⟩
   ·have e2:(if(0:Int)+1=0 then a else if b<a then b else a)=a:=by rw[d9z (by omega),d9z hba]
    rw[e1o hba]at hl
    conv=>whnf
    repeat' first|((first|refine go ?_|refine gc (hl) ?_);conv=>whnf)|(refine go2 ?_ ?_<;>(try intro hc)<;>conv=>whnf)|fail
    all_goals first|(exfalso;omega)|exact⟨rfl,⟨0+1,by omega,by omega⟩,Lf,by simp only;omega⟩
  ·have e2:=e1 i hi
   have hl1:(([a,b].length-Int.toNat 1:Nat):Int)=1:=rfl
   conv=>whnf
   repeat' first|(refine go ?_;conv=>whnf)|(refine go2 ?_ ?_<;>(try intro hc)<;>conv=>whnf)|fail
   all_goals first|(exfalso;omega)|exact Lf
 ·have e2:=e0 0 rfl
  exact Lf
theorem b4z {R C:List (Int×Int)}{Z:List (List (Int×Int))}(hR:R.length<=4)(hC:C.length<=4){E:Int->Int->Prop}{B:Int->Int->Int×Int}(h:NetOk (2+R.length+C.length) E B)(g:Int->Int->Int)(hg:kV E B g)(w0 w1:Int)(hw:E w0 w1):
  FnL Tryz.prog 17 (b5y R C Z (bM E B) (fM E g)) [.ref 1 0,.d (.ag 2 λj=>match j with|0=>int w0|_=>int w1)] 2 (λz:{z:(Int->Int->Int)×Int×Int//kV E B z.1}=>b5y R C Z (bM E B) (fM E z.1.1)) (λz=> .d (rgD (z.1.2.1,z.1.2.2))):=by
 have hgr:=rG (Z:=Z) hR hC h g hg w0 w1 hw w1 w0 (.inl ⟨rfl,rfl⟩)
 show FnL Tryz.prog 17 [.mp true ⟨true,2,false⟩ (fM E g),.cs true 5 (λj=>match j with|0=> .d (rgs R)|1=> .d (rgs C)|2=> .d (zZ Z)|3=> .d (.mp ⟨true,2,true⟩ (bM E B))|_=> .mp 0)] _ 2 _ _
 refine e8a (cuts:=[]) tys hM Tryz.func17 rfl Tryz.call17 rfl rfl (λ_=>rfl) rfl (λ_=>rfl) ?_
 show exC Tryz.prog T [] _ false none 2 (lA 37 2 [.ref 1 0,.d (.ag 2 λj=>match j with|0=>int w0|_=>int w1)] [.mp true ⟨true,2,false⟩ (fM E g),.cs true 5 (λj=>match j with|0=> .d (rgs R)|1=> .d (rgs C)|2=> .d (zZ Z)|3=> .d (.mp ⟨true,2,true⟩ (bM E B))|_=> .mp 0)]) (b7o T 2 [ResultVar.cell 4 35] _ _)
 conv=>whnf
 repeat' first|(refine go ?_;conv=>whnf)|(refine go2 ?_ ?_<;>(try intro hc)<;>conv=>whnf)|fail
 refine e8d (hgr) ?_
 (conv=>whnf)
 refine Ob.lsX (hgr) ?_ ?_
 focus (exact Lf)
 rintro⟨z1,hz1⟩
 (conv=>whnf)
 have hgr2:=rG (Z:=Z) hR hC h z1 hz1 w0 w1 hw w0 w1 (.inr ⟨rfl,rfl⟩)
 have hf1:(fM E z1 [w0,w1]).getD 0=z1 w0 w1:=by rw[gD hw];rfl
 repeat' first|(refine go ?_;conv=>whnf)|(refine go2 ?_ ?_<;>(try intro hc)<;>conv=>whnf)|fail
 refine e8d (hgr2) ?_
 (conv=>whnf)
 refine Ob.lsX (hgr2) ?_ ?_
 focus (exact Lf)
 rintro⟨z2,hz2⟩
 (conv=>whnf)
 have hf2:(fM E z2 [w0,w1]).getD 0=z2 w0 w1:=by rw[gD hw];rfl
 have hbe:=b0g ((fM E z2 [w0,w1]).getD 0) ((fM E z1 [w0,w1]).getD 0)
 generalize(if(fM E z1 [w0,w1]).getD 0<(fM E z2 [w0,w1]).getD 0 then(fM E z1 [w0,w1]).getD 0 else(fM E z2 [w0,w1]).getD 0)=lo at*
 repeat' first|((first|refine go ?_|refine gc (hbe) ?_);conv=>whnf)|(refine go2 ?_ ?_<;>(try intro hc)<;>conv=>whnf)|fail
 all_goals first|exact⟨⟨(z2,lo,(fM E z1 [w0,w1]).getD 0),hz2⟩,Lf⟩
theorem b3i (R C:List (Int×Int))(Z:List (List (Int×Int)))(h:TabOk R C Z):
  FnL Tryz.prog 41 [] [.d (jA R C Z)] 3 (λ_:Unit=>d7c R C Z (bM (tE R.length C.length) (tB R C Z)) λ_=>none) (λ_=> .tp 2 λj=>match j with|0=> .ref 1 0|_=> .d (int 0)):=by
 have hn:=a3a R C Z h
 have hk:=vB R C Z h
 refine e8a (cuts:=[]) tys hM Tryz.func41 rfl Tryz.call41 rfl rfl (λ_=>rfl) rfl (λ_=>rfl) ?_
 show exC Tryz.prog T [] _ false none 0 (lA 12 0 [.d (jA R C Z)] []) (b7o T 0 [ResultVar.tmp 2,ResultVar.tmp 3] _ _)
 conv=>whnf
 repeat' first|((first|refine go ?_|refine gc (hk) ?_);conv=>whnf)|(refine go2 ?_ ?_<;>(try intro hc)<;>conv=>whnf)|fail
 refine e8d (hn) ?_
 (conv=>whnf)
 refine Ob.lsX (hn) ?_ ?_
 focus (exact Lf)
 rintro⟨⟩
 (conv=>whnf)
 repeat' first|(refine go ?_;conv=>whnf)|(refine go2 ?_ ?_<;>(try intro hc)<;>conv=>whnf)|fail
 exact⟨⟨⟩,Lf⟩
theorem b8z (R C:List (Int×Int))(Z:List (List (Int×Int)))(h:TabOk R C Z):
  FnL Tryz.prog 41 [] [.d (jA R C Z)] 2 (λ_:Unit=>b5y R C Z (bM (tE R.length C.length) (tB R C Z)) λ_=>none) (λ_=> .tp 2 λj=>match j with|0=> .ref 1 0|_=> .d (int 0)):=by
 have h1:=FnL.shut (ms0:=λ_:Unit=>[.mp true ⟨true,2,false⟩ (λ_=>none),.cs true 5 (λj=>match j with|0=> .d (rgs R)|1=> .d (rgs C)|2=> .d (zZ Z)|3=> .mp 2|_=> .mp 0)]) (kt:=λ_=>⟨true,2,true⟩) (bm:=λ_=>bM (tE R.length C.length) (tB R C Z)) (b3i R C Z h) (e4t _)
 have e1:(λ_:Unit=>[Res.mp true ⟨true,2,false⟩ (λ_=>none),.cs true 5 (λj=>match j with|0=> .d (rgs R)|1=> .d (rgs C)|2=> .d (zZ Z)|3=> .mp 2|_=> .mp 0)].map (Res.sh 2 (.mp ⟨true,2,true⟩ (bM (tE R.length C.length) (tB R C Z)))))=λ_:Unit=>b5y R C Z (bM (tE R.length C.length) (tB R C Z)) λ_=>none:=by
  funext _
  unfold b5y
  rw[e0o,e0o,e3c]
  congr 2
  show Res.cs true 5 _=Res.cs true 5 _
  congr 1
  funext j
  match j with
  |0|1|2|3|_+4=>rfl
 have e2:(λ_:Unit=>AV.sh 2 (.mp ⟨true,2,true⟩ (bM (tE R.length C.length) (tB R C Z))) (.tp 2 λj=>match j with|0=> .ref 1 0|_=> .d (int 0)))=λ_:Unit=>AV.tp 2 λj=>match j with|0=> .ref 1 0|_=> .d (int 0):=by
  funext _
  show AV.tp 2 _=_
  congr 1
  funext j
  match j with
  |0|_+1=>rfl
 rw[e1,e2]at h1
 exact h1
theorem a2e (R C:List (Int×Int))(Z:List (List (Int×Int)))(h:TabOk R C Z)(hs:iA R C Z):
  FnL Tryz.prog 16 [] [.d (jA R C Z)] 2 (λz:{z:Int->Int->Int//kV (tE R.length C.length) (tB R C Z) z}=>b5y R C Z (bM (tE R.length C.length) (tB R C Z)) (fM (tE R.length C.length) z.1)) (λ_=> .tp 2 λj=>match j with|0=> .ref 1 0|_=> .d (int 0)):=by
 have ho:=b8z R C Z h
 have hf:=b1i (Z:=Z) h.r1 h.c1 (sK h) (d3x h hs)
 generalize tE R.length C.length=E at*
 generalize tB R C Z=B at*
 refine e8a (cuts:=[]) tys hM Tryz.func16 rfl Tryz.call16 rfl rfl (λ_=>rfl) rfl (λ_=>rfl) ?_
 show exC Tryz.prog T [] _ false none 0 (lA 24 0 [.d (jA R C Z)] []) (b7o T 0 [ResultVar.tmp 2,ResultVar.tmp 3] _ _)
 conv=>whnf
 repeat' first|(refine go ?_;conv=>whnf)|(refine go2 ?_ ?_<;>(try intro hc)<;>conv=>whnf)|fail
 refine e8d (ho) ?_
 (conv=>whnf)
 refine Ob.lsX (ho) ?_ ?_
 focus (exact Lf)
 rintro⟨⟩
 (conv=>whnf)
 repeat' first|(refine go ?_;conv=>whnf)|(refine go2 ?_ ?_<;>(try intro hc)<;>conv=>whnf)|fail
 refine e8d (hf) ?_
 (conv=>whnf)
 refine Ob.lsX (hf) ?_ ?_
 focus (exact Lf)
 rintro⟨z,hz⟩
 (conv=>whnf)
 repeat' first|(refine go ?_;conv=>whnf)|(refine go2 ?_ ?_<;>(try intro hc)<;>conv=>whnf)|fail
 exact⟨⟨z,hz⟩,Lf⟩
def b8t (l:List Int):Prop:=∀x∈l,0<=x/\x<=2
theorem a9o (R C:List (Int×Int))(Z:List (List (Int×Int)))(h:TabOk R C Z)(hs:iA R C Z)(many:Int)(hm:0<=many/\many<30):
  FnL Tryz.prog 6 [] [.d (jA R C Z),.d (int many)] 1 (λl:{l:List Int//l.length=R.length/\b8t l}=>[.row true 3 1 l.1.length (bG int 0 l.1)]) (λl=> .tp 2 λj=>match j with|0=> .ms 0 1 0 l.1.length|_=> .d (int 0)):=by
 have hr0:=h.r0
 have hr1:=h.r1
 have hc1:=h.c1
 have hf:=a2e R C Z h hs
 have hrow:=λ(i:Int) (h0:0<=i) (h1:i<R.length)=>a6e i h0 (by omega)
 have hsp:=λ(g:Int->Int->Int) (hg:kV (tE R.length C.length) (tB R C Z) g) (i:Int) (i0:0<=i) (i1:i<R.length)=>b4z (Z:=Z) h.r1 h.c1 (sK h) g hg 0 (2+i) (by unfold tE;omega)
 generalize tE R.length C.length=E at*
 generalize tB R C Z=B at*
 refine e8a (cuts:=[]) tys hM Tryz.func6 rfl Tryz.call6 rfl rfl (λ_=>rfl) rfl (λ_=>rfl) ?_
 show exC Tryz.prog T [] _ false none 0 (lA 52 0 [.d (jA R C Z),.d (int many)] []) (b7o T 0 [ResultVar.tmp 4,ResultVar.tmp 5] _ _)
 conv=>whnf
 repeat' first|(refine go ?_;conv=>whnf)|(refine go2 ?_ ?_<;>(try intro hc)<;>conv=>whnf)|fail
 refine e8d (hf) ?_
 (conv=>whnf)
 refine Ob.lsX (hf) ?_ ?_
 focus (exact Lf)
 rintro⟨z,hz⟩
 (conv=>whnf)
 repeat' first|(refine go ?_;conv=>whnf)|(refine go2 ?_ ?_<;>(try intro hc)<;>conv=>whnf)|fail
 refine e2x [0,1,4,5,6,21,51] 40 ?_
 (conv=>whnf)
 refine e3v 52 ({p:Int×(Int->Int->Int)×List Int//(0<=p.1/\p.1<=R.length)/\kV E B p.2.1/\p.2.2.length=p.1.toNat/\b8t p.2.2}) 0 (λ⟨(i,g,o),_⟩ nx=>([(22,.d (int i)),(8,.ms 13 1 0 o.length)],[(13,.row true 3 1 o.length (bG int 0 o)),(4,.mp true ⟨true,2,false⟩ (fM E g))])) (λp=>(R.length-p.1.1).toNat) (⟨(0,z,[]),⟨by simp,by simp⟩,hz,rfl,by simp[b8t]⟩) ?_ ?_
 ·clear hf
  rintro⟨⟨i,g,o⟩,⟨i0,i1⟩,hg,hol,ho⟩
  simp only at i0 i1 hg hol ho
  by_cases hi:i<R.length
  ·have hri:=hrow i i0 hi
   have hspi:=hsp g hg i i0 hi
   have hon:=λ(x:Int) (h0:0<=x) (h2:x<=2)=>(show b8t (o++[x])fromλy hy=>by
    rcases e0x.1 hy with hy|hy
    ·exact ho y hy
    ·rw[e1k.1 hy];exact⟨h0,h2⟩)
   have hln:=λ(x:Int)=>(show(o++[x]).length=(i+1).toNat by rw[e1f,hol];simp;omega)
   clear hrow hsp
   conv=>whnf
   repeat' first|((first|refine go ?_|refine gc (hri) ?_);conv=>whnf)|(refine go2 ?_ ?_<;>(try intro hc)<;>conv=>whnf)|fail
   refine e8d (hspi) ?_
   (conv=>whnf)
   refine Ob.lsX (hspi) ?_ ?_
   focus (exact Lf)
   rintro⟨⟨z2,a,b⟩,hz2⟩
   (conv=>whnf)
   repeat' first|(refine go ?_;conv=>whnf)|(refine go2 ?_ ?_<;>(try intro hc)<;>conv=>whnf)|fail
   ·have e1:o.length+1=(o++[2]).length:=by simp
    exact⟨rfl,⟨(i+1,z2,o++[2]),⟨by simp only;omega,by simp only;omega⟩,hz2,hln 2,hon 2 (by decide) (by decide)⟩,Lf,by simp only;omega⟩
   ·have e1:o.length+1=(o++[1]).length:=by simp
    exact⟨rfl,⟨(i+1,z2,o++[1]),⟨by simp only;omega,by simp only;omega⟩,hz2,hln 1,hon 1 (by decide) (by decide)⟩,Lf,by simp only;omega⟩
   ·have e1:o.length+1=(o++[0]).length:=by simp
    exact⟨rfl,⟨(i+1,z2,o++[0]),⟨by simp only;omega,by simp only;omega⟩,hz2,hln 0,hon 0 (by decide) (by decide)⟩,Lf,by simp only;omega⟩
  ·have e:o.length=R.length:=by omega
   conv=>whnf
   repeat' first|(refine go ?_;conv=>whnf)|(refine go2 ?_ ?_<;>(try intro hc)<;>conv=>whnf)|fail
   all_goals first|(exfalso;omega)|exact⟨⟨o,e,ho⟩,Lf⟩
 ·exact Lf
end Go.Px.Tryz
namespace Go.Px.Tryz.Po
open Go Go.Proofs Go.Px Go.Px.Tryz
theorem b1e {l l':List Int}(hl:l.length=l'.length)(h:∀j,j<l.length->l.getD j 0=l'.getD j 0):l=l':=by
 apply e3u
 intro j
 by_cases hj:j<l.length
 ·have:=h j hj
  rw[d9r,d9r,e0e hj,e0e (by omega)]at this
  rw[e0e hj,e0e (by omega)]
  simpa using this
 ·rw[e1w (by omega),e1w (by omega)]
theorem xR (a b:List Int)(ha:a.length<1000000):Fn Tryz.prog 11 [ints a,ints b] (bool (decide (a=b))):=by
 refine e8b (D:=λr:Bool=>bool r) λr hr=>?_
 have hr0:=hr.h
 have h1:¬a.length=b.length->r=false:=λh=>by rw[<-hr0];exact e1o λe=>h (by rw[e])
 have h2:∀j:Int,0<=j->j<a.length->¬a.getD j.toNat 0=b.getD j.toNat 0->r=false:=λj _ _ h=>by rw[<-hr0];exact e1o λe=>h (by rw[e])
 have h3:a.length=b.length->(∀j:Int,0<=j->j<a.length->a.getD j.toNat 0=b.getD j.toNat 0)->r=true:=λh h'=>by
  rw[<-hr0];exact e1r (b1e h λj hj=>by have:=h' j (by omega) (by omega);rwa[e1b]at this)
 refine e1t (cuts:=[]) tys hM Tryz.func11 rfl Tryz.call11 rfl ?_
 show exC Tryz.prog T [] _ false none 0 (entry 26 [ints a,ints b]) (cH T [ResultVar.tmp 4] _)
 conv=>whnf
 repeat' first|(refine go ?_;conv=>whnf)|(refine go2 ?_ ?_<;>(try intro hc)<;>conv=>whnf)|fail
 ·exact⟨trivial,(h1 (by omega)).symm⟩
 ·have hlen:=hc
  refine e2x [0,1] 40 ?_
  (conv=>whnf)
  refine e3v 26 ({i:Int//(0<=i/\i<=a.length)/\∀j:Int,0<=j->j<i->a.getD j.toNat 0=b.getD j.toNat 0}) 0 (λ⟨i,_⟩ nx=>([(5,.d (int i))],[])) (λp=>(a.length-p.1).toNat) (⟨0,⟨by omega,by omega⟩,λj _ _=>by omega⟩) ?_ ?_
  ·rintro⟨i,⟨hi0,hi⟩,hinv⟩
   conv=>whnf
   repeat' first|(refine go ?_;conv=>whnf)|(refine go2 ?_ ?_<;>(try intro hc)<;>conv=>whnf)|fail
   ·exact⟨trivial,(h2 i hi0 (by omega) hc).symm⟩
   ·exact⟨rfl,⟨i+1,⟨by omega,by omega⟩,λj a b=>if e:j=i then e▸hc else hinv j a (by omega)⟩,Lf,by simp only;omega⟩
   ·exact⟨trivial,(h3 (by omega) λj a b=>hinv j a (by omega)).symm⟩
  ·exact Lf
def lsB:Nat->List Bool->List Nat
  |_,[]=>[]
  |i,b::l=>if b then i::lsB (i+1) l else lsB (i+1) l
theorem wJ:∀(bs:List Bool) (k:Nat) (b:Bool),lsB k (bs++[b])=lsB k bs++if b then [k+bs.length]else []
 |[],k,b=>by cases b<;>rfl
 |c::bs,k,b=>by
  have h:=wJ bs (k+1) b
  rw[show k+(c::bs).length=k+1+bs.length by rw[e0r];omega]
  cases c with
  |true=>show k::lsB (k+1) (bs++[b])=k::lsB (k+1) bs++_;rw[h];rfl
  |false=>exact h
theorem sL {α:Type}(d:α):∀(l:List α) (i:Nat),i<l.length->l.take (i+1)=l.take i++[l.getD i d]
 |[],_,h=>absurd h (e3i _)
 |_::_,0,_=>rfl
 |x::l,i+1,h=>e2r (x:: ·) (sL d l i (Nat.lt_of_succ_lt_succ h))
def mkB (l:List Int):List Bool:=l.map λx=>decide (x=2)
def sB (l:List Int)(i:Nat):List Int:=(lsB 0 (mkB (l.take i))).map λ(i:Nat)=>(i:Int)
def oB (i:Nat):List Lot:=(List.range i).map λ(i:Nat)=>⟨3*(i:Int),3*(i:Int)+2⟩
theorem c9x {l:List Int}{i:Nat}(h:i<l.length)(h2:l.getD i 0=2):sB l (i+1)=sB l i++[(i:Int)]:=by
 unfold sB mkB
 rw[sL 0 l i h,e1z,e0o,e3c,wJ,h2,e0c (by decide),e1z,e0z,e4l,Nat.min_eq_left (Nat.le_of_lt h),e0f]
 rfl
theorem d4u {l:List Int}{i:Nat}(h:i<l.length)(h2:l.getD i 0≠2):sB l (i+1)=sB l i:=by
 unfold sB mkB
 rw[sL 0 l i h,e1z,e0o,e3c,wJ,d9z (by simpa using h2),e7o]
theorem c4g (i:Nat):oB (i+1)=oB i++[⟨3*(i:Int),3*(i:Int)+2⟩]:=by
 unfold oB;rw[e4d,e1z];rfl
theorem c1a (i:Nat):(oB i).length=i:=by unfold oB;rw[e0z,e2o]
theorem a2u:∀(bs:List Bool) (k:Nat),(lsB k bs).length<=bs.length
 |[],_=>e0g _
 |true::bs,k=>Nat.succ_le_succ (a2u bs (k+1))
 |false::bs,k=>Nat.le_succ_of_le (a2u bs (k+1))
theorem c1i (l:List Int)(i:Nat)(h:i<=l.length):(sB l i).length<=i:=by
 unfold sB
 rw[e0z]
 refine e2h (a2u _ _) ?_
 unfold mkB
 rw[e0z,e4l];omega
def blB (l:List Int):List Int:=l.map λx=>if x=2 then 2 else 0
theorem c2f (l:List Int)(i:Nat)(h:i<l.length):(blB l).getD i 0=if l.getD i 0=2 then 2 else 0:=by
 unfold blB
 rw[d9r,d9r,e0j,e0e h];rfl
end Go.Px.Tryz.Po
end
