/- Texts of this proof, joined. No statement of the seat is proved here. -/
import GoSem.Dispatch
import Derived.Test.YtcpijpmabkbdkaaGreatJ3
import Derived.Laws.CopyRow
import Derived.Laws.Cells
import Derived.Laws.Rows
import Derived.MapKept
set_option linter.unusedVariables false
set_option linter.unusedSimpArgs false
set_option maxRecDepth 100000
set_option maxHeartbeats 64000000
noncomputable section
namespace Go.Kx
open Go
structure N8 (α:Type) where
  a:α
  b:α
  c:α
  d:α
  e:α
  f:α
  g:α
  h:α
inductive D8
  |o0|o1|o2|o3|o4|o5|o6|o7
def N8.all {α:Type}(x:α):N8 α:=⟨x,x,x,x,x,x,x,x⟩
section
variable {α β:Type}
def d6r (x:N8 α)(go:α->(α->β)->β)(K:N8 α->β):β:=N8.rec (motive:=λ_=>β) (λa b c d e f g h=>go a λy=>K ⟨y,b,c,d,e,f,g,h⟩) x
def d6s (x:N8 α)(go:α->(α->β)->β)(K:N8 α->β):β:=N8.rec (motive:=λ_=>β) (λa b c d e f g h=>go b λy=>K ⟨a,y,c,d,e,f,g,h⟩) x
def d6t (x:N8 α)(go:α->(α->β)->β)(K:N8 α->β):β:=N8.rec (motive:=λ_=>β) (λa b c d e f g h=>go c λy=>K ⟨a,b,y,d,e,f,g,h⟩) x
def d6u (x:N8 α)(go:α->(α->β)->β)(K:N8 α->β):β:=N8.rec (motive:=λ_=>β) (λa b c d e f g h=>go d λy=>K ⟨a,b,c,y,e,f,g,h⟩) x
def d6v (x:N8 α)(go:α->(α->β)->β)(K:N8 α->β):β:=N8.rec (motive:=λ_=>β) (λa b c d e f g h=>go e λy=>K ⟨a,b,c,d,y,f,g,h⟩) x
def d6w (x:N8 α)(go:α->(α->β)->β)(K:N8 α->β):β:=N8.rec (motive:=λ_=>β) (λa b c d e f g h=>go f λy=>K ⟨a,b,c,d,e,y,g,h⟩) x
def d6x (x:N8 α)(go:α->(α->β)->β)(K:N8 α->β):β:=N8.rec (motive:=λ_=>β) (λa b c d e f g h=>go g λy=>K ⟨a,b,c,d,e,f,y,h⟩) x
def d6y (x:N8 α)(go:α->(α->β)->β)(K:N8 α->β):β:=N8.rec (motive:=λ_=>β) (λa b c d e f g h=>go h λy=>K ⟨a,b,c,d,e,f,g,y⟩) x
def foD (d:D8)(x:N8 α)(go:α->(α->β)->β)(K:N8 α->β):β:=D8.rec (motive:=λ_=>N8 α->(α->(α->β)->β)->(N8 α->β)->β) d6r d6s d6t d6u d6v d6w d6x d6y d x go K
def geD (d:D8)(x:N8 α):α:=D8.rec (motive:=λ_=>α) (N8.a x) (N8.b x) (N8.c x) (N8.d x) (N8.e x) (N8.f x) (N8.g x) (N8.h x) d
def dig (n:Nat):D8:=match n with
  |0=> .o0
  |1=> .o1
  |2=> .o2
  |3=> .o3
  |4=> .o4
  |5=> .o5
  |6=> .o6
  |_=> .o7
def nxD (d:D8)(K:D8->β)(carry:β):β:=D8.rec (motive:=λ_=>β) (K .o1) (K .o2) (K .o3) (K .o4) (K .o5) (K .o6) (K .o7) carry d
structure Sel (α:Type) where
  f:N8 α->α
def d1w (d:D8):Sel α:=D8.rec (motive:=λ_=>Sel α) ⟨N8.a⟩ ⟨N8.b⟩ ⟨N8.c⟩ ⟨N8.d⟩ ⟨N8.e⟩ ⟨N8.f⟩ ⟨N8.g⟩ ⟨N8.h⟩ d
structure Foc (α β:Type) where
  f:N8 α->(α->(α->β)->β)->(N8 α->β)->β
def d1q (d:D8):Foc α β:=D8.rec (motive:=λ_=>Foc α β) ⟨d6r⟩ ⟨d6s⟩ ⟨d6t⟩ ⟨d6u⟩ ⟨d6v⟩ ⟨d6w⟩ ⟨d6x⟩ ⟨d6y⟩ d
end
structure Id where
  a:D8
  b:D8
  c:D8
  d:D8
  e:D8
def D8.num (d:D8):Nat:=D8.rec (motive:=λ_=>Nat) 0 1 2 3 4 5 6 7 d
def Id.num (i:Id):Nat:=Id.rec (motive:=λ_=>Nat) (λa b c d e=>Nat.add (D8.num e) (Nat.mul 8 (Nat.add (D8.num d) (Nat.mul 8 (Nat.add (D8.num c) (Nat.mul 8 (Nat.add (D8.num b) (Nat.mul 8 (D8.num a))))))))) i
def Id.z:Id:=⟨.o0,.o0,.o0,.o0,.o0⟩
def gH (i j:Id):Bool:=Nat.beq i.num j.num
def nxI {β:Type}(i:Id)(bad:β)(K:Id->β):β:=Id.rec (motive:=λ_=>β) (λa b c d e=>nxD e (λe=>K ⟨a,b,c,d,e⟩) (nxD d (λd=>K ⟨a,b,c,d,.o0⟩) (nxD c (λc=>K ⟨a,b,c,.o0,.o0⟩) (nxD b (λb=>K ⟨a,b,.o0,.o0,.o0⟩) (nxD a (λa=>K ⟨a,.o0,.o0,.o0,.o0⟩) bad))))) i
inductive V
  |i (k:IntKind) (n:Int)
  |b (x:Bool)
  |z (v:Value)
  |p (id:Id) (off:Nat)
  |s (id:Id) (off len cap ex:Nat)
  |m (id:Id)
  |f (g:Nat) (fs cs:List V)
  |y (id:Id)
  |a (cs:List V)
  |t (cs:List V)
  |q (id:Id)
  |w (s:Nat) (c:Int)
  |e (t:Nat) (id:Id)
  |un
instance:Inhabited V:=⟨.un⟩
abbrev Tm:=N8 (N8 (N8 V))
structure Rd where
  f:Tm->V
structure Wt (β:Type) where
  f:Tm->V->(Tm->β)->β
def rdW (n:Nat):Rd:=bif Nat.blt 511 n then⟨λ_=> .un⟩else Sel.rec (motive:=λ_=>Rd) (λf=>Sel.rec (motive:=λ_=>Rd) (λg=>Sel.rec (motive:=λ_=>Rd) (λk=>⟨λtm=>k (g (f tm))⟩) (d1w (dig (Nat.mod n 8)))) (d1w (dig (Nat.mod (Nat.div n 8) 8)))) (d1w (dig (Nat.div n 64)))
def wtW {β:Type}(n:Nat):Wt β:=Foc.rec (motive:=λ_=>Wt β) (λf=>Foc.rec (motive:=λ_=>Wt β) (λg=>Foc.rec (motive:=λ_=>Wt β) (λk=>⟨λtm v K=>f tm (λy=>g y λz=>k z λ_ K=>K v) K⟩) (d1q (dig (Nat.mod n 8)))) (d1q (dig (Nat.mod (Nat.div n 8) 8)))) (d1q (dig (Nat.div n 64)))
def rdT (n:Nat)(tm:Tm):V:=Rd.rec (motive:=λ_=>V) (λf=>f tm) (rdW n)
def wtT {β:Type}(n:Nat)(v:V)(tm:Tm)(K:Tm->β):β:=Wt.rec (motive:=λ_=>β) (λf=>f tm v K) (wtW n)
def tm0:Tm:=N8.all (N8.all (N8.all (.t [])))
section
variable {β:Type}
def fN (m:Nat)(K:Nat->β):β:=Nat.rec (motive:=λ_=>β) (K 0) (λp _=>K (Nat.succ p)) m
def fI (n:Int)(K:Int->β):β:=Int.rec (motive:=λ_=>β) (λm=>fN m λm=>K (.ofNat m)) (λm=>fN m λm=>K (.negSucc m)) n
end
inductive Ex
  |normal|ret|exit (id:Nat)
abbrev Es:=List (List Int×V)
inductive O
  |c (cs:List V)
  |m (ag:Nat) (es:Es) (op:Option (Id×Option (List Int)))
  |it (m:Id) (g:Id)
  |lp (tm:Tm) (ps:List Nat) (assign body:Code) (st:Nat) (pend:Option Ex) (gn:Nat×Nat)
  |lg (ag:Nat) (l:List (List Int×Option V))
  |lc (n:Nat) (l:List (Nat×V))
  |dl (ag:Nat) (k:List Int) (v:V) (there:Bool) (g:Id)
abbrev Hp:=N8 (N8 (N8 (N8 (N8 (Option O)))))
def hp0:Hp:=N8.all (N8.all (N8.all (N8.all (N8.all none))))
def geH (h:Hp)(i:Id):Option O:=Id.rec (motive:=λ_=>Option O) (λa b c d e=>geD e (geD d (geD c (geD b (geD a h))))) i
def stH {β:Type}(h:Hp)(i:Id)(o:Option O)(K:Hp->β):β:=Id.rec (motive:=λ_=>β) (λa b c d e=>foD a h (λx=>foD b x λx=>foD c x λx=>foD d x λx=>foD e x λ_ K=>K o) K) i
inductive Rq
  |ret (v:V)
  |set (v:V) (id:Id) (o:O)
  |new (v:V) (o:O)
  |mov (v:V) (id:Id) (o:O)
  |gst (v:V) (id:Id) (o:O)
  |rng (v:V) (o:O) (id:Id) (o':O)
  |ask (id:Id) (k:O->Rq)
  |no
def ifS {α β:Type}(x:Option α)(n:β)(s:α->β):β:=Option.rec (motive:=λ_=>β) n s x
def a9i (x y:Int):Bool:=Int.rec (motive:=λ_=>Bool) (λa=>Int.rec (motive:=λ_=>Bool) (λb=>Nat.beq a b) (λ_=>false) y) (λa=>Int.rec (motive:=λ_=>Bool) (λ_=>false) (λb=>Nat.beq a b) y) x
def ile (x y:Int):Bool:=Int.rec (motive:=λ_=>Bool) (λa=>Int.rec (motive:=λ_=>Bool) (λb=>Nat.ble a b) (λ_=>false) y) (λa=>Int.rec (motive:=λ_=>Bool) (λ_=>true) (λb=>Nat.ble b a) y) x
def ilt (x y:Int):Bool:=not (ile y x)
def hi (k:IntKind):Nat:=IntKind.rec (motive:=λ_=>Nat) 127 32767 2147483647 9223372036854775807 255 65535 4294967295 18446744073709551615 k
def sgn (k:IntKind):Bool:=IntKind.rec (motive:=λ_=>Bool) true true true true false false false false k
def inR (k:IntKind)(x:Int):Bool:=Int.rec (motive:=λ_=>Bool) (λa=>Nat.ble a (hi k)) (λa=>sgn k&&Nat.ble a (hi k)) x
def keq (j k:IntKind):Bool:=Nat.beq (hi j) (hi k)
def c6k (a b:Bool):Bool:=Bool.rec (motive:=λ_=>Bool) (not b) b a
def rv (v:V):Rq:= .ret v
def rb (b:Bool):Rq:= .ret (Bool.rec (motive:=λ_=>V) (.b false) (.b true) b)
def rn (n:Nat):Rq:=fN n λn=>rv (.i .i64 (.ofNat n))
def okI (k:IntKind)(x:Int):Rq:=fI x λx=>bif inR k x then rv (.i k x)else .no
def d2w (k:IntKind)(x y:Int):Rq:=okI k (Int.add x y)
def d3j (k:IntKind)(x y:Int):Rq:=okI k (Int.sub x y)
def d3d (k:IntKind)(x y:Int):Rq:=okI k (Int.mul x y)
def d3f (k:IntKind)(x y:Int):Rq:=bif a9i y 0 then .no else okI k (Int.tdiv x y)
def d3g (k:IntKind)(x y:Int):Rq:=bif a9i y 0 then .no else okI k (Int.tmod x y)
def d2x (k:IntKind)(x y:Int):Rq:=fI (k.wrap ((BitVec.ofInt k.bits x &&& BitVec.ofInt k.bits y).toNat:Int)) λz=>rv (.i k z)
def d8n (k:IntKind)(x y:Int):Rq:=fI (k.wrap ((BitVec.ofInt k.bits x ||| BitVec.ofInt k.bits y).toNat:Int)) λz=>rv (.i k z)
def c7y (k:IntKind)(x y:Int):Rq:=fI (k.wrap ((BitVec.ofInt k.bits x &&& ~~~ BitVec.ofInt k.bits y).toNat:Int)) λz=>rv (.i k z)
def d8m (_:IntKind)(_ _:Int):Rq:= .no
def d3h (k:IntKind)(x y:Int):Rq:=Int.rec (motive:=λ_=>Rq) (λs=>bif Nat.blt s k.bits then okI k (Int.mul x (.ofNat (Nat.pow 2 s)))else .no) (λ_=> .no) y
def d3i (k:IntKind)(x y:Int):Rq:=Int.rec (motive:=λ_=>Rq) (λs=>bif Nat.blt s k.bits then okI k (Int.fdiv x (.ofNat (Nat.pow 2 s)))else .no) (λ_=> .no) y
def d2y (_:IntKind)(x y:Int):Rq:=rb (a9i x y)
def d3e (_:IntKind)(x y:Int):Rq:=rb (not (a9i x y))
def d3c (_:IntKind)(x y:Int):Rq:=rb (ilt x y)
def d3b (_:IntKind)(x y:Int):Rq:=rb (ile x y)
def d3a (_:IntKind)(x y:Int):Rq:=rb (ilt y x)
def d2z (_:IntKind)(x y:Int):Rq:=rb (ile y x)
def d1l (op:BinOp):IntKind->Int->Int->Rq:=BinOp.rec (motive:=λ_=>IntKind->Int->Int->Rq) d2w d3j d3d d3f d3g d2x d8n d8m d3h d3i c7y d2y d3e d3c d3b d3a d2z op
def shB (op:BinOp):Bool:=BinOp.rec (motive:=λ_=>Bool) false false false false false false false false true true false false false false false false false op
def kL (l:List V):Option (List Int):=List.rec (motive:=λ_=>Option (List Int)) (some []) (λv _ ih=>V.rec (motive_1:=λ_=>Option (List Int)) (motive_2:=λ_=>PUnit) (λk n=>bif keq k .i64 then ifS ih none λl=>some (n::l)else none) (λ_=>none) (λ_=>none) (λ_ _=>none) (λ_ _ _ _ _=>none) (λ_=>none) (λ_ _ _ _ _=>none) (λ_=>none) (λ_ _=>none) (λ_ _=>none) (λ_=>none) (λ_ _=>none) (λ_ _=>none) (none) ⟨⟩ (λ_ _ _ _=>⟨⟩) v) l
def kq (k:List Int)(j:List Int):Bool:=List.rec (motive:=λ_=>List Int->Bool) (λj=>List.rec (motive:=λ_=>Bool) true (λ_ _ _=>false) j) (λx _ ih j=>List.rec (motive:=λ_=>Bool) false (λy j _=>bif a9i x y then ih j else false) j) k j
def a9j (op:BinOp)(b:Bool):Rq:=match op with
  | .eql=>rb b
  | .neq=>rb (not b)
  |_=> .no
def d2a (op:BinOp)(s:Nat)(c y:Int):Rq:=match op with
  | .add=>fI (Int.add c y) λc=>rv (.w s c)
  | .sub=>fI (Int.sub c y) λc=>rv (.w s c)
  |_=> .no
def b_i (j:IntKind)(x:Int)(_:Nat)(op:BinOp)(y:V):Rq:=V.rec (motive_1:=λ_=>Rq) (motive_2:=λ_=>PUnit) (λk y=>bif (shB op||keq j k)then d1l op j x y else .no) (λ_=>Rq.no) (λ_=>Rq.no) (λ_ _=>Rq.no) (λ_ _ _ _ _=>Rq.no) (λ_=>Rq.no) (λ_ _ _ _ _=>Rq.no) (λ_=>Rq.no) (λ_ _=>Rq.no) (λ_ _=>Rq.no) (λ_=>Rq.no) (λ_ _=>Rq.no) (λ_ _=>Rq.no) (Rq.no) ⟨⟩ (λ_ _ _ _=>⟨⟩) y
def b_b (x:Bool)(q:Nat)(op:BinOp)(y:V):Rq:=V.rec (motive_1:=λ_=>Rq) (motive_2:=λ_=>PUnit) (λ_ _=>Rq.no) (λy=>bif Nat.beq q 1 then a9j op (c6k x y)else .no) (λ_=>Rq.no) (λ_ _=>Rq.no) (λ_ _ _ _ _=>Rq.no) (λ_=>Rq.no) (λ_ _ _ _ _=>Rq.no) (λ_=>Rq.no) (λ_ _=>Rq.no) (λ_ _=>Rq.no) (λ_=>Rq.no) (λ_ _=>Rq.no) (λ_ _=>Rq.no) (Rq.no) ⟨⟩ (λ_ _ _ _=>⟨⟩) y
def b_a (l:List V)(q:Nat)(op:BinOp)(y:V):Rq:=V.rec (motive_1:=λ_=>Rq) (motive_2:=λ_=>PUnit) (λ_ _=>Rq.no) (λ_=>Rq.no) (λ_=>Rq.no) (λ_ _=>Rq.no) (λ_ _ _ _ _=>Rq.no) (λ_=>Rq.no) (λ_ _ _ _ _=>Rq.no) (λ_=>Rq.no) (λx _=>(λm=>ifS (kL l) .no λl=>ifS (kL m) .no λm=>bif Nat.beq (Nat.add l.length 4) q&&Nat.beq (Nat.add m.length 4) q then a9j op (kq l m)else .no) x) (λ_ _=>Rq.no) (λ_=>Rq.no) (λ_ _=>Rq.no) (λ_ _=>Rq.no) (Rq.no) ⟨⟩ (λ_ _ _ _=>⟨⟩) y
def a5c:Value->Bool
  | .map none=>true
  |_=>false
def oO:Value->Bool
  | .slice none _ _=>true
  |_=>false
def b_m (q:Nat)(op:BinOp)(y:V):Rq:=V.rec (motive_1:=λ_=>Rq) (motive_2:=λ_=>PUnit) (λ_ _=>Rq.no) (λ_=>Rq.no) (λv=>bif Nat.beq q 3&&a5c v then a9j op false else .no) (λ_ _=>Rq.no) (λ_ _ _ _ _=>Rq.no) (λ_=>Rq.no) (λ_ _ _ _ _=>Rq.no) (λ_=>Rq.no) (λ_ _=>Rq.no) (λ_ _=>Rq.no) (λ_=>Rq.no) (λ_ _=>Rq.no) (λ_ _=>Rq.no) (Rq.no) ⟨⟩ (λ_ _ _ _=>⟨⟩) y
def b_s (q:Nat)(op:BinOp)(y:V):Rq:=V.rec (motive_1:=λ_=>Rq) (motive_2:=λ_=>PUnit) (λ_ _=>Rq.no) (λ_=>Rq.no) (λv=>bif Nat.beq q 2&&oO v then a9j op false else .no) (λ_ _=>Rq.no) (λ_ _ _ _ _=>Rq.no) (λ_=>Rq.no) (λ_ _ _ _ _=>Rq.no) (λ_=>Rq.no) (λ_ _=>Rq.no) (λ_ _=>Rq.no) (λ_=>Rq.no) (λ_ _=>Rq.no) (λ_ _=>Rq.no) (Rq.no) ⟨⟩ (λ_ _ _ _=>⟨⟩) y
def b_z (x:Value)(q:Nat)(op:BinOp)(y:V):Rq:=V.rec (motive_1:=λ_=>Rq) (motive_2:=λ_=>PUnit) (λ_ _=>Rq.no) (λ_=>Rq.no) (λv=>bif Nat.beq q 2&&(oO x&&oO v)then a9j op true else .no) (λ_ _=>Rq.no) (λ_ _ _ _ _=>Rq.no) (λ_=>Rq.no) (λ_ _ _ _ _=>Rq.no) (λ_=>Rq.no) (λ_ _=>Rq.no) (λ_ _=>Rq.no) (λ_=>Rq.no) (λ_ _=>Rq.no) (λ_ _=>Rq.no) (Rq.no) ⟨⟩ (λ_ _ _ _=>⟨⟩) y
def b_w (s:Nat)(c:Int)(_:Nat)(op:BinOp)(y:V):Rq:=V.rec (motive_1:=λ_=>Rq) (motive_2:=λ_=>PUnit) (λk y=>bif keq k .i64 then d2a op s c y else .no) (λ_=>Rq.no) (λ_=>Rq.no) (λ_ _=>Rq.no) (λ_ _ _ _ _=>Rq.no) (λ_=>Rq.no) (λ_ _ _ _ _=>Rq.no) (λ_=>Rq.no) (λ_ _=>Rq.no) (λ_ _=>Rq.no) (λ_=>Rq.no) (λ_ _=>Rq.no) (λ_ _=>Rq.no) (Rq.no) ⟨⟩ (λ_ _ _ _=>⟨⟩) y
def c2b (_:Nat)(_:BinOp)(_:V):Rq:= .no
def c6l (q:Nat)(op:BinOp)(x y:V):Rq:=V.rec (motive_1:=λ_=>Nat->BinOp->V->Rq) (motive_2:=λ_=>PUnit) (b_i) (b_b) (b_z) (λ_ _=>c2b) (λ_ _ _ _ _=>b_s) (λ_=>b_m) (λ_ _ _ _ _=>c2b) (λ_=>c2b) (λx _=>(b_a) x) (λ_ _=>c2b) (λ_=>c2b) (b_w) (λ_ _=>c2b) (c2b) ⟨⟩ (λ_ _ _ _=>⟨⟩) x q op y
def nth {α:Type}(l:List α)(n:Nat):Option α:=List.rec (motive:=λ_=>Nat->Option α) (λ_=>none) (λx _ ih n=>Nat.rec (motive:=λ_=>Option α) (some x) (λp _=>ih p) n) l n
def b7f {α:Type}(n:Nat)(l:List α):List α:=Nat.rec (motive:=λ_=>List α->List α) (λl=>l) (λ_ ih l=>List.rec (motive:=λ_=>List α) [] (λ_ l _=>ih l) l) n l
def eH {α:Type}(l m:List α):List α:=List.rec (motive:=λ_=>List α) m (λx _ ih=>x::ih) l
def nQ {α:Type}(l:List α):Nat:=List.rec (motive:=λ_=>Nat) 0 (λ_ _ n=>Nat.succ n) l
def a9k {α:Type}(l:List α)(n:Nat):List α:=Nat.rec (motive:=λ_=>List α) [] (λ_ ih=>eH l ih) n
def d7i (m l:List V)(K:List V->Rq):Rq:=List.rec (motive:=λ_=>List V->(List V->Rq)->Rq) (λl K=>K l) (λx _ ih l K=>List.rec (motive:=λ_=>Rq) .no (λ_ l _=>ih l λl=>K (x::l)) l) m l K
def a3d (l:List V)(off:Nat)(m:List V)(K:List V->Rq):Rq:=Nat.rec (motive:=λ_=>List V->(List V->Rq)->Rq) (d7i m) (λ_ ih l K=>List.rec (motive:=λ_=>Rq) .no (λx l _=>ih l λl=>K (x::l)) l) off l K
def tk0 (n:Nat)(l:List V)(K:List V->Rq):Rq:=Nat.rec (motive:=λ_=>List V->(List V->Rq)->Rq) (λ_ K=>K []) (λ_ ih l K=>List.rec (motive:=λ_=>Rq) .no (λx l _=>ih l λl=>K (x::l)) l) n l K
def tk (off n:Nat)(l:List V)(K:List V->Rq):Rq:=tk0 n (b7f off l) K
def a3u:Value->Bool
  | .agg _| .tuple _=>false
  |_=>true
def b8s:Value->V
  | .int k n=> .i k n
  | .bool b=> .b b
  |v=> .z v
def ofV:Value->V
  | .agg cs=>bif cs.toList.all a3u then .a (cs.toList.map b8s)else .un
  | .tuple cs=>bif cs.toList.all a3u then .t (cs.toList.map b8s)else .un
  |v=>b8s v
def oH (v:V)(K:List V->Rq):Rq:=V.rec (motive_1:=λ_=>(List V->Rq)->Rq) (motive_2:=λ_=>PUnit) (λk n K=>K [.i k n]) (λx K=>K [.b x]) (λx K=>K [.z x]) (λx y K=>K [.p x y]) (λx y z w u K=>K [.s x y z w u]) (λx K=>K [.m x]) (λx y w _ _=>(λx y z K=>K [.f x y z]) x y w) (λx K=>K [.y x]) (λx _=>(λcs K=>K cs) x) (λ_ _=>λ_=>Rq.no) (λx K=>K [.q x]) (λx y K=>K [.w x y]) (λx y K=>K [.e x y]) (λ_=>Rq.no) ⟨⟩ (λ_ _ _ _=>⟨⟩) v K
abbrev Ev:=Operand->V
structure Kf where
  f:Ev->Id->Rq
def asC (o:O)(K:List V->Rq):Rq:=O.rec (motive:=λ_=>Rq) (K) (λ_ _ _=> .no) (λ_ _=> .no) (λ_ _ _ _ _ _ _=> .no) (λ_ _=> .no) (λ_ _=> .no) (λ_ _ _ _ _=> .no) o
def asM (o:O)(K:Nat->Es->Option (Id×Option (List Int))->Rq):Rq:=O.rec (motive:=λ_=>Rq) (λ_=> .no) (K) (λ_ _=> .no) (λ_ _ _ _ _ _ _=> .no) (λ_ _=> .no) (λ_ _=> .no) (λ_ _ _ _ _=> .no) o
def asP (v:V)(K:Id->Nat->Rq):Rq:=V.rec (motive_1:=λ_=>Rq) (motive_2:=λ_=>PUnit) (λ_ _=>Rq.no) (λ_=>Rq.no) (λ_=>Rq.no) (K) (λ_ _ _ _ _=>Rq.no) (λ_=>Rq.no) (λ_ _ _ _ _=>Rq.no) (λ_=>Rq.no) (λ_ _=>Rq.no) (λ_ _=>Rq.no) (λ_=>Rq.no) (λ_ _=>Rq.no) (λ_ _=>Rq.no) (Rq.no) ⟨⟩ (λ_ _ _ _=>⟨⟩) v
def zS (nil:Rq)(v:Value):Rq:=match v with
  | .slice none 0 0=>nil
  |_=> .no
def asS (v:V)(K:Id->Nat->Nat->Nat->Nat->Rq)(nil:Rq):Rq:=V.rec (motive_1:=λ_=>Rq) (motive_2:=λ_=>PUnit) (λ_ _=>Rq.no) (λ_=>Rq.no) (zS nil) (λ_ _=>Rq.no) (K) (λ_=>Rq.no) (λ_ _ _ _ _=>Rq.no) (λ_=>Rq.no) (λ_ _=>Rq.no) (λ_ _=>Rq.no) (λ_=>Rq.no) (λ_ _=>Rq.no) (λ_ _=>Rq.no) (Rq.no) ⟨⟩ (λ_ _ _ _=>⟨⟩) v
def iN (K:Nat->Rq)(n:Int):Rq:=Int.rec (motive:=λ_=>Rq) K (λ_=> .no) n
def asN (v:V)(K:Nat->Rq):Rq:=V.rec (motive_1:=λ_=>Rq) (motive_2:=λ_=>PUnit) (λ_=>iN K) (λ_=>Rq.no) (λ_=>Rq.no) (λ_ _=>Rq.no) (λ_ _ _ _ _=>Rq.no) (λ_=>Rq.no) (λ_ _ _ _ _=>Rq.no) (λ_=>Rq.no) (λ_ _=>Rq.no) (λ_ _=>Rq.no) (λ_=>Rq.no) (λ_ _=>Rq.no) (λ_ _=>Rq.no) (Rq.no) ⟨⟩ (λ_ _ _ _=>⟨⟩) v
def asA (v:V)(K:List V->Rq):Rq:=V.rec (motive_1:=λ_=>Rq) (motive_2:=λ_=>PUnit) (λ_ _=>Rq.no) (λ_=>Rq.no) (λ_=>Rq.no) (λ_ _=>Rq.no) (λ_ _ _ _ _=>Rq.no) (λ_=>Rq.no) (λ_ _ _ _ _=>Rq.no) (λ_=>Rq.no) (λx _=>(K) x) (λ_ _=>Rq.no) (λ_=>Rq.no) (λ_ _=>Rq.no) (λ_ _=>Rq.no) (Rq.no) ⟨⟩ (λ_ _ _ _=>⟨⟩) v
def b5v (v:V)(K:Id->Rq):Rq:=V.rec (motive_1:=λ_=>Rq) (motive_2:=λ_=>PUnit) (λ_ _=>Rq.no) (λ_=>Rq.no) (λ_=>Rq.no) (λ_ _=>Rq.no) (λ_ _ _ _ _=>Rq.no) (K) (λ_ _ _ _ _=>Rq.no) (λ_=>Rq.no) (λ_ _=>Rq.no) (λ_ _=>Rq.no) (λ_=>Rq.no) (λ_ _=>Rq.no) (λ_ _=>Rq.no) (Rq.no) ⟨⟩ (λ_ _ _ _=>⟨⟩) v
def asB (v:V)(K:Bool->Rq):Rq:=V.rec (motive_1:=λ_=>Rq) (motive_2:=λ_=>PUnit) (λ_ _=>Rq.no) (K) (λ_=>Rq.no) (λ_ _=>Rq.no) (λ_ _ _ _ _=>Rq.no) (λ_=>Rq.no) (λ_ _ _ _ _=>Rq.no) (λ_=>Rq.no) (λ_ _=>Rq.no) (λ_ _=>Rq.no) (λ_=>Rq.no) (λ_ _=>Rq.no) (λ_ _=>Rq.no) (Rq.no) ⟨⟩ (λ_ _ _ _=>⟨⟩) v
def asI (v:V)(K:IntKind->Int->Rq):Rq:=V.rec (motive_1:=λ_=>Rq) (motive_2:=λ_=>PUnit) (K) (λ_=>Rq.no) (λ_=>Rq.no) (λ_ _=>Rq.no) (λ_ _ _ _ _=>Rq.no) (λ_=>Rq.no) (λ_ _ _ _ _=>Rq.no) (λ_=>Rq.no) (λ_ _=>Rq.no) (λ_ _=>Rq.no) (λ_=>Rq.no) (λ_ _=>Rq.no) (λ_ _=>Rq.no) (Rq.no) ⟨⟩ (λ_ _ _ _=>⟨⟩) v
def asK (ag:Nat)(v:V)(K:List Int->Rq):Rq:=bif Nat.beq ag 0 then asI v λk n=>bif keq k .i64 then K [n]else .no else asA v λcs=>ifS (kL cs) .no λl=>bif Nat.beq (Nat.succ (nQ l)) ag then K l else .no
def eN (ag:Nat)(k:List Int):V:=bif Nat.beq ag 0 then .i .i64 (k.headD 0)else .a (k.map (V.i .i64))
def yU (n:Option Nat)(cs:List V)(off:Nat):Rq:=ifS n (ifS (nth cs off) .no rv) λn=>tk off n cs λl=>rv (.a l)
def d0y (x:Operand)(ev:Ev)(_:Id):Rq:=rv (ev x)
def b5r (c a b:Operand)(ev:Ev)(_:Id):Rq:=asB (ev c) λc=>Bool.rec (motive:=λ_=>Rq) (rv (ev b)) (rv (ev a)) c
def d1a (cs:List V)(_:Ev)(nx:Id):Rq:= .new (.p nx 0) (.c cs)
def c5w (x:Operand)(ev:Ev)(nx:Id):Rq:=oH (ev x) λcs=> .new (.p nx 0) (.c cs)
def tC (ev:Ev)(ps:List (Nat×Nat×Operand))(z:List V)(K:List V->Rq):Rq:=List.rec (motive:=λ_=>List V->Rq) K (λp _ ih z=>oH (ev p.2.2) λl=>bif Nat.beq (nQ l) p.2.1 then a3d z p.1 l ih else .no) ps z
def a3z (z:List V)(ps:List (Nat×Nat×Operand))(ev:Ev)(_:Id):Rq:=tC ev ps z λz=>rv (.a z)
def d0x (len:Nat)(z:List V)(ps:List (Nat×Nat×Operand))(ev:Ev)(nx:Id):Rq:=tC ev ps z λz=> .new (.s nx 0 len len 0) (.c z)
def d6i (n:Option Nat)(a:Operand)(ev:Ev)(_:Id):Rq:=asP (ev a) λid off=> .ask id λo=>asC o λcs=>yU n cs off
def stO (o:O)(id:Id)(off:Nat)(l:List V):Rq:=O.rec (motive:=λ_=>Rq) (λcs=>a3d cs off l λcs=> .set (.t []) id (.c cs)) (λ_ _ _=> .no) (λ_ _=> .no) (λ_ _ _ _ _ _ _=> .no) (λ_ _=> .no) (λn w=>bif Nat.beq (nQ l) 1&&Nat.blt off n then ifS (nth l 0) .no λx=> .set (.t []) id (.lc n ((off,x)::w))else .no) (λ_ _ _ _ _=> .no) o
def d6m (n:Nat)(a x:Operand)(ev:Ev)(_:Id):Rq:=asP (ev a) λid off=>oH (ev x) λl=>bif Nat.beq (nQ l) n then .ask id λo=>stO o id off l else .no
def d1x (x:Operand)(ev:Ev)(_:Id):Rq:=V.rec (motive_1:=λ_=>Rq) (motive_2:=λ_=>PUnit) (λ_ _=>Rq.no) (λ_=>Rq.no) (λ_=>Rq.no) (λa b=>rv (.p a b)) (λ_ _ _ _ _=>Rq.no) (λ_=>Rq.no) (λx y w _ _=>(λa b c=>rv (.f a b c)) x y w) (λa=>rv (.y a)) (λ_ _=>Rq.no) (λ_ _=>Rq.no) (λ_=>Rq.no) (λ_ _=>Rq.no) (λ_ _=>Rq.no) (Rq.no) ⟨⟩ (λ_ _ _ _=>⟨⟩) (ev x)
def c5v (q:Nat)(op:BinOp)(x y:Operand)(ev:Ev)(_:Id):Rq:=c6l q op (ev x) (ev y)
def c6e (x:Operand)(ev:Ev)(_:Id):Rq:=asB (ev x) λx=>rb (not x)
def c6d (x:Operand)(ev:Ev)(_:Id):Rq:=asI (ev x) λk n=>okI k (Int.neg n)
def d6c (k:IntKind)(x:Operand)(ev:Ev)(_:Id):Rq:=asI (ev x) λ_ n=>okI k n
def d6g (g:Nat)(fs cs:List Operand)(ev:Ev)(_:Id):Rq:=rv (.f g (fs.map ev) (cs.map ev))
def c1q (ag:Nat)(_:Ev)(nx:Id):Rq:= .new (.m nx) (.m ag [] none)
def c6c (z:List V)(mx:Nat)(l c:Operand)(ev:Ev)(nx:Id):Rq:=asN (ev l) λl=>asN (ev c) λc=>bif Nat.ble l c&&Nat.ble c mx then .new (.s nx 0 l c 0) (.c (a9k z c))else .no
def bnd (d:Nat)(x:Option Operand)(ev:Ev)(K:Nat->Rq):Rq:=ifS x (K d) λx=>asN (ev x) K
def d6l (k:Nat)(x:Operand)(lo h mx:Option Operand)(ev:Ev)(_:Id):Rq:=asS (ev x) (λid off len cap ex=>bnd 0 lo ev λl=>bnd len h ev λh=>
    ifS mx (bif (Nat.beq ex 0||Nat.beq ex k)&&(Nat.ble l h&&Nat.ble h cap)then fN (Nat.add off (Nat.mul l k)) λo=>fN (Nat.sub h l) λn=>fN (Nat.sub cap l) λc=>rv (.s id o n c ex)else .no) λm=>asN (ev m) λm=>
      bif Nat.ble l h&&(Nat.ble h m&&Nat.ble m cap)then fN (Nat.add off (Nat.mul l k)) λo=>fN (Nat.sub h l) λn=>fN (Nat.sub m l) λc=>rv (.s id o n c 0)else .no)
  (bnd 0 lo ev λl=>bnd 0 h ev λh=>bnd 0 mx ev λm=>bif Nat.beq l 0&&(Nat.beq h 0&&Nat.beq m 0)then rv (ev x)else .no)
def c6f (k n:Nat)(x:Operand)(lo h:Option Operand)(ev:Ev)(_:Id):Rq:=asP (ev x) λid off=>bnd 0 lo ev λl=>bnd n h ev λh=>
  bif Nat.ble l h&&Nat.ble h n then .ask id λo=>asC o λcs=>bif Nat.ble (Nat.add off (Nat.mul n k)) (nQ cs)then fN (Nat.add off (Nat.mul l k)) λo=>fN (Nat.sub h l) λm=>fN (Nat.sub n l) λc=>rv (.s id o m c 0)else .no else .no
def d6e (off:Nat)(x:Operand)(ev:Ev)(_:Id):Rq:=asP (ev x) λid o=>fN (Nat.add o off) λo=>rv (.p id o)
def d6f (n:Option Nat)(off:Nat)(x:Operand)(ev:Ev)(_:Id):Rq:=asA (ev x) λcs=>yU n cs off
def c6w (k:Nat)(len:Option Nat)(x i:Operand)(ev:Ev)(_:Id):Rq:=asN (ev i) λi=>ifS len
  (asS (ev x) (λid off len _ _=>bif Nat.blt i len then fN (Nat.add off (Nat.mul i k)) λo=>rv (.p id o)else .no) .no)
  λlen=>asP (ev x) λid off=>bif Nat.blt i len then fN (Nat.add off (Nat.mul i k)) λo=>rv (.p id o)else .no
def d6h (n:Option Nat)(k len:Nat)(x i:Operand)(ev:Ev)(_:Id):Rq:=asN (ev i) λi=>asA (ev x) λcs=>bif Nat.blt i len then yU n cs (Nat.mul i k)else .no
def d4v (v:Value)(i:Nat):Rq:=match v with
  | .string s=>match s[i]? with
    |some b=>rv (.i .u8 (.ofNat b.toNat))
    |none=> .no
  |_=> .no
def c6b (x i:Operand)(ev:Ev)(_:Id):Rq:=asN (ev i) λi=>V.rec (motive_1:=λ_=>Rq) (motive_2:=λ_=>PUnit) (λ_ _=>Rq.no) (λ_=>Rq.no) (λv=>d4v v i) (λ_ _=>Rq.no) (λ_ _ _ _ _=>Rq.no) (λ_=>Rq.no) (λ_ _ _ _ _=>Rq.no) (λ_=>Rq.no) (λ_ _=>Rq.no) (λ_ _=>Rq.no) (λ_=>Rq.no) (λ_ _=>Rq.no) (λ_ _=>Rq.no) (Rq.no) ⟨⟩ (λ_ _ _ _=>⟨⟩) (ev x)
def find (k:List Int)(es:Es):Option V:=List.rec (motive:=λ_=>Option V) none (λe _ ih=>bif kq k e.1 then some e.2 else ih) es
def upd (k:List Int)(v:V)(es:Es):Es:=List.rec (motive:=λ_=>Es) [(k,v)] (λe l ih=>bif kq k e.1 then(k,v)::l else e::ih) es
def del (k:List Int)(es:Es):Es:=List.rec (motive:=λ_=>Es) [] (λe l ih=>bif kq k e.1 then l else e::ih) es
def lkz (z:V)(co:Bool):Rq:=bif co then rv (.t [z,.b false])else rv z
def lks (v:V)(co:Bool):Rq:=bif co then rv (.t [v,.b true])else rv v
def pA (ag:Nat)(z:V)(x k:Operand)(co:Bool)(ev:Ev)(_:Id):Rq:=asK ag (ev k) λk=>b5v (ev x) λid=> .ask id λo=>asM o λag' es _=>bif Nat.beq ag ag' then ifS (find k es) (lkz z co) λv=>lks v co else .no
def upO (ag:Nat)(o:O)(id:Id)(k:List Int)(v:V):Rq:=O.rec (motive:=λ_=>Rq) (λ_=> .no) (λag' es _=>bif Nat.beq ag ag' then .set (.t []) id (.m ag (upd k v es) none)else .no) (λ_ _=> .no) (λ_ _ _ _ _ _ _=> .no) (λag' l=>bif Nat.beq ag ag' then .set (.t []) id (.lg ag ((k,some v)::l))else .no) (λ_ _=> .no) (λ_ _ _ _ _=> .no) o
def b5s (ag:Nat)(m k v:Operand)(ev:Ev)(_:Id):Rq:=b5v (ev m) λid=>asK ag (ev k) λk=> .ask id λo=>upO ag o id k (ev v)
def a7b (ag:Nat)(z:V)(m k:Operand)(ev:Ev)(nx:Id):Rq:=b5v (ev m) λid=>asK ag (ev k) λk=> .ask id λo=>asM o λag' es _=>bif Nat.beq ag ag' then ifS (find k es)
  (.gst (.t [z,.q nx]) id (.m ag (upd k z es) (some (nx,some k)))) (λv=> .gst (.t [v,.q nx]) id (.m ag es (some (nx,some k))))else .no
def c6a (m s v:Operand)(ev:Ev)(_:Id):Rq:=b5v (ev m) λid=>V.rec (motive_1:=λ_=>Rq) (motive_2:=λ_=>PUnit) (λ_ _=>Rq.no) (λ_=>Rq.no) (λ_=>Rq.no) (λ_ _=>Rq.no) (λ_ _ _ _ _=>Rq.no) (λ_=>Rq.no) (λ_ _ _ _ _=>Rq.no) (λ_=>Rq.no) (λ_ _=>Rq.no) (λ_ _=>Rq.no) (λg=> .ask id λo=>asM o λag es op=>ifS op .no λp=>ifS p.2 .no λk=>bif gH g p.1 then .set (.t []) id (.m ag (upd k (ev v) es) none)else .no) (λ_ _=>Rq.no) (λ_ _=>Rq.no) (Rq.no) ⟨⟩ (λ_ _ _ _=>⟨⟩) (ev s)
def c0b (x:Operand)(i:Nat)(ev:Ev)(_:Id):Rq:=V.rec (motive_1:=λ_=>Rq) (motive_2:=λ_=>PUnit) (λ_ _=>Rq.no) (λ_=>Rq.no) (λ_=>Rq.no) (λ_ _=>Rq.no) (λ_ _ _ _ _=>Rq.no) (λ_=>Rq.no) (λ_ _ _ _ _=>Rq.no) (λ_=>Rq.no) (λ_ _=>Rq.no) (λx _=>(λl=>ifS (nth l i) .no rv) x) (λ_=>Rq.no) (λ_ _=>Rq.no) (λ_ _=>Rq.no) (Rq.no) ⟨⟩ (λ_ _ _ _=>⟨⟩) (ev x)
def lnZ (q:Nat)(v:Value):Rq:=match v with
  | .slice _ n _=>bif Nat.beq q 0 then rn n else .no
  | .string s=>bif Nat.beq q 2 then rn s.size else .no
  |_=> .no
def a0z (n:Option Nat)(q:Nat)(x:Operand)(ev:Ev)(_:Id):Rq:=ifS n (V.rec (motive_1:=λ_=>Rq) (motive_2:=λ_=>PUnit) (λ_ _=>Rq.no) (λ_=>Rq.no) (lnZ q) (λ_ _=>Rq.no) (λ_ _ len _ _=>bif Nat.beq q 0 then rn len else .no) (λid=>bif Nat.beq q 1 then .ask id λo=>asM o λ_ es _=>rn (nQ es)else .no) (λ_ _ _ _ _=>Rq.no) (λ_=>Rq.no) (λ_ _=>Rq.no) (λ_ _=>Rq.no) (λ_=>Rq.no) (λ_ _=>Rq.no) (λ_ _=>Rq.no) (Rq.no) ⟨⟩ (λ_ _ _ _=>⟨⟩) (ev x)) rn
def c5x (x:Operand)(ev:Ev)(_:Id):Rq:=asS (ev x) (λ_ _ _ c ex=>bif Nat.beq ex 0 then rn c else .no) (rn 0)
def xY (k:Nat)(x:V)(K:Nat->List V->Rq):Rq:=asS x (λid off len _ _=> .ask id λo=>asC o λcs=>tk off (Nat.mul len k) cs (K len)) (K 0 [])
def c6z (k mx:Nat)(x:V)(nx:Id)(n:Nat)(new:List V):Rq:=asS x (λid off len cap ex=> .ask id λo=>asC o λcs=>fN (Nat.add len n) λm=>bif Nat.ble m mx then
      (bif Nat.ble m cap then a3d cs (Nat.add off (Nat.mul len k)) new λcs=> .set (.s id off m cap ex) id (.c cs)
       else tk off (Nat.mul len k) cs λl=>bif Nat.beq ex 0 then .new (.s nx 0 m m k) (.c (eH l new))else bif Nat.beq ex k then .mov (.s nx 0 m m k) id (.c (eH l new))else .no)else .no)
    (bif Nat.beq n 0 then rv x else bif Nat.ble n mx then .new (.s nx 0 n n k) (.c new)else .no)
def c0a (k mx:Nat)(z:Option (List V))(x y:Operand)(ev:Ev)(nx:Id):Rq:=
  ifS z (xY k (ev y) (c6z k mx (ev x) nx)) λz=>asN (ev y) λn=>bif Nat.ble n mx then c6z k mx (ev x) nx n (a9k z n)else .no
def b5q (k:Nat)(x y:Operand)(ev:Ev)(_:Id):Rq:=asS (ev x) (λid off len _ _=>xY k (ev y) λn l=>bif Nat.ble n len then .ask id λo=>asC o λcs=>a3d cs off l λcs=> .set (.i .i64 (.ofNat n)) id (.c cs)else tk0 (Nat.mul len k) l λl=> .ask id λo=>asC o λcs=>a3d cs off l λcs=> .set (.i .i64 (.ofNat len)) id (.c cs)) (asS (ev y) (λ_ _ _ _ _=>rn 0) (rn 0))
def c5y (z:List V)(x:Operand)(ev:Ev)(_:Id):Rq:=asS (ev x) (λid off len _ _=> .ask id λo=>asC o λcs=>a3d cs off (a9k z len) λcs=> .set (.t []) id (.c cs)) (rv (.t []))
def dlO (ag:Nat)(o:O)(id:Id)(k:List Int):Rq:=O.rec (motive:=λ_=>Rq) (λ_=> .no) (λag' es _=>bif Nat.beq ag ag' then .set (.t []) id (.m ag (del k es) none)else .no) (λ_ _=> .no) (λ_ _ _ _ _ _ _=> .no) (λag' l=>bif Nat.beq ag ag' then .set (.t []) id (.lg ag ((k,none)::l))else .no) (λ_ _=> .no) (λag' k' v th g=>bif Nat.beq ag ag'&&(kq k k'&&th)then .set (.t []) id (.dl ag k v false g)else .no) o
def c5z (ag:Nat)(m k:Operand)(ev:Ev)(_:Id):Rq:=b5v (ev m) λid=>asK ag (ev k) λk=> .ask id λo=>dlO ag o id k
def d3u (mx:Bool)(k:IntKind)(l:List V)(x:Int):Rq:=List.rec (motive:=λ_=>Int->Rq) (λx=>rv (.i k x)) (λv _ ih x=>asI v λ_ y=>ih (bif (bif mx then ilt x y else ilt y x)then y else x)) l x
def d0z (mx:Bool)(x:Operand)(l:List Operand)(ev:Ev)(_:Id):Rq:=asI (ev x) λk x=>d3u mx k (l.map ev) x
def d6k (x:Operand)(ev:Ev)(nx:Id):Rq:=b5v (ev x) λid=> .ask id λo=>asM o λag es _=> .rng (.p nx 0) (.it id nx) id (.m ag es (some (nx,none)))
def enO (o:O)(g:Id):Rq:=O.rec (motive:=λ_=>Rq) (λ_=> .no) (λag es op=>ifS op .no λp=>ifS p.2 .no λk=>bif gH g p.1 then ifS (find k es) .no λv=>rv (.t [eN ag k,v])else .no) (λ_ _=> .no) (λ_ _ _ _ _ _ _=> .no) (λ_ _=> .no) (λ_ _=> .no) (λag k v th g'=>bif gH g g'&&th then rv (.t [eN ag k,v])else .no) o
def d6d (it:Operand)(ev:Ev)(_:Id):Rq:=asP (ev it) λid off=>bif Nat.beq off 0 then .ask id λo=>O.rec (motive:=λ_=>Rq) (λ_=> .no) (λ_ _ _=> .no) (λm g=> .ask m λo=>enO o g) (λ_ _ _ _ _ _ _=> .no) (λ_ _=> .no) (λ_ _=> .no) (λ_ _ _ _ _=> .no) o else .no
def d6j (t:Nat)(x:Operand)(ev:Ev)(_:Id):Rq:=b5v (ev x) λid=>rv (.e t id)
def d1y (t:Nat)(x:Operand)(ev:Ev)(_:Id):Rq:=V.rec (motive_1:=λ_=>Rq) (motive_2:=λ_=>PUnit) (λ_ _=>Rq.no) (λ_=>Rq.no) (λ_=>Rq.no) (λ_ _=>Rq.no) (λ_ _ _ _ _=>Rq.no) (λ_=>Rq.no) (λ_ _ _ _ _=>Rq.no) (λ_=>Rq.no) (λ_ _=>Rq.no) (λ_ _=>Rq.no) (λ_=>Rq.no) (λ_ _=>Rq.no) (λt' id=>bif Nat.beq t t' then rv (.m id)else .no) (Rq.no) ⟨⟩ (λ_ _ _ _=>⟨⟩) (ev x)
def fR (_:Ev)(_:Id):Rq:= .no
section
variable (P:Program)
def ors {α:Type}(x:Option α)(f:α->Kf):Kf:=match x with
  |some a=>f a
  |none=>⟨fR⟩
def szO (t:Nat):Option Nat:=(P.info? t).map (·.size)
def byO (t:Nat):Option Nat:=(P.info? t).map (·.bytes)
def zvO (t:Nat):Option Value:=match P.info? t with
  |some i=>i.zero
  |none=>none
def zcO (t:Nat):Option (List V):=match zvO P t,szO P t with
  |some v,some n=>bif v.cells.toList.all a3u&&Nat.beq v.cells.size n then some (v.cells.toList.map b8s)else none
  |_,_=>none
def agO (t:Nat):Option (Option Nat):=match P.underlying t with
  |some (.struct _)|some (.array _ _)=>(szO P t).map some
  |some _=>some none
  |none=>none
def c6o (s i:Nat):Option Field:=match P.underlying s with
  |some (.struct fs)=>fs[i]?
  |_=>none
def a2m:TypeDesc->Bool
  | .int .i64=>true
  |_=>false
def b2e (t:Nat):Bool:=match P.underlying t with
  |some d=>a2m d
  |none=>false
def b1p:List Field->Nat->Bool
  |[],_=>true
  |f::l,n=>b2e P f.type&&(Nat.beq f.offset n&&((!f.name== "_")&&b1p l (n+1)))
def tyQ (t:Nat):Nat:=match P.underlying t with
  |some .bool=>1
  |some (.slice _)=>2
  |some (.map _ _)=>3
  |some (.struct fs)=>bif b1p P fs.toList 0&&(!P.stoodInHeld t&& !P.eqGuardType P.depth t)then fs.size+4 else 0
  |some (.array n e)=>bif b2e P e&&(!P.eqGuardType P.depth t&&(szO P e==some 1))then n+4 else 0
  |_=>0
def xN (t:Nat):Option Nat:=match P.underlying t with
  |some (.map k _)=>match P.underlying k with
    |some (.struct fs)=>bif b1p P fs.toList 0&&(!P.stoodInHeld k&& !P.eqGuardType P.depth k)then some (fs.size+1)else none
    |some d=>bif a2m d then some 0 else none
    |none=>none
  |_=>none
def elT (t:Nat):Option Nat:=match P.underlying t with
  |some (.map _ e)=>some e
  |_=>none
def slT (t:Nat):Option Nat:=match P.underlying t with
  |some (.slice e)=>some e
  |_=>none
def arT (t:Nat):Option (Nat×Nat):=match P.underlying t with
  |some (.array n e)=>some (n,e)
  |_=>none
def rI (t:Nat):Bool:=match P.underlying t with
  |some (.int _)=>true
  |_=>false
def mxO (t:Nat):Option Nat:=match byO P t with
  |some n=>bif Nat.blt 0 n&&Nat.ble n 4294967296 then some 2048 else none
  |none=>none
def c2o (b:Builtin)(ts:List Nat)(args:List Operand):Kf:=match b,args,ts with
  | .len,[x],[t]=>match arT P t with
    |some p=>⟨a0z (some p.1) 0 x⟩
    |none=>match P.underlying t with
      |some (.slice _)=>⟨a0z none 0 x⟩
      |some (.map _ _)=>⟨a0z none 1 x⟩
      |some .string=>⟨a0z none 2 x⟩
      |_=>⟨fR⟩
  | .cap,[x],[t]=>ors (slT P t) λ_=>⟨c5x x⟩
  | .append,[x,y],[t,t2]=>ors (slT P t) λe=>ors (szO P e) λk=>ors (mxO P e) λmx=>ors (zcO P e) λz=>ors (P.underlying t2) λ_=>bif Nat.blt 0 k then bif rI P t2 then⟨c0a k mx (some z) x y⟩else⟨c0a k mx none x y⟩else⟨fR⟩
  | .copy,[x,y],[t,_]=>ors (slT P t) λe=>ors (szO P e) λk=>⟨b5q k x y⟩
  | .clear,[x],[t]=>ors (slT P t) λe=>ors (zcO P e) λz=>⟨c5y z x⟩
  | .delete,[m,k],[t,_]=>ors (xN P t) λag=>⟨c5z ag m k⟩
  | .max,x::r,_=>⟨d0z true x r⟩
  | .min,x::r,_=>⟨d0z false x r⟩
  |_,_,_=>⟨fR⟩
def plS (fs:List Field):List (Nat×Operand)->Option (List (Nat×Nat×Operand))
  |[]=>some []
  |(i,x)::l=>match fs[i]? with
    |some f=>match szO P f.type,plS fs l with
      |some n,some r=>some ((f.offset,n,x)::r)
      |_,_=>none
    |none=>none
def plA (k:Nat):List (Nat×Operand)->List (Nat×Nat×Operand)
  |[]=>[]
  |(i,x)::l=>(i*k,k,x)::plA k l
def c5l:List Field->Bool
  |[]=>true
  |f::l=>(szO P f.type).isSome&&c5l l
def pU (op:Op):Kf:=match op with
  | .move x=>⟨d0y x⟩
  | .assign x=>⟨d0y x⟩
  | .pick c a b=>⟨b5r c a b⟩
  | .alloc t=>ors (zcO P t) λz=>⟨d1a z⟩
  | .box _ x=>⟨c5w x⟩
  | .build t ps=>ors (zcO P t) λz=>match P.underlying t with
    |some (.struct fs)=>bif c5l P fs.toList then ors (plS P fs.toList ps.toList) λl=>⟨a3z z l⟩else⟨fR⟩
    |some (.array _ e)=>ors (szO P e) λk=>⟨a3z z (plA k ps.toList)⟩
    |_=>⟨fR⟩
  | .buildSlice t len ps=>ors (slT P t) λe=>ors (szO P e) λk=>ors (zcO P e) λz=>bif Nat.ble (len*k) 1048576&&Nat.blt 0 k then⟨d0x len (a9k z len) (plA k ps.toList)⟩else⟨fR⟩
  | .load t a=>ors (agO P t) λn=>⟨d6i n a⟩
  | .store t a x=>ors (szO P t) λn=>⟨d6m n a x⟩
  | .nilCheck x=>⟨d1x x⟩
  | .binOp op t x y _=>⟨c5v (tyQ P t) op x y⟩
  | .unOp op _ x=>match op with
    | .not=>⟨c6e x⟩
    | .neg=>⟨c6d x⟩
    |_=>⟨fR⟩
  | .convert s t x=>ors (P.underlying s) λ_=>match P.underlying t with
    |some (.int k)=>⟨d6c k x⟩
    |_=>⟨fR⟩
  | .makeFunc (.func g) fs cs=>⟨d6g g fs.toList cs.toList⟩
  | .makeMap t none=>ors (xN P t) λag=>⟨c1q ag⟩
  | .makeSlice t l c=>ors (slT P t) λe=>ors (mxO P e) λmx=>ors (zcO P e) λz=>bif Nat.blt 0 (nQ z)then⟨c6c z mx l c⟩else⟨fR⟩
  | .slice t x lo hi mx=>match P.underlying t with
    |some (.slice e)=>ors (szO P e) λk=>match hi,mx with
      |none,some _=>⟨fR⟩
      |_,_=>⟨d6l k x lo hi mx⟩
    |some (.array n e)=>ors (szO P e) λk=>match mx with
      |none=>⟨c6f k n x lo hi⟩
      |some _=>⟨fR⟩
    |_=>⟨fR⟩
  | .fieldAddr s x i=>ors (c6o P s i) λf=>ors (szO P f.type) λn=>bif Nat.beq n 0 then⟨fR⟩else⟨d6e f.offset x⟩
  | .field s x i=>ors (c6o P s i) λf=>ors (agO P f.type) λn=>⟨d6f n f.offset x⟩
  | .indexAddr t x i=>match P.underlying t with
    |some (.slice e)=>ors (szO P e) λk=>⟨c6w k none x i⟩
    |some (.array len e)=>ors (szO P e) λk=>⟨c6w k (some len) x i⟩
    |_=>⟨fR⟩
  | .index t x i=>match P.underlying t with
    |some (.array len e)=>ors (szO P e) λk=>ors (agO P e) λn=>⟨d6h n k len x i⟩
    |some .string=>⟨c6b x i⟩
    |_=>⟨fR⟩
  | .lookup t x k co=>ors (xN P t) λag=>ors (elT P t) λe=>ors (zvO P e) λz=>⟨pA ag (ofV z) x k co⟩
  | .mapUpdate t m k v=>ors (xN P t) λag=>⟨b5s ag m k v⟩
  | .insert t m k v=>ors (xN P t) λag=>⟨b5s ag m k v⟩
  | .mapEntry t m k=>ors (xN P t) λag=>ors (elT P t) λe=>ors (zvO P e) λz=>⟨a7b ag (ofV z) m k⟩
  | .entryStore _ m s v=>⟨c6a m s v⟩
  | .extract t i=>⟨c0b t i⟩
  | .range t x=>ors (xN P t) λ_=>⟨d6k x⟩
  | .entry it=>⟨d6d it⟩
  | .makeInterface t x=>match P.underlying t with
    |some (.map _ _)=>⟨d6j t x⟩
    |_=>⟨fR⟩
  | .typeAssert x _ t false=>match P.underlying t with
    |some (.map _ _)=>⟨d1y t x⟩
    |_=>⟨fR⟩
  | .call c=>match c.callee with
    | .builtin b=>c2o P b c.argTypes.toList c.args.toList
    |_=>⟨fR⟩
  |_=>⟨fR⟩
inductive In
  |o (g:Option (Nat×Bool)) (d:Option Nat) (k:Kf)
  |call (g:Option (Nat×Bool)) (d:Option Nat) (f:Operand) (args:List Operand)
  |bad
def uE (op:Op):Option (Operand×Array Operand):=match op with
  | .call c=>match c.callee with
    | .value f=>some (f,c.args)
    |_=>none
  |_=>none
def uC (ops:List Oper):Option (Nat×Bool)->Option (Option (Nat×Bool))
  |none=>some none
  |some (j,w)=>match ops[j]? with
    |some oj=>match oj.dst with
      |some d=>some (some (d,w))
      |none=>none
    |none=>none
def ltO (d:Option Nat)(n:Nat):Bool:=match d with
  |some d=>Nat.blt d n
  |none=>true
def qT (n:Nat)(ops:List Oper)(o:Oper):In:=bif ltO o.dst n then(match uC ops o.guard with
  |some g=>match uE o.op with
    |some (f,args)=> .call g o.dst f args.toList
    |none=> .o g o.dst (pU P o.op)
  |none=> .bad)else .bad
inductive Rv
  |t (p:Nat)|c (n:Option Nat) (p:Nat)|no
structure Fi where
  c:Code
  r:List Rv
  n:Nat
def a1b:ResultVar->Rv
  | .tmp t=> .t t
  | .cell a t=>match agO P t with
    |some n=> .c n a
    |none=> .no
def b6w (g:Nat):Option Fi:=match P.funcs[g]? with
  |some fn=>match fn.body with
    |some c=>bif Nat.ble fn.ntmps 512&&fn.name != "runtime.NumGoroutine" then some ⟨c,fn.results.toList.map (a1b P),fn.ntmps⟩else none
    |none=>none
  |none=>none
end
inductive Res
  |no
  |ok (e:Ex) (tm:Tm) (h:Hp) (nx:Id)
abbrev Kt:=Tm->Hp->Id->Res
structure Lm where
  fl:Option Nat
  pr:List Id
structure Cx where
  lm:Lm
  g:Nat
  n:Nat
  ro:Option Id
abbrev Ih:=Cx->Code->Kt
def ifR {β:Type}(r:Res)(no:β)(K:Ex->Tm->Hp->Id->β):β:=Res.rec (motive:=λ_=>β) no K r
def evO (tm:Tm)(x:Operand):V:=Operand.rec (motive:=λ_=>V) (λp=>rdT p tm) ofV (λ_=> .un) (λf=> .f f [] []) x
section
variable {β:Type}
def ifO (o:O)(K:O->β):β:=O.rec (motive:=λ_=>β) (λa=>K (.c a)) (λa b c=>K (.m a b c)) (λa b=>K (.it a b)) (λa b c d e f g=>K (.lp a b c d e f g)) (λa b=>K (.lg a b)) (λa b=>K (.lc a b)) (λa b c d e=>K (.dl a b c d e)) o
def tG (o:O):Bool:=O.rec (motive:=λ_=>Bool) (λ_=>false) (λ_ _ _=>false) (λ_ _=>false) (λ_ _ _ _ _ _ _=>false) (λ_ _=>true) (λ_ _=>true) (λ_ _ _ _ _=>true) o
def bN (id:Id)(l:List Id):Bool:=List.rec (motive:=λ_=>Bool) false (λx _ ih=>bif gH id x then true else ih) l
def may (lm:Lm)(h:Hp)(nx id:Id):Bool:=bif bN id lm.pr then false else ifS lm.fl true λf=>bif Nat.ble f id.num&&Nat.blt id.num nx.num then true else ifS (geH h id) false tG
def d2v (_:Lm)(h:Hp)(nx:Id)(K:V->Hp->Id->β)(_:β)(v:V):β:=K v h nx
def c3f (fl:Lm)(h:Hp)(nx:Id)(K:V->Hp->Id->β)(bad:β)(v:V)(id:Id)(o:O):β:=ifO o λo=>bif may fl h nx id then stH h id (some o) λh=>K v h nx else bad
def c3d (_:Lm)(h:Hp)(nx:Id)(K:V->Hp->Id->β)(bad:β)(v:V)(o:O):β:=ifO o λo=>stH h nx (some o) λh=>nxI nx bad λnx=>K v h nx
def c3c (fl:Lm)(h:Hp)(nx:Id)(K:V->Hp->Id->β)(bad:β)(v:V)(id:Id)(o:O):β:=ifO o λo=>bif may fl h nx id then stH h id none λh=>stH h nx (some o) λh=>nxI nx bad λnx=>K v h nx else bad
def c3b (fl:Lm)(h:Hp)(nx:Id)(K:V->Hp->Id->β)(bad:β)(v:V)(id:Id)(o:O):β:=ifO o λo=>bif may fl h nx id then stH h id (some o) λh=>nxI nx bad λnx=>K v h nx else bad
def c3e (fl:Lm)(h:Hp)(nx:Id)(K:V->Hp->Id->β)(bad:β)(v:V)(o:O)(id:Id)(o':O):β:=ifO o λo=>ifO o' λo'=>bif may fl h nx id then stH h nx (some o) λh=>stH h id (some o') λh=>nxI nx bad λnx=>K v h nx else bad
def goR (fl:Lm)(h:Hp)(nx:Id)(K:V->Hp->Id->β)(bad:β)(r:Rq):β:=
  Rq.rec (motive:=λ_=>β) (d2v fl h nx K bad) (c3f fl h nx K bad) (c3d fl h nx K bad) (c3c fl h nx K bad) (c3b fl h nx K bad) (c3e fl h nx K bad) (λid _ ih=>ifS (geH h id) bad ih) bad r
def xO (d:Option Nat)(v:V)(tm:Tm)(K:Tm->β):β:=ifS d (K tm) λd=>wtT d v tm K
def b6n (l:List V)(n:Nat)(t:Tm)(K:Tm->β):β:=
  List.rec (motive:=λ_=>Nat->Tm->β) (λ_ t=>K t) (λv _ ih n t=>wtT n v t λt=>ih (Nat.succ n) t) l n t
def b4u (ps:List Nat)(tm:Tm)(args:List V)(bad:β)(K:Tm->β):β:=
  List.rec (motive:=λ_=>Tm->List V->β) (λtm args=>List.rec (motive:=λ_=>β) (K tm) (λ_ _ _=>bad) args) (λp _ ih tm args=>List.rec (motive:=λ_=>β) bad (λv args _=>wtT p v tm λtm=>ih tm args) args) ps tm args
end
def a9a (tm:Tm)(h:Hp)(r:Rv)(K:V->Res):Res:=match r with
  | .t p=>K (rdT p tm)
  | .c n p=>goR ⟨none,[]⟩ h .z (λv _ _=>K v) .no (asP (rdT p tm) λid off=> .ask id λo=>asC o λcs=>yU n cs off)
  | .no=> .no
def c6s (tm:Tm)(h:Hp)(l:List Rv)(K:List V->Res):Res:=
  List.rec (motive:=λ_=>(List V->Res)->Res) (λK=>K []) (λr _ ih K=>a9a tm h r λv=>ih λl=>K (v::l)) l K
def c4x (tm:Tm)(h:Hp)(l:List Rv)(K:V->Res):Res:=c6s tm h l λl=>match l with
  |[v]=>K v
  |l=>K (.t l)
def lN (n:Nat)(l:List Nat):Bool:=List.rec (motive:=λ_=>Bool) false (λx _ ih=>bif Nat.beq n x then true else ih) l
structure Ht where
  g:Nat
  it:Nat
  acc:List Nat
  lg:List (Nat×List Nat)
def kN (k:IntKind):Nat:=match k with| .i8=>0| .i16=>1| .i32=>2| .i64=>3| .u8=>4| .u16=>5| .u32=>6| .u64=>7
def eqZ (a b:Value):Bool:=match a with
  | .pointer none=>(match b with| .pointer none=>true|_=>false)
  | .slice none 0 0=>(match b with| .slice none 0 0=>true|_=>false)
  | .map none=>(match b with| .map none=>true|_=>false)
  | .nilFunc=>(match b with| .nilFunc=>true|_=>false)
  | .nilIface=>(match b with| .nilIface=>true|_=>false)
  |_=>false
def b7j (f:V->V->Bool):List V->List V->Bool
  |[],[]=>true
  |x::l,y::m=>f x y&&b7j f l m
  |_,_=>false
def eqV:Nat->V->V->Bool
  |0=>λ_ _=>false
  |n+1=>λa b=>match a with
    | .i k x=>(match b with| .i k' x'=>Nat.beq (kN k) (kN k')&&a9i x x'|_=>false)
    | .b x=>(match b with| .b y=>Bool.rec (motive:=λ_=>Bool) (!y) y x|_=>false)
    | .z x=>(match b with| .z y=>eqZ x y|_=>false)
    | .p i o=>(match b with| .p j q=>gH i j&&Nat.beq o q|_=>false)
    | .s i o l c e=>(match b with| .s i' o' l' c' e'=>gH i i'&&(Nat.beq o o'&&(Nat.beq l l'&&(Nat.beq c c'&&Nat.beq e e')))|_=>false)
    | .m i=>(match b with| .m j=>gH i j|_=>false)
    | .f g x y=>(match b with| .f g' x' y'=>Nat.beq g g'&&(b7j (eqV n) x x'&&b7j (eqV n) y y')|_=>false)
    | .a x=>(match b with| .a y=>b7j (eqV n) x y|_=>false)
    | .t x=>(match b with| .t y=>b7j (eqV n) x y|_=>false)
    |_=>false
def eqE:Es->Es->Bool
  |[],[]=>true
  |x::l,y::m=>kq x.1 y.1&&(eqV 9 x.2 y.2&&eqE l m)
  |_,_=>false
def eqP (a b:Option (Id×Option (List Int))):Bool:=match a,b with
  |none,none=>true
  |some (i,none),some (j,none)=>gH i j
  |some (i,some k),some (j,some l)=>gH i j&&kq k l
  |_,_=>false
def eqO (a b:O):Bool:=match a with
  | .c l=>(match b with| .c m=>b7j (eqV 9) l m|_=>false)
  | .m ag es op=>(match b with| .m ag' es' op'=>Nat.beq ag ag'&&(eqE es es'&&eqP op op')|_=>false)
  |_=>false
def isN {α:Type}(x:Option α):Bool:=Option.rec (motive:=λ_=>Bool) true (λ_=>false) x
structure Oc where
  g:Nat
  args:List V
  lo:Id
  hi:Id
  inp:List (Id×O)
  v:V
  out:List (Id×O)
def c0o (l:List (Id×O))(h:Hp):Bool:=List.rec (motive:=λ_=>Bool) true (λe _ ih=>ifS (geH h e.1) false λo=>bif eqO o e.2 then ih else false) l
def c4n (l:List (Id×O))(h:Hp)(K:Hp->Res):Res:=List.rec (motive:=λ_=>Hp->Res) K (λe _ ih h=>stH h e.1 (some e.2) ih) l h
def ocB (o:Oc)(g:Nat)(args:List V)(h:Hp)(nx:Id):Bool:=Nat.beq g o.g&&(Nat.ble nx.num o.lo.num&&(b7j (eqV 9) args o.args&&c0o o.inp h))
abbrev Kv:=V->Hp->Id->Res
def orc (l:List Oc)(g:Nat)(args:List V)(h:Hp)(nx:Id)(K:Kv)(R:Res):Res:=List.rec (motive:=λ_=>Res) R (λo _ ih=>bif ocB o g args h nx then c4n o.out h λh=>K o.v h o.hi else ih) l
structure Hs where
  l:List Ht
  cl:List Nat
  oc:List Oc
section
variable (P:Program) (hs:Hs)
def clone (args:List V)(h:Hp)(nx:Id)(K:Kv):Res:=match args with
  |[.e t id]=>match geH h id with
    |some (.m ag es _)=>stH h nx (some (.m ag es none)) λh=>nxI nx .no λnx'=>K (.e t nx) h nx'
    |_=> .no
  |_=> .no
def gA (ih:Ih)(lm:Lm)(g:Nat)(args:List V)(h:Hp)(nx:Id)(K:Kv):Res:=
  ifS (b6w P g) (bif lN g hs.cl then clone args h nx K else .no) λfi=>Fi.rec (motive:=λ_=>Res) (λc rs n=>bif Nat.ble (nQ args) n then b6n args 0 tm0 λtm=>ifR (ih ⟨lm,g,n,none⟩ c tm h nx) .no λe tm h nx=>match e with
    | .exit _=> .no
    |_=>c4x tm h rs λv=>K v h nx else .no) fi
def ltL (l:List Nat)(n:Nat):Bool:=l.all λp=>Nat.blt p n
def d1o (l:Id)(K:Kv)(e:Ex)(_:Tm)(h:Hp)(nx:Id):Res:=match geH h l with
  |some (.lp tm ps a b 1 _ gn)=>match e with
    | .normal=>stH h l (some (.lp tm ps a b 0 none gn)) λh=>K (.b true) h nx
    |e=>stH h l (some (.lp tm ps a b 2 (some e) gn)) λh=>K (.b false) h nx
  |_=> .no
def c7d (ih:Ih)(cx:Cx)(l:Id)(b:Code)(K:Kv)(e:Ex)(tm':Tm)(h:Hp)(nx:Id):Res:=match e,geH h l with
  | .normal,some (.lp tm ps a b' 0 pd gn)=>stH h l (some (.lp tm ps a b' 1 pd gn)) λh=>ifR (ih cx b tm' h nx) .no (d1o l K)
  |_,_=> .no
def b6u (ih:Ih)(lm:Lm)(l:Id)(args:List V)(h:Hp)(nx:Id)(K:Kv):Res:=
  match geH h l with
  |some (.lp tm ps a b 0 _ gn)=>bif may lm h nx l&&(Nat.ble gn.2 512&&ltL ps gn.2)then b4u ps tm args .no λtm'=>ifR (ih ⟨lm,gn.1,gn.2,some l⟩ a tm' h nx) .no (c7d ih ⟨lm,gn.1,gn.2,some l⟩ l b K)else .no
  |_=> .no
def iZ (ih:Ih)(lm:Lm)(f:V)(args:List V)(h:Hp)(nx:Id)(K:Kv):Res:=
  match f with
  | .f g fs cs=>bif isN lm.fl then orc hs.oc g (eH fs (eH args cs)) h nx K (gA P hs ih lm g (eH fs (eH args cs)) h nx K)else gA P hs ih lm g (eH fs (eH args cs)) h nx K
  | .y l=>b6u ih lm l args h nx K
  |_=> .no
def nG (g:Option (Nat×Bool))(tm:Tm):Bool:=ifS g true λg=>match rdT g.1 tm with
  | .b b=>c6k b g.2
  |_=>false
def jJ (g:Option (Nat×Bool))(tm:Tm):Bool:=ifS g true λg=>match rdT g.1 tm with
  | .b _=>true
  | .t []=>true
  |_=>false
def o_k (cx:Cx)(d:Option Nat)(tm:Tm)(h:Hp)(nx:Id)(K:Kt)(f:Ev->Id->Rq):Res:=goR cx.lm h nx (λv h nx=>xO d v tm λtm=>K tm h nx) .no (f (evO tm) nx)
def o_o (g:Option (Nat×Bool))(d:Option Nat)(k:Kf)(_:Ih)(cx:Cx)(tm:Tm)(h:Hp)(nx:Id)(K:Kt):Res:=
  bif nG g tm then Kf.rec (motive:=λ_=>Res) (o_k cx d tm h nx K) k else bif jJ g tm then xO d (.t []) tm λtm=>K tm h nx else .no
def o_c (g:Option (Nat×Bool))(d:Option Nat)(f:Operand)(args:List Operand)(ih:Ih)(cx:Cx)(tm:Tm)(h:Hp)(nx:Id)(K:Kt):Res:=
  bif nG g tm then iZ P hs ih cx.lm (evO tm f) (args.map (evO tm)) h nx (λv h nx=>xO d v tm λtm=>K tm h nx)else bif jJ g tm then xO d (.t []) tm λtm=>K tm h nx else .no
def o_b (_:Ih)(_:Cx)(_:Tm)(_:Hp)(_:Id)(_:Kt):Res:= .no
def op1 (i:In):Ih->Cx->Tm->Hp->Id->Kt->Res:=
  In.rec (motive:=λ_=>Ih->Cx->Tm->Hp->Id->Kt->Res) o_o (o_c P hs) o_b i
def b4o (ih:Ih)(cx:Cx)(l:List In):Kt:=
  List.rec (motive:=λ_=>Kt) (.ok .normal) (λi _ rest tm h nx=>op1 P hs i ih cx tm h nx rest) l
def andThen (K:Kt)(e:Ex)(tm:Tm)(h:Hp)(nx:Id):Res:=Ex.rec (motive:=λ_=>Kt) K (.ok .ret) (λid=> .ok (.exit id)) e tm h nx
def blk (id:Nat)(e:Ex)(tm:Tm)(h:Hp)(nx:Id):Res:=Ex.rec (motive:=λ_=>Kt) (.ok .normal) (.ok .ret) (λj tm h nx=>bif Nat.beq id j then .ok .normal tm h nx else .ok (.exit j) tm h nx) e tm h nx
def tb (m i:Nat):Bool:=Nat.beq (Nat.mod (Nat.shiftRight m i) 2) 1
def sb (m i:Nat):Nat:=Nat.lor m (Nat.shiftLeft 1 i)
def mkM (l:List Nat):Nat:=List.rec (motive:=λ_=>Nat) 0 (λx _ ih=>sb ih x) l
def edL (o:Oper):List Nat:=(o.after.toList.filter (Region.binds .any)).map (·.on)
def gtR (w acc j:Nat):Nat:=Nat.mod (Nat.shiftRight acc (Nat.mul j w)) (Nat.pow 2 w)
def c9m (w acc:Nat)(es:List Nat):Nat:=List.rec (motive:=λ_=>Nat) 0 (λj _ r=>Nat.lor (sb r j) (gtR w acc j)) es
def b6b (w:Nat):List Oper->Nat->Nat->Nat
  |[],_,acc=>acc
  |o::l,i,acc=>fN (Nat.lor acc (Nat.shiftLeft (Nat.mod (c9m w acc (edL o)) (Nat.pow 2 w)) (Nat.mul i w))) λacc=>b6b w l (Nat.succ i) acc
def isC (o:Oper):Bool:=(uE o.op).isSome
def a9d (ops:List Oper)(w R:Nat):Nat->List Nat->List Nat
  |0,l=>l
  |_,[]=>[]
  |f+1,x::l=>match ops[x]? with
    |some o=>bif isC o then l.filter (λy=> !tb (gtR w R y) x)++x::a9d ops w R f (l.filter λy=>tb (gtR w R y) x)else x::a9d ops w R f l
    |none=>[]
def tmS:List Operand->List Nat
  |[]=>[]
  | .tmp t::l=>t::tmS l
  |_::l=>tmS l
def gdS (ol:List Oper)(o:Oper):List Nat:=match o.guard with
  |some (j,_)=>match ol[j]? with
    |some oj=>oj.dst.toList
    |none=>[]
  |none=>[]
def rdS (ol:List Oper)(o:Oper):List Nat:=tmS o.op.operands.toList++gdS ol o
def noM (d:Option Nat)(m:Nat):Bool:=match d with
  |some d=> !tb m d
  |none=>true
def neD (a b:Option Nat):Bool:=match a,b with
  |some x,some y=> !Nat.beq x y
  |_,_=>true
def lkP (a b:Oper):Bool:=match a.op,b.op with
  | .lookup t _ _ false,.mapEntry t' _ _=>Nat.beq t t'
  |_,_=>false
def lkN (a:Oper):Nat:=match a.op with
  | .lookup t _ _ false=>Nat.add (Nat.mul 2 t) 2
  | .mapEntry t _ _=>Nat.add (Nat.mul 2 t) 3
  |_=>0
def lkB (a b:Nat):Bool:=Nat.beq (Nat.succ a) b&&Nat.beq (Nat.mod a 2) 0
structure Dn where
  i:Nat
  o:In
  un:Nat
structure Rw where
  i:Nat
  o:Oper
  rd:Nat
  cl:Bool
  lk:Nat
def d1r {β:Type}(ops:List Oper)(i:Nat)(o:Oper)(K:Rw->β):β:=fN (mkM (rdS ops o)) λm=>fN (lkN o) λk=>Bool.rec (motive:=λ_=>β) (K ⟨i,o,m,false,k⟩) (K ⟨i,o,m,true,k⟩) (isC o)
def unL (R:Nat)(x:Rw)(l:List Rw):Option Nat:=List.rec (motive:=λ_=>Option Nat) (some 0) (λe _ ih=>bif tb R e.i then ih else bif !e.cl&&(noM e.o.dst x.rd&&(noM x.o.dst e.rd&&neD e.o.dst x.o.dst))then(bif lkB e.lk x.lk then ih else ih.map λm=>sb m e.i)else none) l
def c6m (n:Nat)(ops:List Oper)(w R:Nat):Nat->List Rw->List (Nat×Oper)->Option (List Dn)
  |_,_,[]=>some []
  |pm,pv,x::l=>bif (edL x.2).all λj=>tb pm j then d1r ops x.1 x.2 λrx=>(match unL (gtR w R x.1) rx pv,c6m n ops w R (sb pm x.1) (rx::pv) l with
    |some un,some r=>fN un λun=>some (⟨x.1,qT P n ops x.2,un⟩::r)
    |_,_=>none)else none
def c8w:List Nat->Bool
  |[]=>true
  |x::l=> !lN x l&&c8w l
def c9j (l:List Nat)(m n:Nat):Bool:=List.rec (motive:=λ_=>Nat->Bool) (λm=>Nat.beq m n) (λx _ ih m=>bif tb m x then false else fN (sb m x) λm=>ih m) l m
def ixL (ops:List Oper)(l:List Nat):List (Nat×Oper):=l.filterMap λi=>(ops[i]?).map λo=>(i,o)
def d1n (n:Nat)(ops:List Oper):Option (List Dn):=fN (nQ ops) λw=>fN (b6b w ops 0 0) λR=>
  (λl=>bif c9j l 0 (Nat.sub (Nat.pow 2 w) 1)then c6m P n ops w R 0 [] (ixL ops l)else none) (a9d ops w R w (List.range w))
structure Fp where
  i:Nat
  rd:List Id
  wr:List Id
def a1a (h:Hp)(r:Rq):List Id:=Rq.rec (motive:=λ_=>List Id) (λ_=>[]) (λ_ _ _=>[]) (λ_ _=>[]) (λ_ _ _=>[]) (λ_ _ _=>[]) (λ_ _ _ _=>[]) (λid _ ih=>ifS (geH h id) [] λo=>id::ih o) [] r
def wrL (h:Hp)(nx:Id)(r:Rq):List Id:=Rq.rec (motive:=λ_=>List Id) (λ_=>[]) (λ_ i _=>[i]) (λ_ _=>[nx]) (λ_ i _=>[nx,i]) (λ_ i _=>[i]) (λ_ _ i _=>[i,nx]) (λid _ ih=>ifS (geH h id) [] ih) [] r
def b1b (l m:List Id):Bool:=List.rec (motive:=λ_=>Bool) true (λx _ ih=>bif bN x m then false else ih) l
def okF (un:Nat)(tr:List Fp)(rd wr:List Id):Bool:=List.rec (motive:=λ_=>Bool) true (λe _ ih=>bif tb un e.i then(bif b1b e.wr rd&&(b1b e.wr wr&&b1b wr e.rd)then ih else false)else ih) tr
def wsL (un:Nat)(tr:List Fp):List Id:=List.rec (motive:=λ_=>List Id) [] (λe _ ih=>bif tb un e.i then eH e.wr ih else ih) tr
def psL (un:Nat)(tr:List Fp):List Id:=List.rec (motive:=λ_=>List Id) [] (λe _ ih=>bif tb un e.i then eH e.rd ih else ih) tr
def isE {α:Type}(l:List α):Bool:=List.rec (motive:=λ_=>Bool) true (λ_ _ _=>false) l
def adF (f:Fp)(tr:List Fp):List Fp:=bif isE f.rd&&isE f.wr then tr else f::tr
def d4o (l:List Id)(h:Hp)(K:Hp->Res):Res:=List.rec (motive:=λ_=>Hp->Res) K (λid _ ih h=>stH h id none ih) l h
def c9q (h0:Hp)(l:List Id)(h:Hp)(K:Hp->Res):Res:=List.rec (motive:=λ_=>Hp->Res) K (λid _ ih h=>stH h id (geH h0 id) ih) l h
def okP (h:Hp)(nx:Id)(ws ps:List Id):Bool:=List.rec (motive:=λ_=>Bool) true (λid _ ih=>bif bN id ws then ih else bif Nat.blt id.num nx.num&&ifS (geH h id) false (λ_=>true)then ih else false) ps
abbrev Kd:=List Fp->Kt
def d_k (i:Nat)(un:Nat)(cx:Cx)(d:Option Nat)(tr:List Fp)(tm:Tm)(h:Hp)(nx:Id)(K:Kd)(r:Rq):Res:=
  goR cx.lm h nx (λv h' nx'=>bif okF un tr (a1a h r) (wrL h nx r)then xO d v tm λtm=>K (adF ⟨i,a1a h r,wrL h nx r⟩ tr) tm h' nx' else .no) .no r
def d_o (i:Nat)(un:Nat)(g:Option (Nat×Bool))(d:Option Nat)(k:Kf)(_:Ih)(cx:Cx)(tr:List Fp)(tm:Tm)(h:Hp)(nx:Id)(K:Kd):Res:=
  bif nG g tm then Kf.rec (motive:=λ_=>Res) (λf=>d_k i un cx d tr tm h nx K (f (evO tm) nx)) k else bif jJ g tm then xO d (.t []) tm λtm=>K tr tm h nx else .no
def d_c (un:Nat)(g:Option (Nat×Bool))(d:Option Nat)(f:Operand)(args:List Operand)(ih:Ih)(cx:Cx)(tr:List Fp)(tm:Tm)(h:Hp)(nx:Id)(K:Kd):Res:=
  bif nG g tm then bif okP h nx (wsL un tr) (psL un tr)then d4o (wsL un tr) h λh1=>iZ P hs ih ⟨cx.lm.fl,eH (psL un tr) cx.lm.pr⟩ (evO tm f) (args.map (evO tm)) h1 nx (λv h2 nx=>c9q h (wsL un tr) h2 λh3=>xO d v tm λtm=>K tr tm h3 nx)else .no else bif jJ g tm then xO d (.t []) tm λtm=>K tr tm h nx else .no
def d_b (_:Ih)(_:Cx)(_:List Fp)(_:Tm)(_:Hp)(_:Id)(_:Kd):Res:= .no
def c6q (x:Dn):Ih->Cx->List Fp->Tm->Hp->Id->Kd->Res:=
  In.rec (motive:=λ_=>Ih->Cx->List Fp->Tm->Hp->Id->Kd->Res) (d_o x.i x.un) (d_c P hs x.un) d_b x.o
def d1v (ih:Ih)(cx:Cx)(l:List Dn):Kd:=
  List.rec (motive:=λ_=>Kd) (λ_=> .ok .normal) (λx _ rest tr tm h nx=>c6q P hs x ih cx tr tm h nx rest) l
def b0p (ops:List Oper)(ih:Ih)(cx:Cx):Kt:=ifS (d1n P cx.n ops) (λ_ _ _=> .no) λl=>d1v P hs ih cx l []
def c7h (ops:List Oper)(ih:Ih)(cx:Cx):Kt:=b4o P hs ih cx (ops.map (qT P cx.n ops))
def d2e (a b:Code)(ih:Ih)(cx:Cx)(tm:Tm)(h:Hp)(nx:Id):Res:=ifR (ih cx a tm h nx) .no (andThen (ih cx b))
def b0n (c:Operand)(a b:Code)(ih:Ih)(cx:Cx)(tm:Tm)(h:Hp)(nx:Id):Res:=match evO tm c with
  | .b x=>Bool.rec (motive:=λ_=>Res) (ih cx b tm h nx) (ih cx a tm h nx) x
  |_=> .no
def c2k (id:Nat)(c:Code)(ih:Ih)(cx:Cx)(tm:Tm)(h:Hp)(nx:Id):Res:=ifR (ih cx c tm h nx) .no (blk id)
def c7g (c:Code)(ih:Ih)(cx:Cx)(tm:Tm)(h:Hp)(nx:Id):Res:=ifR (ih cx c tm h nx) .no (andThen (ih cx (.loop c)))
def c2w (l:Id)(tm:Tm)(_:V)(h:Hp)(nx:Id):Res:=match geH h l with
  |some (.lp _ _ _ _ 0 none _)=>stH h l none λh=> .ok .normal tm h nx
  |some (.lp _ _ _ _ 2 (some e) _)=>stH h l none λh=> .ok e tm h nx
  |_=> .no
def roB (ro:Option Id)(h:Hp):Bool:=match ro with
  |none=>true
  |some r=>match geH h r with
    |some (.lp _ _ _ _ _ _ _)=>true
    |_=>false
def d2c (f:Operand)(ps:List Nat)(a b:Code)(ih:Ih)(cx:Cx)(tm:Tm)(h:Hp)(nx:Id):Res:=match evO tm f with
  | .f g fs cs=>bif ltL ps cx.n&&roB cx.ro h then stH h nx (some (.lp tm ps a b 0 none (cx.g,cx.n))) λh=>nxI nx .no λnx'=>gA P hs ih cx.lm g (eH fs (.y nx::cs)) h nx' (c2w nx tm)else .no
  |_=> .no
def d1m (e:Ex)(_:Ih)(_:Cx):Kt:= .ok e
def d2d (c:Code)(ih:Ih)(cx:Cx):Kt:=ih cx c
def c7f (_:Ih)(_:Cx)(_:Tm)(_:Hp)(_:Id):Res:= .no
def lJ:Code->List Nat
  | .region _ ops _=>ops.toList.filterMap (·.dst)
  | .seq a b=>lJ a++lJ b
  | .cond _ a b=>lJ a++lJ b
  | .block _ c=>lJ c
  | .loop c=>lJ c
  | .scope c=>lJ c
  |_=>[]
structure Mr where
  it:Nat
  n:Nat
  k:Nat
  b:Nat
  rest:Code
def mrO:Code->Option Mr
  | .seq (.region _ ops false) (.seq (.cond (.tmp k) .skip (.exit b)) rest)=>match ops.toList with
    |[⟨some n,.next (.tmp it) false,_,_,_,none⟩,⟨some k',.extract (.tmp n') 0,_,_,_,none⟩]=>bif Nat.beq n n'&&(Nat.beq k k'&& !Nat.beq n k)then some ⟨it,n,k,b,rest⟩else none
    |_=>none
  |_=>none
def c7x (g it:Nat):List Ht->Option Ht
  |[]=>none
  |x::l=>bif Nat.beq x.g g&&Nat.beq x.it it then some x else c7x g it l
def way (h:Hp)(v:V):List Nat->Option Id
  |[]=>match v with
    | .m id=>some id
    | .s id ..=>some id
    | .p id _=>some id
    |_=>none
  |o::l=>match v with
    | .p id off=>match geH h id with
      |some (.c cs)=>match nth cs (Nat.add off o)with
        |some v=>way h v l
        |none=>none
      |_=>none
    |_=>none
def d8e (tm:Tm)(h:Hp):List (Nat×List Nat)->Option (List Id)
  |[]=>some []
  |p::l=>match way h (rdT p.1 tm) p.2,d8e tm h l with
    |some id,some r=>some (id::r)
    |_,_=>none
def unS (l:List Nat)(tm:Tm)(K:Tm->Res):Res:=List.rec (motive:=λ_=>Tm->Res) K (λs _ ih tm=>wtT s .un tm ih) l tm
def d1g (l:List Nat)(tm:Tm)(K:Tm->Res):Res:=List.rec (motive:=λ_=>Tm->Res) K (λs _ ih tm=>wtT s (.w s 0) tm ih) l tm
def a8i (mid:Id)(l:List Id)(h:Hp)(K:Hp->Res):Res:=match l with
  |[]=>K h
  |id::l=>bif gH id mid then a8i mid l h K else match geH h id with
    |some (.m ag _ _)=>stH h id (some (.lg ag [])) λh=>a8i mid l h K
    |some (.c cs)=>stH h id (some (.lc (nQ cs) [])) λh=>a8i mid l h K
    |_=> .no
inductive Lg
  |m (ag:Nat) (l:List (List Int×Option V))
  |c (l:List (Nat×V))
  |d (there:Bool)
def c3p (h:Hp)(mid:Id)(ag:Nat)(k:List Int)(nx:Id):List Id->Option (List Lg)
  |[]=>some []
  |id::l=>match geH h id,c3p h mid ag k nx l with
    |some (.lg a x),some r=>bif gH id mid then none else some (.m a x::r)
    |some (.lc _ x),some r=>bif gH id mid then none else some (.c x::r)
    |some (.dl a k' _ th g),some r=>bif gH id mid&&(Nat.beq a ag&&(kq k' k&&gH g nx))then some (.d th::r)else none
    |_,_=>none
def c1y (tm:Tm):List Nat->Option (List Int)
  |[]=>some []
  |s::l=>match rdT s tm,c1y tm l with
    | .w s' c,some r=>bif Nat.beq s s' then some (c::r)else none
    |_,_=>none
def c3t (k:List Int):List (List Int)->Bool
  |[]=>false
  |x::l=>bif kq k x then true else c3t k l
def b7p:V->Bool
  | .i _ _=>true
  | .b _=>true
  | .z _=>true
  |_=>false
def b1n:V->Bool
  | .a cs=>cs.all b7p
  |v=>b7p v
def d2u:Option V->Bool
  |some v=>b1n v
  |none=>true
def yI:Lg->Bool
  | .m _ l=>l.all λe=>d2u e.2
  | .c l=>l.all λe=>b1n e.2
  | .d _=>true
def oU (ih:Ih)(cx:Cx)(mr:Mr)(ag:Nat)(es:Es)(iid mid:Id)(ids:List Id)(acc:List Nat)(tm:Tm)(h:Hp)(nx nx':Id)(k:List Int)(v:V)(K:List Int->List Lg->Id->Res):Res:=
  stH h iid (some (.it mid nx)) λh=>stH h mid (some (bif bN mid ids then .dl ag k v true nx else .m ag es (some (nx,some k)))) λh=>
  wtT mr.n (.t [.b true,eN ag k,v]) tm λtm=>wtT mr.k (.b true) tm λtm=>
  ifR (ih ⟨⟨some nx'.num,[]⟩,cx.g,cx.n,cx.ro⟩ mr.rest tm h nx') .no λe tm h ne=>match e with
    | .normal=>match c1y tm acc,c3p h mid ag k nx ids with
      |some cs,some ls=>bif ls.all yI then K cs ls ne else .no
      |_,_=> .no
    |_=> .no
def a7i:List Int->List Int->List Int
  |x::l,y::m=>Int.add x y::a7i l m
  |_,_=>[]
def mxI (a b:Id):Id:=bif Nat.blt a.num b.num then b else a
def lD (one:List Int->V->(List Int->List Lg->Id->Res)->Res)(es:Es)(cs:List Int)(lss:List (List Int×List Lg))(mx:Id)(K:List Int->List (List Int×List Lg)->Id->Res):Res:=
  List.rec (motive:=λ_=>List Int->List (List Int×List Lg)->Id->Res) K (λe _ ih cs lss mx=>one e.1 e.2 λc l n=>ih (a7i cs c) ((e.1,l)::lss) (mxI mx n)) es cs lss mx
def apM (l:List (List Int×Option V))(es:Es):Es:=List.rec (motive:=λ_=>Es) es (λe _ ih=>ifS e.2 (del e.1 ih) λv=>upd e.1 v ih) l
def c7b (lss:List (List (List Int×Option V)))(seen:List (List Int))(es:Es):Option Es:=match lss with
  |[]=>some es
  |l::r=>bif l.any λe=>c3t e.1 seen then none else c7b r (l.map (·.1)++seen) (apM l es)
def c6v (l:List V)(n:Nat)(x:V):List V:=List.rec (motive:=λ_=>Nat->List V) (λ_=>[]) (λy l ih n=>Nat.rec (motive:=λ_=>List V) (x::l) (λp _=>y::ih p) n) l n
def apC (l:List (Nat×V))(cs:List V):List V:=List.rec (motive:=λ_=>List V) cs (λe _ ih=>c6v ih e.1 e.2) l
def d1j (lss:List (List (Nat×V)))(seen:List Nat)(cs:List V):Option (List V):=match lss with
  |[]=>some cs
  |l::r=>bif l.any λe=>lN e.1 seen then none else d1j r (l.map (·.1)++seen) (apC l cs)
def lgM (ag:Nat):List Lg->Option (List (List (List Int×Option V)))
  |[]=>some []
  | .m a l::r=>bif Nat.beq a ag then(lgM ag r).map (l:: ·)else none
  |_::_=>none
def lgC:List Lg->Option (List (List (Nat×V)))
  |[]=>some []
  | .c l::r=>(lgC r).map (l:: ·)
  |_::_=>none
def lgD (lss:List (List Int×Lg))(es:Es):Option Es:=match lss with
  |[]=>some es
  |(k,.d th)::r=>lgD r (bif th then es else del k es)
  |_::_=>none
def uO (j:Nat)(lss:List (List Int×List Lg)):Option (List (List Int×Lg)):=match lss with
  |[]=>some []
  |(k,l)::r=>match nth l j,uO j r with
    |some x,some m=>some ((k,x)::m)
    |_,_=>none
def apO (o:O)(l:List (List Int×Lg)):Option O:=match o with
  | .m ag es _=>match l with
    |(_,.d _)::_=>(lgD l es).map λes=> .m ag es none
    |_=>match lgM ag (l.map (·.2))with
      |some lss=>(c7b lss [] es).map λes=> .m ag es none
      |none=>none
  | .c cs=>match lgC (l.map (·.2))with
    |some lss=>(d1j lss [] cs).map λcs=> .c cs
    |none=>none
  |_=>none
def pF (ids:List Id)(j:Nat)(lss:List (List Int×List Lg))(h0 h:Hp)(K:Hp->Res):Res:=match ids with
  |[]=>K h
  |id::r=>match geH h0 id,uO j lss with
    |some o,some l=>match apO o l with
      |some o=>stH h id (some o) λh=>pF r (Nat.succ j) lss h0 h K
      |none=> .no
    |_,_=> .no
def d1h (tm:Tm):List Nat->Option (List Int)
  |[]=>some []
  |s::l=>match rdT s tm,d1h tm l with
    | .i .i64 n,some r=>bif inR .i64 n then some (n::r)else none
    |_,_=>none
def a9p (l:List Nat)(ns cs:List Int)(tm:Tm)(K:Tm->Res):Res:=match l,ns,cs with
  |[],[],[]=>K tm
  |s::l,n::ns,c::cs=>fI (Int.add n c) λx=>bif inR .i64 x then wtT s (.i .i64 x) tm λtm=>a9p l ns cs tm K else .no
  |_,_,_=> .no
def oE:List Nat->List Int
  |[]=>[]
  |_::l=>0::oE l
def c8v:List Id->Bool
  |[]=>true
  |x::l=> !bN x l&&c8v l
def b0o (mr:Mr)(ih:Ih)(cx:Cx)(tm:Tm)(h:Hp)(nx:Id):Res:=
  match c7x cx.g mr.it hs.l,cx.lm.fl,rdT mr.it tm with
  |some ht,none,.p iid 0=>match geH h iid with
    |some (.it mid g)=>match geH h mid,d8e tm h ht.lg,d1h tm ht.acc with
      |some (.m ag es (some (g',none))),some ids,some ns=>bif gH g iid&&(gH g' iid&&(c8v ids&&(c8w ht.acc&&ht.acc.all λs=>lN s (mr.n::mr.k::lJ mr.rest)&& !lN s [mr.n,mr.k])))&&((iid::ids).all (λid=> !bN id cx.lm.pr)&& !bN iid ids&&(!gH iid mid&&(!lN mr.it (mr.n::mr.k::lJ mr.rest)&&ltL (mr.n::mr.k::lJ mr.rest) cx.n)))then
          unS (mr.n::mr.k::lJ mr.rest) tm λtm1=>d1g ht.acc tm1 λtm1=>a8i mid ids h λh1=>nxI nx .no λnx'=>
          lD (oU ih cx mr ag es iid mid ids ht.acc tm1 h1 nx nx') es (oE ht.acc) [] nx' λcs lss nf=>
          a9p ht.acc ns cs tm1 λtm2=>stH h1 iid none λh2=>pF ids 0 lss h h2 λh3=> .ok (.exit mr.b) tm2 h3 nf else .no
      |_,_,_=> .no
    |_=> .no
  |_,_,_=> .no
structure Wc where
  f:Ih->Cx->Kt
def d2g (c:Code):Wc:=match c with
  | .skip=>⟨d1m .normal⟩
  | .region _ ops false=>⟨c7h P hs ops.toList⟩
  | .region _ ops true=>⟨b0p P hs ops.toList⟩
  | .seq a b=>⟨d2e a b⟩
  | .cond c a b=>⟨b0n c a b⟩
  | .block id c=>⟨c2k id c⟩
  | .loop c=>match mrO c with
    |some mr=>⟨b0o hs mr⟩
    |none=>⟨c7g c⟩
  | .rangeFunc f ps a b=>⟨d2c P hs f ps.toList a b⟩
  | .exit id=>⟨d1m (.exit id)⟩
  | .scope c=>⟨d2d c⟩
  | .label _=>⟨d1m .normal⟩
  | .goto _=>⟨c7f⟩
  | .ret=>⟨d1m .ret⟩
  | .refuse _=>⟨c7f⟩
def b9q (ih:Ih)(cx:Cx)(c:Code):Kt:=Wc.rec (motive:=λ_=>Kt) (λf=>f ih cx) (d2g P hs c)
def run (n:Nat):Ih:=Nat.rec (motive:=λ_=>Ih) (λ_ _ _ _ _=> .no) (λ_ ih=>b9q P hs ih) n
end
theorem D8.num_lt (d:D8):d.num<8:=by cases d<;>decide
theorem D8.num_inj {c d:D8}(h:c.num=d.num):c=d:=by cases c<;>cases d<;>first|rfl|exact absurd h (by decide)
theorem b1a {n:Nat}(h:n<8):(dig n).num=n:=by
 match n,h with
 |0,_|1,_|2,_|3,_|4,_|5,_|6,_|7,_=>rfl
section
variable {α β:Type}
def b3s (d:D8)(x:N8 α)(y:α):N8 α:=match d with
  | .o0=>{x with a:=y}| .o1=>{x with b:=y}| .o2=>{x with c:=y}| .o3=>{x with d:=y}
  | .o4=>{x with e:=y}| .o5=>{x with f:=y}| .o6=>{x with g:=y}| .o7=>{x with h:=y}
theorem c0n (d:D8)(x:N8 α)(go:α->(α->β)->β)(K:N8 α->β):foD d x go K=go (geD d x) λy=>K (b3s d x y):=by cases d<;>rfl
theorem dC (d:D8)(x:N8 α)(y:α):geD d (b3s d x y)=y:=by cases d<;>rfl
theorem cY {c d:D8}(h:c≠d)(x:N8 α)(y:α):geD c (b3s d x y)=geD c x:=by cases c<;>cases d<;>first|rfl|exact absurd rfl h
theorem a3n (d:D8):(d1w d:Sel α)=⟨geD d⟩:=by cases d<;>rfl
theorem a2h (d:D8):(d1q d:Foc α β)=⟨foD d⟩:=by cases d<;>rfl
theorem jM (d:D8)(K:D8->β)(c:β):(∃d':D8,nxD d K c=K d'/\d'.num=d.num+1)\/(nxD d K c=c/\d.num=7):=by
 cases d<;>first|exact .inl ⟨_,rfl,rfl⟩|exact .inr ⟨rfl,rfl⟩
end
theorem Id.num_eq (i:Id):i.num=i.e.num+8*(i.d.num+8*(i.c.num+8*(i.b.num+8*i.a.num))):=rfl
theorem Id.num_inj {i j:Id}(h:i.num=j.num):i=j:=by
 rw[Id.num_eq,Id.num_eq]at h
 have a:=i.a.num_lt;have b:=i.b.num_lt;have c:=i.c.num_lt;have d:=i.d.num_lt;have e:=i.e.num_lt
 have a':=j.a.num_lt;have b':=j.b.num_lt;have c':=j.c.num_lt;have d':=j.d.num_lt;have e':=j.e.num_lt
 have h1:i.a=j.a:=D8.num_inj (by omega)
 have h2:i.b=j.b:=D8.num_inj (by omega)
 have h3:i.c=j.c:=D8.num_inj (by omega)
 have h4:i.d=j.d:=D8.num_inj (by omega)
 have h5:i.e=j.e:=D8.num_inj (by omega)
 cases i;cases j;simp only at h1 h2 h3 h4 h5;subst h1 h2 h3 h4 h5;rfl
theorem bI {i j:Id}:gH i j=true↔i=j:=by
 constructor
 ·intro h;exact Id.num_inj (d9s h)
 ·rintro rfl;exact e3k _
instance:DecidableEq Id:=λi j=>if h:gH i j=true then isTrue (bI.1 h)else isFalse λe=>h (bI.2 e)
theorem dS {i j:Id}:gH i j=false↔i≠j:=by rw[<-e5e,bI]
theorem fK {β:Type}(i:Id)(bad:β)(K:Id->β):nxI i bad K=bad\/∃j:Id,nxI i bad K=K j/\j.num=i.num+1:=by
 obtain⟨a,b,c,d,e⟩:=i
 simp only[nxI,Id.num_eq]
 rcases jM e (λe=>K ⟨a,b,c,d,e⟩) (nxD d (λd=>K ⟨a,b,c,d,.o0⟩) (nxD c (λc=>K ⟨a,b,c,.o0,.o0⟩) (nxD b (λb=>K ⟨a,b,.o0,.o0,.o0⟩) (nxD a (λa=>K ⟨a,.o0,.o0,.o0,.o0⟩) bad))))with⟨x,h,hx⟩|⟨h,he⟩
 ·exact .inr ⟨_,h,by simp only;omega⟩
 ·rw[h]
  rcases jM d (λd=>K ⟨a,b,c,d,.o0⟩) (nxD c (λc=>K ⟨a,b,c,.o0,.o0⟩) (nxD b (λb=>K ⟨a,b,.o0,.o0,.o0⟩) (nxD a (λa=>K ⟨a,.o0,.o0,.o0,.o0⟩) bad)))with⟨x,h,hx⟩|⟨h,hd⟩
  ·refine .inr ⟨_,h,?_⟩
   show 0+8*(x.num+8*(c.num+8*(b.num+8*a.num)))=_
   omega
  ·rw[h]
   rcases jM c (λc=>K ⟨a,b,c,.o0,.o0⟩) (nxD b (λb=>K ⟨a,b,.o0,.o0,.o0⟩) (nxD a (λa=>K ⟨a,.o0,.o0,.o0,.o0⟩) bad))with⟨x,h,hx⟩|⟨h,hc⟩
   ·refine .inr ⟨_,h,?_⟩
    show 0+8*(0+8*(x.num+8*(b.num+8*a.num)))=_
    omega
   ·rw[h]
    rcases jM b (λb=>K ⟨a,b,.o0,.o0,.o0⟩) (nxD a (λa=>K ⟨a,.o0,.o0,.o0,.o0⟩) bad)with⟨x,h,hx⟩|⟨h,hb⟩
    ·refine .inr ⟨_,h,?_⟩
     show 0+8*(0+8*(0+8*(x.num+8*a.num)))=_
     omega
    ·rw[h]
     rcases jM a (λa=>K ⟨a,.o0,.o0,.o0,.o0⟩) bad with⟨x,h,hx⟩|⟨h,ha⟩
     ·refine .inr ⟨_,h,?_⟩
      show 0+8*(0+8*(0+8*(0+8*x.num)))=_
      omega
     ·exact .inl h
def d1 (n:Nat):D8:=dig (n/64)
def d2 (n:Nat):D8:=dig (n/8 %8)
def d3 (n:Nat):D8:=dig (n %8)
def stT (n:Nat)(v:V)(tm:Tm):Tm:=b3s (d1 n) tm (b3s (d2 n) (geD (d1 n) tm) (b3s (d3 n) (geD (d2 n) (geD (d1 n) tm)) v))
theorem lF {β:Type}(n:Nat)(v:V)(tm:Tm)(K:Tm->β):wtT n v tm K=K (stT n v tm):=by
 have e1:=a2h (α:=N8 (N8 V)) (β:=β) (dig (n.div 64))
 have e2:=a2h (α:=N8 V) (β:=β) (dig ((n.div 8).mod 8))
 have e3:=a2h (α:=V) (β:=β) (dig (n.mod 8))
 simp only[wtT,wtW,e1,e2,e3,c0n]
 rfl
theorem a5y {n:Nat}(h:n<512)(tm:Tm):rdT n tm=geD (d3 n) (geD (d2 n) (geD (d1 n) tm)):=by
 have e1:=a3n (α:=N8 (N8 V)) (dig (n.div 64))
 have e2:=a3n (α:=N8 V) (dig ((n.div 8).mod 8))
 have e3:=a3n (α:=V) (dig (n.mod 8))
 have e0:Nat.blt 511 n=false:=by
  cases hb:Nat.blt 511 n with
  |false=>rfl
  |true=>have:=e1n hb;omega
 simp only[rdT,rdW,e0,e1,e2,e3,e2n]
 rfl
theorem a5z {n:Nat}(h:512<=n)(tm:Tm):rdT n tm= .un:=by
 have e0:Nat.blt 511 n=true:=e4c h
 simp only[rdT,rdW,e0,e0q]
theorem d2h {m n:Nat}(hm:m<512)(hn:n<512)(h1:d1 m=d1 n)(h2:d2 m=d2 n)(h3:d3 m=d3 n):m=n:=by
 have a1:=e2r D8.num h1;have a2:=e2r D8.num h2;have a3:=e2r D8.num h3
 simp only[d1,d2,d3]at a1 a2 a3
 rw[b1a (by omega),b1a (by omega)]at a1 a2 a3
 omega
theorem sC {n:Nat}(h:n<512)(v:V)(tm:Tm):rdT n (stT n v tm)=v:=by
 rw[a5y h,stT,dC,dC,dC]
theorem iS {m n:Nat}(hn:n<512)(h:m≠n)(v:V)(tm:Tm):rdT m (stT n v tm)=rdT m tm:=by
 by_cases hm:m<512
 ·rw[a5y hm,a5y hm,stT]
  by_cases e1:d1 m=d1 n
  ·rw[e1,dC]
   by_cases e2:d2 m=d2 n
   ·rw[e2,dC,cY λe3=>h (d2h hm hn e1 e2 e3)]
   ·rw[cY e2]
  ·rw[cY e1]
 ·rw[a5z (by omega),a5z (by omega)]
theorem c9n {n:Nat}(h:n<512):rdT n tm0= .t []:=by
 rw[a5y h]
 have e:∀{α:Type} (d:D8) (x:α),geD d (N8.all x)=x:=λd x=>by cases d<;>rfl
 simp only[tm0,e]
def eK (h:Hp)(i:Id)(o:Option O):Hp:=
  b3s i.a h (b3s i.b (geD i.a h) (b3s i.c (geD i.b (geD i.a h)) (b3s i.d (geD i.c (geD i.b (geD i.a h))) (b3s i.e (geD i.d (geD i.c (geD i.b (geD i.a h)))) o))))
theorem dH {β:Type}(h:Hp)(i:Id)(o:Option O)(K:Hp->β):stH h i o K=K (eK h i o):=by
 obtain⟨a,b,c,d,e⟩:=i
 simp only[stH,c0n,eK]
theorem a4y (h:Hp)(i:Id):geH h i=geD i.e (geD i.d (geD i.c (geD i.b (geD i.a h)))):=rfl
theorem vS (h:Hp)(i:Id)(o:Option O):geH (eK h i o) i=o:=by
 rw[a4y,eK,dC,dC,dC,dC,dC]
theorem fU (h:Hp){i j:Id}(hn:j≠i)(o:Option O):geH (eK h i o) j=geH h j:=by
 rw[a4y,a4y,eK]
 by_cases e1:j.a=i.a
 ·rw[e1,dC]
  by_cases e2:j.b=i.b
  ·rw[e2,dC]
   by_cases e3:j.c=i.c
   ·rw[e3,dC]
    by_cases e4:j.d=i.d
    ·rw[e4,dC]
     by_cases e5:j.e=i.e
     ·exact absurd (by cases i;cases j;simp only at e1 e2 e3 e4 e5;subst e1 e2 e3 e4 e5;rfl) hn
     ·rw[cY e5]
    ·rw[cY e4]
   ·rw[cY e3]
  ·rw[cY e2]
 ·rw[cY e1]
theorem a8c (h:Hp)(i j:Id)(o:Option O):geH (eK h i o) j=if j=i then o else geH h j:=by
 split
 ·rename_i e;rw[e,vS]
 ·rename_i e;exact fU h e o
theorem b1z (i:Id):geH hp0 i=none:=by
 have e:∀{α:Type} (d:D8) (x:α),geD d (N8.all x)=x:=λd x=>by cases d<;>rfl
 simp only[a4y,hp0,e]
theorem fE {β:Type}(m:Nat)(K:Nat->β):fN m K=K m:=by cases m<;>rfl
theorem a2c {β:Type}(n:Int)(K:Int->β):fI n K=K n:=by
 cases n with
 |ofNat m=>exact fE m λm=>K (.ofNat m)
 |negSucc m=>exact fE m λm=>K (.negSucc m)
theorem yM {β:Type}(o:O)(K:O->β):ifO o K=K o:=by cases o<;>rfl
inductive Ac
  |ret (v:V)
  |set (v:V) (id:Id) (o:O)
  |new (v:V) (o:O)
  |mov (v:V) (id:Id) (o:O)
  |gst (v:V) (id:Id) (o:O)
  |rng (v:V) (o:O) (id:Id) (o':O)
def Ac.v:Ac->V
  | .ret v| .set v _ _| .new v _| .mov v _ _| .gst v _ _| .rng v _ _ _=>v
abbrev Hf:=Id->Option O
def goF (hp:Hf):Rq->Option (List Id×Ac)
  | .ret v=>some ([],.ret v)
  | .set v i o=>some ([],.set v i o)
  | .new v o=>some ([],.new v o)
  | .mov v i o=>some ([],.mov v i o)
  | .gst v i o=>some ([],.gst v i o)
  | .rng v o i o'=>some ([],.rng v o i o')
  | .ask i k=>match hp i with
    |some o=>(goF hp (k o)).map λp=>(i::p.1,p.2)
    |none=>none
  | .no=>none
inductive Ap (fl:Lm) (h:Hp) (nx:Id):Ac->Hp->Id->Prop
  |ret {v:V}:Ap fl h nx (.ret v) h nx
  |set {v:V} {i:Id} {o:O} (m:may fl h nx i=true):Ap fl h nx (.set v i o) (eK h i (some o)) nx
  |new {v:V} {o:O} {n':Id} (n:n'.num=nx.num+1):Ap fl h nx (.new v o) (eK h nx (some o)) n'
  |mov {v:V} {i:Id} {o:O} {n':Id} (m:may fl h nx i=true) (n:n'.num=nx.num+1):Ap fl h nx (.mov v i o) (eK (eK h i none) nx (some o)) n'
  |gst {v:V} {i:Id} {o:O} {n':Id} (m:may fl h nx i=true) (n:n'.num=nx.num+1):Ap fl h nx (.gst v i o) (eK h i (some o)) n'
  |rng {v:V} {o:O} {i:Id} {o':O} {n':Id} (m:may fl h nx i=true) (n:n'.num=nx.num+1):Ap fl h nx (.rng v o i o') (eK (eK h nx (some o)) i (some o')) n'
theorem rF {β:Type}{fl:Lm}{h:Hp}{nx:Id}{K:V->Hp->Id->β}{bad:β}(r:Rq):
  goR fl h nx K bad r=bad\/∃l ac h' nx',goF (geH h) r=some (l,ac)/\Ap fl h nx ac h' nx'/\goR fl h nx K bad r=K ac.v h' nx':=by
 induction r with
 |ret v=>exact .inr ⟨[],_,h,nx,rfl,.ret,rfl⟩
 |set v i o=>
  have e:goR fl h nx K bad (.set v i o)=bif may fl h nx i then K v (eK h i (some o)) nx else bad:=by
   show c3f fl h nx K bad v i o=_
   simp only[c3f,yM,dH]
  rw[e]
  cases hm:may fl h nx i with
  |true=>exact .inr ⟨[],_,_,_,rfl,.set hm,rfl⟩
  |false=>exact .inl rfl
 |new v o=>
  have e:goR fl h nx K bad (.new v o)=nxI nx bad λnx'=>K v (eK h nx (some o)) nx':=by
   show c3d fl h nx K bad v o=_
   simp only[c3d,yM,dH]
  rw[e]
  rcases fK nx bad (λnx'=>K v (eK h nx (some o)) nx')with h1|⟨j,h1,h2⟩
  ·exact .inl h1
  ·exact .inr ⟨[],_,_,_,rfl,.new h2,h1⟩
 |mov v i o=>
  have e:goR fl h nx K bad (.mov v i o)=bif may fl h nx i then nxI nx bad λnx'=>K v (eK (eK h i none) nx (some o)) nx' else bad:=by
   show c3c fl h nx K bad v i o=_
   simp only[c3c,yM,dH]
  rw[e]
  cases hm:may fl h nx i with
  |false=>exact .inl rfl
  |true=>
   rcases fK nx bad (λnx'=>K v (eK (eK h i none) nx (some o)) nx')with h1|⟨j,h1,h2⟩
   ·exact .inl h1
   ·exact .inr ⟨[],_,_,_,rfl,.mov hm h2,h1⟩
 |gst v i o=>
  have e:goR fl h nx K bad (.gst v i o)=bif may fl h nx i then nxI nx bad λnx'=>K v (eK h i (some o)) nx' else bad:=by
   show c3b fl h nx K bad v i o=_
   simp only[c3b,yM,dH]
  rw[e]
  cases hm:may fl h nx i with
  |false=>exact .inl rfl
  |true=>
   rcases fK nx bad (λnx'=>K v (eK h i (some o)) nx')with h1|⟨j,h1,h2⟩
   ·exact .inl h1
   ·exact .inr ⟨[],_,_,_,rfl,.gst hm h2,h1⟩
 |rng v o i o'=>
  have e:goR fl h nx K bad (.rng v o i o')=bif may fl h nx i then nxI nx bad λnx'=>K v (eK (eK h nx (some o)) i (some o')) nx' else bad:=by
   show c3e fl h nx K bad v o i o'=_
   simp only[c3e,yM,dH]
  rw[e]
  cases hm:may fl h nx i with
  |false=>exact .inl rfl
  |true=>
   rcases fK nx bad (λnx'=>K v (eK (eK h nx (some o)) i (some o')) nx')with h1|⟨j,h1,h2⟩
   ·exact .inl h1
   ·exact .inr ⟨[],_,_,_,rfl,.rng hm h2,h1⟩
 |ask i k ih=>
  have e:goR fl h nx K bad (.ask i k)=ifS (geH h i) bad λo=>goR fl h nx K bad (k o):=rfl
  rw[e]
  cases ho:geH h i with
  |none=>exact .inl rfl
  |some o=>
   rcases ih o with h1|⟨l,ac,h',nx',h1,h2,h3⟩
   ·exact .inl h1
   ·exact .inr ⟨i::l,ac,h',nx',by simp only[goF,ho,h1,e1y],h2,h3⟩
 |no=>exact .inl rfl
theorem b2a {hp hp2:Hf}:∀{r:Rq} {l:List Id} {ac:Ac},goF hp r=some (l,ac)->(∀i,i∈l->hp2 i=hp i)->goF hp2 r=some (l,ac):=by
 intro r
 induction r with
 |ask i k ih=>
  intro l ac h hl
  simp only[goF]at h⊢
  split at h
  ·rename_i o ho
   simp only[e0u]at h
   obtain⟨⟨l',ac'⟩,h1,h2⟩:=h
   cases h2
   rw[hl i (d9y ..),ho]
   simp only[ih o h1 λj hj=>hl j (d9v _ hj),e1y]
  ·cases h
 |_=>intro l ac h _;exact h
set_option linter.unusedVariables false
open Go.Px (KT aJ KeyOk EqT eL)
def cU:Nat->KT
  |0=>⟨false,1,false⟩
  |n+1=>⟨true,n,false⟩
structure Lc where
  b:Nat
  o:Nat
  n:Nat
  it:Obj
  mp:Obj
abbrev Rh:=Id->Option Lc
structure Vl where
  X:Nat->Option Int
  B:Id->Option Es
  C:Id->Option (List V)
def Vl.z:Vl:=⟨λ_=>none,λ_=>none,λ_=>none⟩
section
variable (E:Vl) (ρ:Rh)
mutual
def RV:V->Value->Prop
  | .i k n,u=>u= .int k n
  | .b x,u=>u= .bool x
  | .z v,u=>u=v/\a3u v=true
  | .p id off,u=>∃l,ρ id=some l/\u= .pointer (some ⟨l.b,l.o+off,none⟩)
  | .s id off len cap ex,u=>∃l c a,ρ id=some l/\u= .slice (some ⟨l.b,a,none⟩) len c/\cap<=c/\len<=cap/\(ex=0->c=cap)/\(c≠0->a=l.o+off)/\(ex≠0->a+c*ex<=l.n)
  | .m id,u=>∃l,ρ id=some l/\u= .map (some l.b)
  | .f g fs cs,u=>∃a c,u= .func (.func g) a c/\RVs fs a.toList/\RVs cs c.toList
  | .y id,u=>∃l,ρ id=some l/\u= .func (.yield l.b) #[] #[]
  | .a cs,u=>∃us,u= .agg us/\RVs cs us.toList/\∀w∈us.toList,w.oneCell'=true
  | .t cs,u=>∃us,u= .tuple us/\RVs cs us.toList
  | .q id,u=>∃l,ρ id=some l/\u= .int .i64 l.b
  | .w s c,u=>∃x,E.X s=some x/\u= .int .i64 (IntKind.i64.wrap (x+c))
  | .e t id,u=>∃l,ρ id=some l/\u= .iface t (.map (some l.b))
  | .un,_=>True
def RVs:List V->List Value->Prop
  |[],us=>us=[]
  |v::l,us=>∃u r,us=u::r/\RV v u/\RVs l r
end
end
variable {E:Vl} {ρ ρ':Rh}
def Le (ρ ρ':Rh):Prop:=∀id l,ρ id=some l->ρ' id=some l
theorem Le.refl (ρ:Rh):Le ρ ρ:=λ_ _ h=>h
abbrev _root_.e7n:=@Le.refl
theorem Le.trans {a b c:Rh}(h:Le a b)(k:Le b c):Le a c:=λi l hi=>k i l (h i l hi)
mutual
theorem RV.le (h:Le ρ ρ'):∀{v:V} {u:Value},RV E ρ v u->RV E ρ' v u
 | .i k n,_,hv=>hv
 | .b x,_,hv=>hv
 | .z v,_,hv=>hv
 | .p id off,_,⟨l,h1,h2⟩=>⟨l,h _ _ h1,h2⟩
 | .s id off len cap ex,_,⟨l,c,a,h1,h2⟩=>⟨l,c,a,h _ _ h1,h2⟩
 | .m id,_,⟨l,h1,h2⟩=>⟨l,h _ _ h1,h2⟩
 | .f g fs cs,_,⟨a,c,h1,h2,h3⟩=>⟨a,c,h1,RVs.le h h2,RVs.le h h3⟩
 | .y id,_,⟨l,h1,h2⟩=>⟨l,h _ _ h1,h2⟩
 | .a cs,_,⟨us,h1,h2,h3⟩=>⟨us,h1,RVs.le h h2,h3⟩
 | .t cs,_,⟨us,h1,h2⟩=>⟨us,h1,RVs.le h h2⟩
 | .q id,_,⟨l,h1,h2⟩=>⟨l,h _ _ h1,h2⟩
 | .w s c,_,hv=>hv
 | .e t id,_,⟨l,h1,h2⟩=>⟨l,h _ _ h1,h2⟩
 | .un,_,_=>trivial
theorem RVs.le (h:Le ρ ρ'):∀{l:List V} {us:List Value},RVs E ρ l us->RVs E ρ' l us
 |[],_,hv=>hv
 |_::_,_,⟨u,r,h1,h2,h3⟩=>⟨u,r,h1,RV.le h h2,RVs.le h h3⟩
end
theorem RVs.length:∀{l:List V} {us:List Value},RVs E ρ l us->us.length=l.length
 |[],_,h=>by cases h;rfl
 |_::_,_,⟨u,r,h1,_,h3⟩=>by subst h1;simp[RVs.length h3]
theorem RVs.get:∀{l:List V} {us:List Value},RVs E ρ l us->∀{j:Nat} {x:V},l[j]?=some x->∃u,us[j]?=some u/\RV E ρ x u
 |[],_,_,j,x,h=>by simp at h
 |v::l,_,⟨u,r,h1,h2,h3⟩,0,x,h=>by subst h1;simp at h;subst h;exact⟨u,rfl,h2⟩
 |v::l,_,⟨u,r,h1,h2,h3⟩,j+1,x,h=>by subst h1;simpa using RVs.get h3 (by simpa using h)
theorem RVs.of_get:∀{l:List V} {us:List Value},us.length=l.length->(∀(j:Nat) (x:V),l[j]?=some x->∃u,us[j]?=some u/\RV E ρ x u)->RVs E ρ l us
 |[],us,hl,_=>e3e.1 hl
 |v::l,[],hl,_=>by simp at hl
 |v::l,u::r,hl,h=>by
  obtain⟨u',h1,h2⟩:=h 0 v rfl
  simp at h1;subst h1
  exact⟨u,r,rfl,h2,RVs.of_get (by simpa using hl) λj x hx=>by simpa using h (j+1) x (by simpa using hx)⟩
theorem RVs.app:∀{l m:List V} {us vs:List Value},RVs E ρ l us->RVs E ρ m vs->RVs E ρ (l++m) (us++vs)
 |[],m,_,_,h,k=>by cases h;exact k
 |v::l,m,_,_,⟨u,r,h1,h2,h3⟩,k=>by subst h1;exact⟨u,r++_,rfl,h2,h3.app k⟩
def d7e:V->Bool
  | .a _| .t _| .un=>false
  |_=>true
theorem RV.one {v:V}{u:Value}(h:RV E ρ v u)(h1:d7e v=true):u.oneCell'=true:=by
 cases v with
 |i k n=>cases h;rfl
 |b x=>cases h;rfl
 |z v=>obtain⟨h1,h2⟩:=h;rw[h1];cases v<;>first|rfl|exact h2
 |p id off=>obtain⟨l,_,rfl⟩:=h;rfl
 |s id off len cap ex=>obtain⟨l,c,a,_,rfl,_⟩:=h;rfl
 |m id=>obtain⟨l,_,rfl⟩:=h;rfl
 |f g fs cs=>obtain⟨a,c,rfl,_⟩:=h;rfl
 |y id=>obtain⟨l,_,rfl⟩:=h;rfl
 |a cs=>cases h1
 |t cs=>cases h1
 |q id=>obtain⟨l,_,rfl⟩:=h;rfl
 |w s c=>obtain⟨x,_,rfl⟩:=h;rfl
 |e t id=>obtain⟨l,_,rfl⟩:=h;rfl
 |un=>cases h1
structure Mok (E:Vl)(ρ:Rh)(ag:Nat)(es:Es)(ents:Array MapEntry)(clock:Nat):Prop where
  kd:(es.map (·.1)).Nodup
  ent:∀e∈ents.toList,∃k v,(k,v)∈es/\k.length=(cU ag).n/\e.key=aJ (cU ag) k/\RV E ρ v e.val
  all:∀k v,(k,v)∈es->k.length=(cU ag).n/\∃e∈ents.toList,e.key=aJ (cU ag) k
  nd:(ents.toList.map (·.born)).Nodup
  lt:∀e∈ents.toList,e.born<clock
  kn:(ents.toList.map (·.key)).Nodup
theorem Mok.le {ag : Nat} {es : Es} {ents : Array MapEntry} {clock : Nat} (h : Mok E ρ ag es ents clock) (hl : Le ρ ρ') : Mok E ρ' ag es ents clock :=
  ⟨h.kd, fun e he => let ⟨k, v, h1, h2, h3, h4⟩ := h.ent e he; ⟨k, v, h1, h2, h3, h4.le hl⟩, h.all, h.nd, h.lt, h.kn⟩
def c1l:Nat->LoopState
  |0=> .ready
  |1=> .busy
  |_=> .done
def exC:Ex->Code
  | .normal=> .skip
  | .ret=> .ret
  | .exit id=> .exit id
structure RS (E:Vl)(ρ:Rh)(n:Nat)(tm:Tm)(tmps:Array Value):Prop where
  size:tmps.size=n
  le:n<=512
  get:∀t,t<512->RV E ρ (rdT t tm) (tmps.getD t undef)
theorem RS.mono {n:Nat}{tm:Tm}{tmps:Array Value}(h:RS E ρ n tm tmps)(hl:Le ρ ρ'):RS E ρ' n tm tmps:=⟨h.size,h.le,λt ht=>(h.get t ht).le hl⟩
def RC (E:Vl)(ρ:Rh)(W:World)(l:Lc)(cs:List V):Prop:=
  ∃c T,W.heap[l.b]?=some (Obj.cells c T (0,0))/\c.size=l.n/\l.o+cs.length<=l.n/\∀(j:Nat) (x:V),cs[j]?=some x->RV E ρ x (c.getD (l.o+j) undef)/\(c.getD (l.o+j) undef).oneCell'=true
def RM (E:Vl)(ρ:Rh)(W:World)(l:Lc)(ag:Nat)(es:Es)(op:Option (Id×Option (List Int))):Prop:=
  ∃ents clock,W.heap[l.b]?=some (Obj.map ents clock)/\Mok E ρ ag es ents clock/\
    ∀g k,op=some (g,k)->∃lg,ρ g=some lg/\lg.mp= .map ents clock/\∀k',k=some k'->lg.o=clock/\∃e∈ents.toList,e.born=lg.b/\e.key=aJ (cU ag) k'/\k'.length=(cU ag).n
def RO (E:Vl)(ρ:Rh)(W:World)(id:Id)(l:Lc):O->Prop
  | .c cs=>RC E ρ W l cs
  | .lc n lg=>∃cs,E.C id=some cs/\cs.length=n/\RC E ρ W l (apC lg cs)
  | .m ag es op=>RM E ρ W l ag es op
  | .lg ag lg=>∃es,E.B id=some es/\RM E ρ W l ag (apM lg es) none
  | .dl ag k v there g=>∃lg ents clock,ρ g=some lg/\lg.mp= .map ents clock/\lg.o=clock/\k.length=(cU ag).n/\∃(i:Nat) (e:MapEntry),ents[i]?=some e/\e.born=lg.b/\e.key=aJ (cU ag) k/\RV E ρ v e.val/\
      ∃es,E.B id=some es/\Mok E ρ ag es ents clock/\W.heap[l.b]?=some (.map (if there then ents else ents.eraseIdxIfInBounds i) clock)
  | .it m g=>∃lg lm,ρ g=some lg/\ρ m=some lm/\l.o=0/\
      ((g=id/\∃ents clock,lg.mp= .map ents clock/\W.heap[l.b]?=some (.mapIter (some lm.b) clock #[] clock))\/
       (g≠id/\W.heap[l.b]?=some lg.it/\∃(since:Nat) (seen:Array Nat),lg.it= .mapIter (some lm.b) since (seen.push lg.b) lg.o))
  | .lp tm ps a b st pend gn=>∃fn tmps D,W.heap[l.b]?=some (.loop {state:=c1l st,pending:=pend.map exC,fn,tmps,params:=ps.toArray,assign:=a,body:=b,defers:=D})/\RS E ρ gn.2 tm tmps
structure HR (E:Vl)(Ow:Nat->Prop)(ρ:Rh)(h:Hf)(Fr:Id->Prop)(W:World):Prop where
  obj:∀id o,h id=some o->∃l,ρ id=some l/\Ow l.b/\l.b<W.heap.size/\RO E ρ W id l o
  inj:∀i j li lj,h i≠none->h j≠none->ρ i=some li->ρ j=some lj->li.b=lj.b->i=j
  fr:∀id,Fr id->ρ id=none
  up:∀b,W.heap.size<=b->Ow b
structure Gr (Ow:Nat->Prop)(W W':World):Prop where
  os:W'.os=W.os
  tape:W'.tape=W.tape
  output:W'.output=W.output
  size:W.heap.size<=W'.heap.size
  block:∀b,b<W.heap.size->¬Ow b->W'.heap[b]?=W.heap[b]?
theorem Gr.refl (Ow:Nat->Prop)(W:World):Gr Ow W W:=⟨rfl,rfl,rfl,e0g _,λ_ _ _=>rfl⟩
theorem Gr.trans {Ow:Nat->Prop}{A B C:World}(h:Gr Ow A B)(k:Gr Ow B C):Gr Ow A C:=
 ⟨k.os.trans h.os,k.tape.trans h.tape,k.output.trans h.output,e2h h.size k.size,λb hb ho=>(k.block b (e1g hb h.size) ho).trans (h.block b hb ho)⟩
section
variable {W W':World} {id:Id} {l:Lc}
theorem RO.go {o:O}(h:RO E ρ W id l o)(hl:Le ρ ρ')(hb:W'.heap[l.b]?=W.heap[l.b]?):RO E ρ' W' id l o:=by
 have hrc:∀{cs},RC E ρ W l cs->RC E ρ' W' l cs:=λ⟨c,T,h1,h2,h3,h4⟩=>⟨c,T,hb.trans h1,h2,h3,λj x hj=>⟨(h4 j x hj).1.le hl,(h4 j x hj).2⟩⟩
 have hrm:∀{ag es op},RM E ρ W l ag es op->RM E ρ' W' l ag es op:=λ⟨en,cl,h1,h2,h3⟩=>⟨en,cl,hb.trans h1,h2.le hl,λg k hk=>let⟨lg,h4,h5⟩:=h3 g k hk;⟨lg,hl _ _ h4,h5⟩⟩
 cases o with
 |c cs=>exact hrc h
 |lc n lg=>obtain⟨cs,h0,h1,h2⟩:=h;exact⟨cs,h0,h1,hrc h2⟩
 |m ag es op=>exact hrm h
 |lg ag lg=>obtain⟨es,h0,h1⟩:=h;exact⟨es,h0,hrm h1⟩
 |dl ag k v there g=>
  obtain⟨lg,ents,clock,h1,h2,h3,h4,i,e,h5,h6,h7,h8,es,h0,h9,h10⟩:=h
  exact⟨lg,ents,clock,hl _ _ h1,h2,h3,h4,i,e,h5,h6,h7,h8.le hl,es,h0,h9.le hl,hb.trans h10⟩
 |it m g=>
  obtain⟨lg,lm,h1,h2,h3,h4⟩:=h
  exact⟨lg,lm,hl _ _ h1,hl _ _ h2,h3,h4.imp (λ⟨a,en,cl,b,c⟩=>⟨a,en,cl,b,hb.trans c⟩) λ⟨c,a,b⟩=>⟨c,hb.trans a,b⟩⟩
 |lp tm ps a b st pend gn=>
  obtain⟨fn,tmps,D,h1,h2⟩:=h
  exact⟨fn,tmps,D,hb.trans h1,h2.mono hl⟩
end
variable {Ow:Nat->Prop} {h:Hf} {Fr:Id->Prop} {W W':World}
theorem HR.weak {Ow' : Nat → Prop} (hh : HR E Ow ρ h Fr W) (ho : ∀ id l, h id ≠ none → ρ id = some l → Ow l.b → Ow' l.b) (hu : ∀ b, W.heap.size ≤ b → Ow' b) : HR E Ow' ρ h Fr W :=
  ⟨fun id o hi => let ⟨l, h1, h2, h3⟩ := hh.obj id o hi; ⟨l, h1, ho id l (by rw [hi]; simp) h1 h2, h3⟩, hh.inj, hh.fr, hu⟩
theorem HR.forget {h':Hf}(hh:HR E Ow ρ h Fr W)(hs:∀id o,h' id=some o->h id=some o):HR E Ow ρ h' Fr W:=
 ⟨λid o hi=>hh.obj id o (hs id o hi),λi j li lj hi hj=>hh.inj i j li lj (λe=>hi (by cases he:h' i with
  |none=>rfl
  |some o=>rw[hs i o he]at e;cases e)) (λe=>hj (by cases he:h' j with
  |none=>rfl
  |some o=>rw[hs j o he]at e;cases e)),hh.fr,hh.up⟩
def upH (h:Hf)(id:Id)(o:Option O):Hf:=λj=>if j=id then o else h j
def upR (ρ:Rh)(id:Id)(l:Lc):Rh:=λj=>if j=id then some l else ρ j
theorem dN {id:Id}{l:Lc}(h:ρ id=none):Le ρ (upR ρ id l):=λj k hj=>by
 unfold upR;split
 ·rename_i e;subst e;rw[h]at hj;cases hj
 ·exact hj
theorem fT (h:Hp)(i:Id)(o:Option O):geH (eK h i o)=upH (geH h) i o:=funext λj=>a8c h i j o
theorem HR.set (hh:HR E Ow ρ h Fr W){id:Id}{l:Lc}{o:O}(hi:h id≠none)(hl:ρ id=some l)(hW:∀b,b≠l.b->W'.heap[b]?=W.heap[b]?)(hs:W'.heap.size=W.heap.size)(ho:RO E ρ W' id l o):HR E Ow ρ (upH h id (some o)) Fr W':=by
 refine⟨λj o' hj=>?_,λi j li lj h1 h2=>hh.inj i j li lj ?_ ?_,hh.fr,λb hb=>hh.up b (by omega)⟩
 ·unfold upH at hj
  split at hj
  ·rename_i e
   cases hj;subst e
   cases he:h j with
   |none=>exact absurd he hi
   |some o0=>
    obtain⟨l',h1,h2,h3,_⟩:=hh.obj j o0 he
    rw[hl]at h1;cases h1
    exact⟨l,hl,h2,by omega,ho⟩
  ·rename_i e
   obtain⟨l',h1,h2,h3,h4⟩:=hh.obj j o' hj
   refine⟨l',h1,h2,by omega,h4.go (e7n _) (hW _ λeb=>?_)⟩
   exact e (hh.inj j id l' l (by rw[hj];simp) hi h1 hl eb)
 ·intro e;apply h1;unfold upH;split
  ·rename_i e1;subst e1;exact absurd e hi
  ·exact e
 ·intro e;apply h2;unfold upH;split
  ·rename_i e1;subst e1;exact absurd e hi
  ·exact e
theorem HR.new (hh:HR E Ow ρ h Fr W){nx:Id}(hn:Fr nx){l:Lc}{o:O}(hb:l.b=W.heap.size)(hW:∀b,b<W.heap.size->W'.heap[b]?=W.heap[b]?)(hs:W'.heap.size=W.heap.size+1)(ho:RO E (upR ρ nx l) W' nx l o):HR E Ow (upR ρ nx l) (upH h nx (some o)) (λj=>Fr j/\j≠nx) W':=by
 have hle:=dN (l:=l) (hh.fr nx hn)
 have hr:∀j lj,j≠nx->upR ρ nx l j=some lj->ρ j=some lj:=λj lj hj h=>by unfold upR at h;rwa[d9z hj]at h
 have hnn:∀j,j≠nx->upH h nx (some o) j≠none->h j≠none:=λj hj h=>by unfold upH at h;rwa[d9z hj]at h
 have hlt:∀j lj,h j≠none->ρ j=some lj->lj.b<W.heap.size:=λj lj h1 h2=>by
  cases he:h j with
  |none=>exact absurd he h1
  |some o'=>obtain⟨l',h3,_,h4,_⟩:=hh.obj j o' he;rw[h2]at h3;cases h3;exact h4
 have hx:upR ρ nx l nx=some l:=by unfold upR;rw[e0c rfl]
 refine⟨λj o' hj=>?_,λi j li lj h1 h2 h3 h4 e=>?_,λj hj=>?_,λb hb'=>hh.up b (by omega)⟩
 ·unfold upH at hj
  split at hj
  ·rename_i e;cases hj;subst e
   exact⟨l,hx,hh.up _ (by omega),by omega,ho⟩
  ·obtain⟨l',h1,h2,h3,h4⟩:=hh.obj j o' hj
   exact⟨l',hle _ _ h1,h2,by omega,h4.go hle (hW _ h3)⟩
 ·by_cases ei:i=nx
  ·by_cases ej:j=nx
   ·rw[ei,ej]
   ·have:=hlt j lj (hnn j ej h2) (hr j lj ej h4)
    rw[ei,hx]at h3;cases h3;omega
  ·by_cases ej:j=nx
   ·have:=hlt i li (hnn i ei h1) (hr i li ei h3)
    rw[ej,hx]at h4;cases h4;omega
   ·exact hh.inj i j li lj (hnn i ei h1) (hnn j ej h2) (hr i li ei h3) (hr j lj ej h4) e
 ·unfold upR;rw[d9z hj.2];exact hh.fr j hj.1
end Go.Kx
set_option linter.unusedVariables false
set_option linter.unusedSimpArgs false
namespace Go.Kx
open Go
open Go.Px (KT aJ KeyOk EqT eL)
section
variable {hp:Hf} {r:List Id×Ac}
theorem aT {p:Prop}(h:goF hp .no=some r):p:=by cases h
theorem tO {v:V}{K:Id->Nat->Rq}(h:goF hp (asP v K)=some r):∃id off,v= .p id off/\goF hp (K id off)=some r:=by
 cases v<;>first|exact⟨_,_,rfl,h⟩|exact aT h
theorem a4k {v:V}{K:List V->Rq}(h:goF hp (asA v K)=some r):∃cs,v= .a cs/\goF hp (K cs)=some r:=by
 cases v<;>first|exact⟨_,rfl,h⟩|exact aT h
theorem iC {v:V}{K:Id->Rq}(h:goF hp (b5v v K)=some r):∃id,v= .m id/\goF hp (K id)=some r:=by
 cases v<;>first|exact⟨_,rfl,h⟩|exact aT h
theorem c0g {v:V}{K:Bool->Rq}(h:goF hp (asB v K)=some r):∃x,v= .b x/\goF hp (K x)=some r:=by
 cases v<;>first|exact⟨_,rfl,h⟩|exact aT h
theorem tN {v:V}{K:IntKind->Int->Rq}(h:goF hp (asI v K)=some r):∃k n,v= .i k n/\goF hp (K k n)=some r:=by
 cases v<;>first|exact⟨_,_,rfl,h⟩|exact aT h
theorem lZ {v:V}{K:Nat->Rq}(h:goF hp (asN v K)=some r):∃(k:IntKind) (n:Nat),v= .i k (n:Int)/\goF hp (K n)=some r:=by
 cases v<;>first|exact aT h|skip
 rename_i k n
 cases n with
 |ofNat n=>exact⟨k,n,rfl,h⟩
 |negSucc n=>exact aT h
theorem oG {v:V}{K:Id->Nat->Nat->Nat->Nat->Rq}{nil:Rq}(h:goF hp (asS v K nil)=some r):
  (∃id off len cap ex,v= .s id off len cap ex/\goF hp (K id off len cap ex)=some r)\/(v= .z (.slice none 0 0)/\goF hp nil=some r):=by
 cases v<;>first|exact .inl ⟨_,_,_,_,_,rfl,h⟩|exact aT h|skip
 rename_i w
 have h:goF hp (zS nil w)=some r:=h
 unfold zS at h
 split at h
 ·exact .inr ⟨rfl,h⟩
 ·exact aT h
theorem dL {id:Id}{K:O->Rq}(h:goF hp (.ask id K)=some r):∃o l,hp id=some o/\goF hp (K o)=some (l,r.2)/\r.1=id::l:=by
 simp only[goF]at h
 split at h
 ·rename_i o ho
  simp only[e0u]at h
  obtain⟨⟨l,ac⟩,h1,rfl⟩:=h
  exact⟨o,l,ho,h1,rfl⟩
 ·cases h
theorem tM {o:O}{K:List V->Rq}(h:goF hp (asC o K)=some r):∃cs,o= .c cs/\goF hp (K cs)=some r:=by
 cases o<;>first|exact⟨_,rfl,h⟩|exact aT h
theorem qM {o:O}{K:Nat->Es->Option (Id×Option (List Int))->Rq}(h:goF hp (asM o K)=some r):∃ag es op,o= .m ag es op/\goF hp (K ag es op)=some r:=by
 cases o<;>first|exact⟨_,_,_,rfl,h⟩|exact aT h
theorem aP {b:Bool}{x:Rq}(h:goF hp (bif b then x else .no)=some r):b=true/\goF hp x=some r:=by
 cases b with
 |true=>exact⟨rfl,h⟩
 |false=>exact aT h
theorem gL {α:Type}{x:Option α}{K:α->Rq}(h:goF hp (ifS x .no K)=some r):∃a,x=some a/\goF hp (K a)=some r:=by
 cases x with
 |none=>exact aT h
 |some a=>exact⟨a,rfl,h⟩
theorem uP {α:Type}:∀(l:List α) (n:Nat),nth l n=l[n]?
 |[],n=>by cases n<;>rfl
 |x::l,0=>rfl
 |x::l,n+1=>by rw[e2c,<-uP l n];rfl
theorem gE {α:Type}:∀(l:List α),nQ l=l.length
 |[]=>rfl
 |_::l=>e2r (· +1) (gE l)
theorem a4t {α:Type}:∀(n:Nat) (l:List α),b7f n l=l.drop n
 |0,l=>rfl
 |n+1,[]=>rfl
 |n+1,x::l=>a4t n l
theorem jE {α:Type}:∀(l m:List α),eH l m=l++m
 |[],m=>rfl
 |x::l,m=>e2r (x:: ·) (jE l m)
theorem b5d:∀{n:Nat} {l:List V} {K:List V->Rq},goF hp (tk0 n l K)=some r->n<=l.length/\goF hp (K (l.take n))=some r
 |0,l,K,h=>⟨e4t _,h⟩
 |n+1,[],K,h=>aT h
 |n+1,x::l,K,h=>by
  obtain⟨h1,h2⟩:=b5d (n:=n) (l:=l) (K:=λl=>K (x::l)) h
  exact⟨by simp;omega,by simpa using h2⟩
theorem b9r {off n:Nat}{l:List V}{K:List V->Rq}(h:goF hp (tk off n l K)=some r):(n=0\/off+n<=l.length)/\((l.drop off).take n).length=n/\goF hp (K ((l.drop off).take n))=some r:=by
 unfold tk at h
 rw[a4t]at h
 obtain⟨h1,h2⟩:=b5d h
 simp only[e2p]at h1
 refine⟨?_,by simp;omega,h2⟩
 by_cases e:n=0
 ·exact .inl e
 ·exact .inr (by omega)
def ov {α:Type}(l:List α)(off:Nat)(m:List α):List α:=l.take off++m++l.drop (off+m.length)
theorem b3r:∀{m l:List V} {K:List V->Rq},goF hp (d7i m l K)=some r->m.length<=l.length/\goF hp (K (m++l.drop m.length))=some r
 |[],l,K,h=>⟨e4t _,h⟩
 |x::m,[],K,h=>aT h
 |x::m,y::l,K,h=>by
  obtain⟨h1,h2⟩:=b3r (m:=m) (l:=l) (K:=λl=>K (x::l)) h
  exact⟨by simp;omega,by simpa using h2⟩
theorem nY:∀{off:Nat} {m l:List V} {K:List V->Rq},goF hp (a3d l off m K)=some r->off+m.length<=l.length/\goF hp (K (ov l off m))=some r
 |0,m,l,K,h=>by
  obtain⟨h1,h2⟩:=b3r (m:=m) (l:=l) (K:=K) h
  exact⟨by omega,by simpa[ov]using h2⟩
 |off+1,m,[],K,h=>aT h
 |off+1,m,x::l,K,h=>by
  obtain⟨h1,h2⟩:=nY (off:=off) (m:=m) (l:=l) (K:=λl=>K (x::l)) h
  refine⟨by simp;omega,?_⟩
  have e:ov (x::l) (off+1) m=x::ov l off m:=by
   unfold ov;rw[show off+1+m.length=(off+m.length)+1 by omega];simp
  rw[e];exact h2
theorem zN {α:Type}{l m:List α}{off:Nat}(h:off+m.length<=l.length):(ov l off m).length=l.length:=by
 unfold ov;simp;omega
theorem b0r {v:V}{K:List V->Rq}(h:goF hp (oH v K)=some r):(∃cs,v= .a cs/\goF hp (K cs)=some r)\/(d7e v=true/\goF hp (K [v])=some r):=by
 cases v<;>first|exact .inl ⟨_,rfl,h⟩|exact .inr ⟨rfl,h⟩|exact aT h
end
variable {E:Vl} {ρ:Rh}
theorem c4h {v:Value}(h:a3u v=true):RV E ρ (b8s v) v:=by
 cases v<;>first|exact rfl|exact⟨rfl,h⟩|cases h
theorem a6x {v:Value}(h:a3u v=true):v.oneCell'=true:=by cases v<;>first|rfl|cases h
theorem qA:∀{l:List Value},l.all a3u=true->RVs E ρ (l.map b8s) l
 |[],_=>rfl
 |v::l,h=>by
  simp only[List.all_cons,e0d]at h
  exact⟨v,l,rfl,c4h h.1,qA h.2⟩
theorem zK (v:Value):RV E ρ (ofV v) v:=by
 cases v with
 |agg cs=>
  show RV E ρ (bif cs.toList.all a3u then .a (cs.toList.map b8s)else .un) (.agg cs)
  cases h:cs.toList.all a3u with
  |true=>exact⟨cs,rfl,qA h,λw hw=>a6x (e1d.1 h w hw)⟩
  |false=>trivial
 |tuple cs=>
  show RV E ρ (bif cs.toList.all a3u then .t (cs.toList.map b8s)else .un) (.tuple cs)
  cases h:cs.toList.all a3u with
  |true=>exact⟨cs,rfl,qA h⟩
  |false=>trivial
 |int k n=>rfl
 |bool b=>rfl
 |_=>exact⟨rfl,rfl⟩
section
variable {P:Program} {W:World} {t n:Nat}
theorem a6q (h:szO P t=some n):∃i,P.info? t=some i/\i.size=n:=by
 unfold szO at h;simpa[e0u]using h
theorem dM (h:szO P t=some n):(sizeOf t).run P W= .ok n W:=by
 obtain⟨i,h1,h2⟩:=a6q h
 simp[Go.sizeOf,typeInfo,h1,h2]
theorem iY {v:Value}(h:zvO P t=some v):(zeroValue t).run P W= .ok v W:=by
 unfold zvO at h
 split at h
 ·rename_i i hi;simp[zeroValue,typeInfo,hi,h]
 ·cases h
theorem d1d {z:List V}(h:zcO P t=some z):∃v,zvO P t=some v/\v.cells.toList.all a3u=true/\szO P t=some v.cells.size/\z=v.cells.toList.map b8s:=by
 unfold zcO at h
 split at h
 ·rename_i v m hv hm
  cases hb:(v.cells.toList.all a3u&&Nat.beq v.cells.size m)with
  |false=>rw[hb]at h;cases h
  |true=>
   rw[hb]at h
   simp only[e0d]at hb
   cases h
   exact⟨v,hv,hb.1,by rw[hm,d9s hb.2],rfl⟩
 ·cases h
theorem a9u {n:Option Nat}(h:agO P t=some n):(isAgg t).run P W= .ok n.isSome W/\∀m,n=some m->szO P t=some m:=by
 unfold agO at h
 split at h
 ·rename_i fs hu
  obtain⟨m,h1,rfl⟩:=e0u.1 h
  exact⟨by simp[Go.isAgg,e0k hu],λm e=>by cases e;exact h1⟩
 ·rename_i k e hu
  obtain⟨m,h1,rfl⟩:=e0u.1 h
  exact⟨by simp[Go.isAgg,e0k hu],λm e=>by cases e;exact h1⟩
 ·rename_i d h1 h2 hu
  cases h
  refine⟨?_,λm e=>by cases e⟩
  simp only[Go.isAgg,d9t,e0k hu,d9q]
  rfl
 ·cases h
end
def iK:Ac->Bool
  | .ret _| .set _ _ _=>false
  |_=>true
def cT (P:Program)(E:Vl)(Ow:Nat->Prop)(ρ:Rh)(Fr:Id->Prop)(nm:Id)(h:Hf)(W:World)(s:Sem Next)(v:V)(h':Hf)(b:Bool):Prop:=
  ∃ρ' W' u,(s.run P W= .ok (.value u) W'\/(s.run P W= .ok .skip W'/\u=undef))/\Le ρ ρ'/\(∀id,id≠nm->ρ' id=ρ id)/\RV E ρ' v u/\HR E Ow ρ' h' (λj=>Fr j/\j≠nm) W'/\Gr Ow W W'/\(b=false->ρ'=ρ)
theorem HR.less {Ow:Nat->Prop}{Fr Fr':Id->Prop}{h:Hf}{W:World}(hh:HR E Ow ρ h Fr W)(hf:∀j,Fr' j->Fr j):HR E Ow ρ h Fr' W:=⟨hh.obj,hh.inj,λj hj=>hh.fr j (hf j hj),hh.up⟩
section
variable {P:Program} {Ow:Nat->Prop} {Fr:Id->Prop} {nm:Id} {h:Hf} {W:World}
theorem cT.pure {s:Sem Next}{v:V}{u:Value}(hh:HR E Ow ρ h Fr W)(hr:s.run P W= .ok (.value u) W)(hv:RV E ρ v u){b:Bool}:cT P E Ow ρ Fr nm h W s v h b:=
 ⟨ρ,W,u,.inl hr,e7n _,λ_ _=>rfl,hv,hh.less λ_ h=>h.1,Gr.refl _ _,λ_=>rfl⟩
variable {ev:Operand->V} {re:Operand->Value} (hev:∀x,RV E ρ (ev x) (re x))
include hev
theorem evs (l:List Operand):RVs E ρ (l.map ev) (l.map re):=by
 induction l with
 |nil=>rfl
 |cons x l ih=>exact⟨re x,l.map re,rfl,hev x,ih⟩
theorem evI {x:Operand}{k:IntKind}{n:Int}(e:ev x= .i k n):re x= .int k n:=by have:=hev x;rw[e]at this;exact this
theorem evB {x:Operand}{b:Bool}(e:ev x= .b b):re x= .bool b:=by have:=hev x;rw[e]at this;exact this
end
end Go.Kx
set_option linter.unusedVariables false
set_option linter.unusedSimpArgs false
namespace Go.Kx
open Go
open Go.Px (KT aJ KeyOk EqT eL)
def apH (nm:Id)(ac:Ac)(h:Hf):Hf:=match ac with
  | .ret _=>h
  | .set _ i o=>upH h i (some o)
  | .new _ o=>upH h nm (some o)
  | .mov _ i o=>upH (upH h i none) nm (some o)
  | .gst _ i o=>upH h i (some o)
  | .rng _ o i o'=>upH (upH h nm (some o)) i (some o')
variable {P:Program} {E:Vl} {ρ:Rh} {Ow:Nat->Prop} {Fr:Id->Prop} {nm:Id} {h:Hf} {W:World} {ls:List Id} {ac:Ac}
theorem aO {α:Type}{x:Option α}{f:α->Kf}{ev:Ev}(hg:goF h ((ors x f).f ev nm)=some (ls,ac)):∃a,x=some a/\goF h ((f a).f ev nm)=some (ls,ac):=by
 cases x with
 |none=>exact aT hg
 |some a=>exact⟨a,rfl,hg⟩
theorem aZ {v:V}(hg:goF h (rv v)=some (ls,ac)):ac= .ret v:=by cases hg;rfl
theorem wS {b:Bool}(hg:goF h (rb b)=some (ls,ac)):ac= .ret (.b b):=by cases b<;>(cases hg;rfl)
theorem a0a {n:Nat}(hg:goF h (rn n)=some (ls,ac)):ac= .ret (.i .i64 n):=by
 unfold rn at hg;rw[fE]at hg;exact aZ hg
theorem eO (b o n:Nat):(⟨b,o,none⟩:Addr).add n=⟨b,o+n,none⟩:=by unfold Addr.add;split<;>simp_all
theorem kE (x y:Int):a9i x y=decide (x=y):=by
 cases x<;>cases y<;>rw[e2y,e2a]
 ·rename_i a b;show Nat.beq a b=true↔_;rw[Nat.beq_eq];exact Int.ofNat_inj.symm
 ·show false=true↔_;simp
 ·show false=true↔_;simp
 ·rename_i a b;show Nat.beq a b=true↔_;rw[Nat.beq_eq];simp[Int.negSucc.injEq]
theorem aL {a b:Nat}:Nat.ble a b=true↔a<=b:=⟨e1n,e4c⟩
theorem a2j (x y:Int):ile x y=decide (x<=y):=by
 cases x<;>cases y<;>rw[e2y,e2a]
 ·rename_i a b;show Nat.ble a b=true↔_;rw[aL];simp
 ·rename_i a b;show false=true↔_;simp;omega
 ·rename_i a b;show true=true↔_;simp;omega
 ·rename_i a b;show Nat.ble b a=true↔_;rw[aL];omega
theorem vW (x y:Int):ilt x y=decide (x<y):=by
 unfold ilt;rw[a2j,e2y];simp
theorem wA {j k:IntKind}(hk:keq j k=true):j=k:=by cases j<;>cases k<;>first|rfl|exact absurd hk (by decide)
theorem vY {k:IntKind}{x:Int}(hx:inR k x=true):k.wrap x=x:=by
 have key:∀k:IntKind,(∀a:Nat,a<=hi k->k.wrap (a:Int)=a)/\(sgn k=true->∀a:Nat,a<=hi k->k.wrap (Int.negSucc a)=Int.negSucc a):=by
  intro k
  cases k<;>refine⟨λa ha=>?_,λhs a ha=>?_⟩<;>first|(simp only[hi]at ha;simp only[IntKind.wrap,IntKind.bits,IntKind.signed];simp;omega)|exact absurd hs (by decide)
 cases x with
 |ofNat a=>exact(key k).1 a (aL.1 hx)
 |negSucc a=>
  have hx:(sgn k&&Nat.ble a (hi k))=true:=hx
  rw[e0d]at hx
  exact(key k).2 hx.1 a (aL.1 hx.2)
theorem mQ {k:IntKind}{x:Int}(hg:goF h (okI k x)=some (ls,ac)):ac= .ret (.i k x)/\k.wrap x=x:=by
 unfold okI at hg
 rw[a2c]at hg
 obtain⟨h1,h2⟩:=aP hg
 exact⟨aZ h2,vY h1⟩
theorem b6r {op:BinOp}{k:IntKind}{x y:Int}{t:Nat}(hs:shB op=false)(hg:goF h (d1l op k x y)=some (ls,ac)):∃v u,ac= .ret v/\(binOp op t (.int k x) (.int k y)).run P W= .ok u W/\RV E ρ v u:=by
 cases op<;>first|exact aT hg|skip
 case shl=>cases hs
 case shr=>cases hs
 case add=>obtain⟨rfl,hw⟩:=mQ (show goF h (okI k (x+y))=_ from hg);exact⟨_,_,rfl,by simp[binOp,Op.intArith,hw],rfl⟩
 case sub=>obtain⟨rfl,hw⟩:=mQ (show goF h (okI k (x-y))=_ from hg);exact⟨_,_,rfl,by simp[binOp,Op.intArith,hw],rfl⟩
 case mul=>obtain⟨rfl,hw⟩:=mQ (show goF h (okI k (x*y))=_ from hg);exact⟨_,_,rfl,by simp[binOp,Op.intArith,hw],rfl⟩
 case quo=>
  have hg:goF h (bif a9i y 0 then .no else okI k (Int.tdiv x y))=_:=hg
  rw[kE]at hg
  by_cases e:y=0
  ·rw[e1r e]at hg;exact aT hg
  ·rw[e1o e]at hg
   obtain⟨rfl,hw⟩:=mQ hg
   exact⟨_,_,rfl,by simp[binOp,Op.intDiv,e,hw],rfl⟩
 case rem=>
  have hg:goF h (bif a9i y 0 then .no else okI k (Int.tmod x y))=_:=hg
  rw[kE]at hg
  by_cases e:y=0
  ·rw[e1r e]at hg;exact aT hg
  ·rw[e1o e]at hg
   obtain⟨rfl,hw⟩:=mQ hg
   refine⟨_,.int k (x.tmod y),rfl,?_,rfl⟩
   simp[binOp,Op.intDiv,e]
 case and=>
  have hg:goF h (fI (k.wrap ((BitVec.ofInt k.bits x &&& BitVec.ofInt k.bits y).toNat:Int)) λz=>rv (.i k z))=_:=hg
  rw[a2c]at hg
  obtain rfl:=aZ hg
  exact⟨_,_,rfl,by simp[binOp,Op.intBits],rfl⟩
 case or=>
  have hg:goF h (fI (k.wrap ((BitVec.ofInt k.bits x ||| BitVec.ofInt k.bits y).toNat:Int)) λz=>rv (.i k z))=_:=hg
  rw[a2c]at hg
  obtain rfl:=aZ hg
  exact⟨_,_,rfl,by simp[binOp,Op.intBits],rfl⟩
 case andNot=>
  have hg:goF h (fI (k.wrap ((BitVec.ofInt k.bits x &&& ~~~ BitVec.ofInt k.bits y).toNat:Int)) λz=>rv (.i k z))=_:=hg
  rw[a2c]at hg
  obtain rfl:=aZ hg
  exact⟨_,_,rfl,by simp[binOp,Op.intBits],rfl⟩
 case eql=>
  obtain rfl:=wS (show goF h (rb (a9i x y))=_ from hg)
  refine⟨_,.bool (decide (x=y)),rfl,?_,by rw[kE];rfl⟩
  simp only[binOp,Op.intCmp,ne_eq,not_true,e3g,d9u]<;>first|rfl|(congr 2;rw[e2y];simp)
 case neq=>
  obtain rfl:=wS (show goF h (rb (not (a9i x y)))=_ from hg)
  refine⟨_,.bool (!decide (x=y)),rfl,?_,by rw[kE];rfl⟩
  simp only[binOp,Op.intCmp,ne_eq,not_true,e3g,d9u]<;>first|rfl|(congr 2;rw[e2y];simp)
 case lss=>
  obtain rfl:=wS (show goF h (rb (ilt x y))=_ from hg)
  refine⟨_,.bool (decide (x<y)),rfl,?_,by rw[vW];rfl⟩
  simp only[binOp,Op.intCmp,ne_eq,not_true,e3g,d9u]<;>first|rfl|(congr 2;rw[e2y];simp)
 case leq=>
  obtain rfl:=wS (show goF h (rb (ile x y))=_ from hg)
  refine⟨_,.bool (decide (x<=y)),rfl,?_,by rw[a2j];rfl⟩
  simp only[binOp,Op.intCmp,ne_eq,not_true,e3g,d9u]<;>first|rfl|(congr 2;rw[e2y];simp)
 case gtr=>
  obtain rfl:=wS (show goF h (rb (ilt y x))=_ from hg)
  refine⟨_,.bool (decide (y<x)),rfl,?_,by rw[vW];rfl⟩
  simp only[binOp,Op.intCmp,ne_eq,not_true,e3g,d9u]<;>first|rfl|(congr 2;rw[e2y];simp)
 case geq=>
  obtain rfl:=wS (show goF h (rb (ile y x))=_ from hg)
  refine⟨_,.bool (decide (y<=x)),rfl,?_,by rw[a2j];rfl⟩
  simp only[binOp,Op.intCmp,ne_eq,not_true,e3g,d9u]<;>first|rfl|(congr 2;rw[e2y];simp)
end Go.Kx
set_option linter.unusedVariables false
set_option linter.unusedSimpArgs false
namespace Go.Kx
open Go
open Go.Px (KT aJ KeyOk EqT eL)
variable {P:Program} {E:Vl} {ρ:Rh} {Ow:Nat->Prop} {Fr:Id->Prop} {nm:Id} {h:Hf} {W:World} {ls:List Id} {ac:Ac}
def Pu (P:Program)(E:Vl)(ρ:Rh)(W:World)(s:Sem Next)(ac:Ac):Prop:=∃v u,ac= .ret v/\s.run P W= .ok (.value u) W/\RV E ρ v u
theorem Pu.of {s:Sem Next}{v:V}{u:Value}(e:ac= .ret v)(hr:s.run P W= .ok (.value u) W)(hv:RV E ρ v u):Pu P E ρ W s ac:=⟨v,u,e,hr,hv⟩
theorem c5e {op:BinOp}{k j:IntKind}{x y:Int}{t:Nat}(hs:shB op=true)(hg:goF h (d1l op k x y)=some (ls,ac)):∃v u,ac= .ret v/\(binOp op t (.int k x) (.int j y)).run P W= .ok u W/\RV E ρ v u:=by
 cases op<;>first|cases hs|skip
 case shl=>
  cases y with
  |negSucc a=>exact aT hg
  |ofNat s=>
   obtain⟨h1,h2⟩:=aP (show goF h (bif Nat.blt s k.bits then okI k (Int.mul x (.ofNat (Nat.pow 2 s)))else .no)=_ from hg)
   obtain⟨rfl,hw⟩:=mQ h2
   have hlt:s<k.bits:=aL.1 h1
   refine⟨_,.int k (x*2^s),rfl,?_,?_⟩
   ·have hm:min s k.bits=s:=by omega
    have hw':k.wrap (x*2^s)=x*2^s:=by
     have:Int.mul x (.ofNat (Nat.pow 2 s))=x*2^s:=by
      show x*((2^s:Nat):Int)=_;simp
     rw[this]at hw;exact hw
    have hn:¬((s:Int)<0):=by omega
    simp only[binOp,Op.shift,hn,e3g,e1b,Int.ofNat_eq_natCast,hm,hw',d9u]
   ·show Value.int k _=_
    congr 1
 case shr=>
  cases y with
  |negSucc a=>exact aT hg
  |ofNat s=>
   obtain⟨h1,h2⟩:=aP (show goF h (bif Nat.blt s k.bits then okI k (Int.fdiv x (.ofNat (Nat.pow 2 s)))else .no)=_ from hg)
   obtain⟨rfl,hw⟩:=mQ h2
   have hlt:s<k.bits:=aL.1 h1
   refine⟨_,.int k (x.fdiv (2^s)),rfl,?_,?_⟩
   ·have hm:min s k.bits=s:=by omega
    have hn:¬((s:Int)<0):=by omega
    have hw':k.wrap (x.fdiv (2^s))=x.fdiv (2^s):=hw
    simp only[binOp,Op.shift,hn,e3g,e1b,Int.ofNat_eq_natCast,hm,hw',d9u]
   ·show Value.int k _=_
    congr 1
theorem c8b:∀{l:List V} {z:List Int},kL l=some z->l=z.map (V.i .i64)
 |[],z,hz=>by cases hz;rfl
 |v::l,z,hz=>by
  cases v<;>first|(exfalso;change none=some z at hz;cases hz)|skip
  rename_i k n
  have hz:(bif keq k .i64 then ifS (kL l) none λr=>some (n::r)else none)=some z:=hz
  cases hk:keq k .i64 with
  |false=>rw[hk]at hz;cases hz
  |true=>
   rw[hk]at hz
   cases hl:kL l with
   |none=>rw[hl]at hz;cases hz
   |some r=>
    rw[hl]at hz
    cases hz
    rw[wA hk,c8b hl];rfl
theorem b4r:∀{z:List Int} {us:List Value},RVs E ρ (z.map (V.i .i64)) us->us=z.map (Value.int .i64)
 |[],us,hv=>hv
 |n::z,us,⟨u,r,h1,h2,h3⟩=>by rw[h1,b4r h3,show u= .int .i64 n from h2];rfl
theorem b4q {l:List V}{z:List Int}{u:Value}(hv:RV E ρ (.a l) u)(hz:kL l=some z):u=eL z:=by
 obtain⟨us,rfl,h1,_⟩:=hv
 rw[c8b hz]at h1
 have:=b4r h1
 unfold eL;rw[<-this]
theorem fG:∀(k j:List Int),kq k j=decide (k=j)
 |[],[]=>rfl
 |[],_::_=>rfl
 |_::_,[]=>rfl
 |x::k,y::j=>by
  have e:kq (x::k) (y::j)=bif a9i x y then kq k j else false:=rfl
  rw[e,kE,fG k j]
  by_cases h1:x=y
  ·subst h1;simp
  ·simp[h1]
theorem a2g:∀{l:List Field} {n:Nat},b1p P l n=true->Px.Flds P l n
 |[],_,_=>trivial
 |f::l,n,hf=>by
  have hf:(b2e P f.type&&(Nat.beq f.offset n&&((!f.name== "_")&&b1p P l (n+1))))=true:=hf
  simp only[e0d]at hf
  refine⟨by simpa using hf.2.2.1,d9s hf.2.1,?_,a2g hf.2.2.2⟩
  have:=hf.1
  unfold b2e at this
  split at this
  ·rename_i d hd
   unfold a2m at this
   split at this
   ·exact hd
   ·cases this
  ·cases this
theorem c3h {t:Nat}(hi:b2e P t=true):P.underlying t=some (.int .i64):=by
 unfold b2e at hi
 split at hi
 ·rename_i d hd
  unfold a2m at hi
  split at hi
  ·exact hd
  ·cases hi
 ·cases hi
theorem c5o {t n:Nat}(hq:n+4=tyQ P t):EqT P t n:=by
 unfold tyQ at hq
 split at hq<;>first|(exfalso;omega)|skip
 ·rename_i fs hu
  cases hb:(b1p P fs.toList 0&&(!P.stoodInHeld t&& !P.eqGuardType P.depth t))with
  |false=>rw[hb]at hq;simp at hq
  |true=>
   rw[hb]at hq
   simp only[e0d,e5i]at hb
   have:n=fs.size:=by simp at hq;omega
   subst this
   exact Px.eqT_struct hu hb.2.1 hb.2.2 (a2g hb.1)
 ·rename_i m e hu
  cases hb:(b2e P e&&(!P.eqGuardType P.depth t&&(szO P e==some 1)))with
  |false=>rw[hb]at hq;simp at hq
  |true=>
   rw[hb]at hq
   simp only[e0d,e5i,beq_iff_eq]at hb
   have:n=m:=by simp at hq;omega
   subst this
   obtain⟨i,h1,h2⟩:=a6q hb.2.2
   exact Px.eqT_array hu hb.2.1 (c3h hb.1) h1 h2
theorem rX {op:BinOp}{b:Bool}(hg:goF h (a9j op b)=some (ls,ac)):(op= .eql/\ac= .ret (.b b))\/(op= .neq/\ac= .ret (.b (!b))):=by
 unfold a9j at hg
 split at hg
 ·exact .inl ⟨rfl,wS hg⟩
 ·exact .inr ⟨rfl,wS hg⟩
 ·exact aT hg
theorem sU {a b:Bool}(hab:(a&&b)=true):a=true/\b=true:=by simpa using hab
theorem b2j {v:Value}(hv:a5c v=true):v= .map none:=by
 unfold a5c at hv;split at hv
 ·rfl
 ·cases hv
theorem rJ {v:Value}(hv:oO v=true):∃n c,v= .slice none n c:=by
 unfold oO at hv;split at hv
 ·exact⟨_,_,rfl⟩
 ·cases hv
theorem a7a (a b:Int):IntKind.i64.wrap (IntKind.i64.wrap a+b)=IntKind.i64.wrap (a+b):=by
 simp only[IntKind.wrap,IntKind.bits,IntKind.signed];simp
 omega
theorem b9z (a b:Int):IntKind.i64.wrap (IntKind.i64.wrap a-b)=IntKind.i64.wrap (a-b):=by
 have:=a7a a (-b)
 simpa[Int.sub_eq_add_neg]using this
theorem c2e {op:BinOp}{t:Nat}{x y:Operand}{vx vy:V}{ux uy:Value}(hx:RV E ρ vx ux)(hy:RV E ρ vy uy)(hg:goF h (c6l (tyQ P t) op vx vy)=some (ls,ac)):
  ∃v u,ac= .ret v/\(do eqGuard op t x y ux uy;binOp op t ux uy:Sem Value).run P W= .ok u W/\RV E ρ v u:=by
 have hgd:(∀a b,¬(ux= .nilIface/\uy= .nilIface)/\¬(ux= .agg a/\uy= .agg b))->(eqGuard op t x y ux uy).run P W= .ok () W:=by
  intro hn
  unfold eqGuard
  split
  ·rw[d9z (by decide)]
   split
   ·exact absurd ⟨rfl,rfl⟩ (hn #[] #[]).1
   ·rename_i a b;exact absurd ⟨rfl,rfl⟩ (hn a b).2
   ·rfl
  ·rw[d9z (by decide)]
   split
   ·exact absurd ⟨rfl,rfl⟩ (hn #[] #[]).1
   ·rename_i a b;exact absurd ⟨rfl,rfl⟩ (hn a b).2
   ·rfl
  ·rfl
 cases vx<;>first|exact aT hg|skip
 case i j a=>
  cases vy<;>first|exact aT hg|skip
  rename_i k b
  obtain rfl:ux=_:=hx
  obtain rfl:uy=_:=hy
  have hg:goF h (bif (shB op||keq j k)then d1l op j a b else .no)=_:=hg
  obtain⟨h1,h2⟩:=aP hg
  have hgd:=hgd λa b=>⟨(λq=>by cases q.1),(λq=>by cases q.1)⟩
  cases hs:shB op with
  |true=>
   obtain⟨v,u,q1,q2,q3⟩:=c5e (P:=P) (W:=W) (E:=E) (ρ:=ρ) (t:=t) (j:=k) hs h2
   exact⟨v,u,q1,by simp only[d9t,hgd,d9q,q2],q3⟩
  |false=>
   rw[hs]at h1
   obtain rfl:=wA (by simpa using h1)
   obtain⟨v,u,q1,q2,q3⟩:=b6r (P:=P) (W:=W) (E:=E) (ρ:=ρ) (t:=t) hs h2
   exact⟨v,u,q1,by simp only[d9t,hgd,d9q,q2],q3⟩
 case b a=>
  cases vy<;>first|exact aT hg|skip
  rename_i b
  obtain rfl:ux=_:=hx
  obtain rfl:uy=_:=hy
  obtain⟨h1,h2⟩:=aP (show goF h (bif Nat.beq (tyQ P t) 1 then a9j op (c6k a b)else .no)=_ from hg)
  have hgd:=hgd λa b=>⟨(λq=>by cases q.1),(λq=>by cases q.1)⟩
  have hu:P.underlying t=some .bool:=by
   have h1:=d9s h1
   unfold tyQ at h1
   split at h1<;>first|(exfalso;omega)|assumption|skip
   ·exfalso;revert h1;cases(b1p P _ 0&&_)<;>simp
   ·exfalso;revert h1;cases(b2e P _&&_)<;>simp
  have he:(Op.equal t (.bool a) (.bool b)).run P W= .ok (a==b) W:=by
   simp only[Op.equal,Op.maxDepth]
   rw[show(10000:Nat)=9999+1 from rfl,Op.equalIn]
   simp only[d9t,e0k hu,d9q,d9u]
  have hab:c6k a b=(a==b):=by cases a<;>cases b<;>rfl
  rcases rX h2 with⟨rfl,rfl⟩|⟨rfl,rfl⟩
  ·exact⟨_,.bool (a==b),rfl,by simp only[d9t,hgd,d9q,binOp,he,d9u],by rw[hab];rfl⟩
  ·exact⟨_,.bool (!(a==b)),rfl,by simp only[d9t,hgd,d9q,binOp,he,d9u],by rw[hab];rfl⟩
 case m id=>
  cases vy<;>first|exact aT hg|skip
  rename_i w
  obtain⟨l,_,rfl⟩:=hx
  obtain⟨rfl,_⟩:=hy
  obtain⟨h1,h2⟩:=aP (show goF h (bif Nat.beq (tyQ P t) 3&&a5c uy then a9j op false else .no)=_ from hg)
  obtain⟨q1,h3⟩:=sU h1
  obtain rfl:=b2j h3
  have hgd:=hgd λa b=>⟨(λq=>by cases q.1),(λq=>by cases q.1)⟩
  obtain⟨k,e,hu⟩:∃k e,P.underlying t=some (.map k e):=by
   have h1:=d9s q1
   unfold tyQ at h1
   split at h1<;>first|(exfalso;omega)|exact⟨_,_,by assumption⟩|skip
   ·exfalso;revert h1;cases(b1p P _ 0&&_)<;>simp
   ·exfalso;revert h1;cases(b2e P _&&_)<;>simp
  have he:(Op.equal t (.map (some l.b)) (.map none)).run P W= .ok false W:=by
   simp only[Op.equal,Op.maxDepth]
   rw[show(10000:Nat)=9999+1 from rfl,Op.equalIn]
   simp only[d9t,e0k hu,d9q,d9u]
  rcases rX h2 with⟨rfl,rfl⟩|⟨rfl,rfl⟩
  ·exact⟨_,.bool false,rfl,by simp only[d9t,hgd,d9q,binOp,he,d9u],rfl⟩
  ·exact⟨_,.bool true,rfl,by simp only[d9t,hgd,d9q,binOp,he,d9u,Bool.not_false],rfl⟩
 case s id off len cap ex=>
  cases vy<;>first|exact aT hg|skip
  rename_i w
  obtain⟨l,c,a0,_,rfl,_⟩:=hx
  obtain⟨rfl,_⟩:=hy
  obtain⟨h1,h2⟩:=aP (show goF h (bif Nat.beq (tyQ P t) 2&&oO uy then a9j op false else .no)=_ from hg)
  obtain⟨q1,h3⟩:=sU h1
  obtain⟨n',c',rfl⟩:=rJ h3
  have hgd:=hgd λa b=>⟨(λq=>by cases q.1),(λq=>by cases q.1)⟩
  obtain⟨e,hu⟩:∃e,P.underlying t=some (.slice e):=by
   have h1:=d9s q1
   unfold tyQ at h1
   split at h1<;>first|(exfalso;omega)|exact⟨_,by assumption⟩|skip
   ·exfalso;revert h1;cases(b1p P _ 0&&_)<;>simp
   ·exfalso;revert h1;cases(b2e P _&&_)<;>simp
  have he:(Op.equal t (.slice (some ⟨l.b,a0,none⟩) len c) (.slice none n' c')).run P W= .ok false W:=by
   simp only[Op.equal,Op.maxDepth]
   rw[show(10000:Nat)=9999+1 from rfl,Op.equalIn]
   simp only[d9t,e0k hu,d9q,d9u]
  rcases rX h2 with⟨rfl,rfl⟩|⟨rfl,rfl⟩
  ·exact⟨_,.bool false,rfl,by simp only[d9t,hgd,d9q,binOp,he,d9u],rfl⟩
  ·exact⟨_,.bool true,rfl,by simp only[d9t,hgd,d9q,binOp,he,d9u,Bool.not_false],rfl⟩
 case z vx=>
  cases vy<;>first|exact aT hg|skip
  rename_i w
  obtain⟨rfl,_⟩:=hx
  obtain⟨rfl,_⟩:=hy
  obtain⟨h1,h2⟩:=aP (show goF h (bif Nat.beq (tyQ P t) 2&&(oO ux&&oO uy)then a9j op true else .no)=_ from hg)
  obtain⟨q1,h3⟩:=sU h1
  obtain⟨q3,q4⟩:=sU h3
  obtain⟨n',c',e4⟩:=rJ q4
  obtain⟨n,c,e3⟩:=rJ q3
  subst e3 e4
  have hgd:=hgd λa b=>⟨(λq=>by cases q.1),(λq=>by cases q.1)⟩
  obtain⟨e,hu⟩:∃e,P.underlying t=some (.slice e):=by
   have h1:=d9s q1
   unfold tyQ at h1
   split at h1<;>first|(exfalso;omega)|exact⟨_,by assumption⟩|skip
   ·exfalso;revert h1;cases(b1p P _ 0&&_)<;>simp
   ·exfalso;revert h1;cases(b2e P _&&_)<;>simp
  have he:(Op.equal t (.slice none n c) (.slice none n' c')).run P W= .ok true W:=by
   simp only[Op.equal,Op.maxDepth]
   rw[show(10000:Nat)=9999+1 from rfl,Op.equalIn]
   simp only[d9t,e0k hu,d9q,d9u,Option.isNone_none]
  rcases rX h2 with⟨rfl,rfl⟩|⟨rfl,rfl⟩
  ·exact⟨_,.bool true,rfl,by simp only[d9t,hgd,d9q,binOp,he,d9u],rfl⟩
  ·exact⟨_,.bool false,rfl,by simp only[d9t,hgd,d9q,binOp,he,d9u,e4z],rfl⟩
 case a l=>
  cases vy<;>first|exact aT hg|skip
  rename_i m
  obtain⟨a,ha,hg⟩:=gL (show goF h (ifS (kL l) .no λl=>ifS (kL m) .no λm=>bif Nat.beq (Nat.add l.length 4) (tyQ P t)&&Nat.beq (Nat.add m.length 4) (tyQ P t)then a9j op (kq l m)else .no)=_ from hg)
  obtain⟨b,hb,hg⟩:=gL hg
  obtain⟨h1,h2⟩:=aP hg
  obtain⟨h1,h3⟩:=sU h1
  have h1:=d9s h1
  have h3:=d9s h3
  have hq:=c5o (P:=P) (t:=t) (n:=a.length) h1
  have hlen:b.length=a.length:=by have:a.length+4=b.length+4:=h1.trans h3.symm;omega
  obtain rfl:=b4q hx ha
  obtain rfl:=b4q hy hb
  have hgd:(eqGuard op t x y (eL a) (eL b)).run P W= .ok () W:=run_eqGuard_agg W op t x y _ _ hq.gd
  have he:(Op.equal t (eL a) (eL b)).run P W= .ok (decide (a=b)) W:=hq.eq a b W rfl hlen
  rcases rX h2 with⟨rfl,rfl⟩|⟨rfl,rfl⟩
  ·exact⟨_,.bool (decide (a=b)),rfl,by unfold eL at hgd he⊢;simp only[d9t,hgd,d9q,binOp,he,d9u],by rw[fG];rfl⟩
  ·exact⟨_,.bool (!decide (a=b)),rfl,by unfold eL at hgd he⊢;simp only[d9t,hgd,d9q,binOp,he,d9u],by rw[fG];rfl⟩
 case w s c=>
  cases vy<;>first|exact aT hg|skip
  rename_i k b
  obtain⟨x0,hx0,rfl⟩:=hx
  obtain rfl:uy=_:=hy
  obtain⟨h1,h2⟩:=aP (show goF h (bif keq k .i64 then d2a op s c b else .no)=_ from hg)
  obtain rfl:=wA h1
  have hgd:=hgd λa b=>⟨(λq=>by cases q.1),(λq=>by cases q.1)⟩
  unfold d2a at h2
  split at h2
  ·rw[a2c]at h2
   obtain rfl:=aZ h2
   refine⟨_,.int .i64 (IntKind.i64.wrap (x0+c+b)),rfl,?_,x0,hx0,by rw[Int.add_assoc];rfl⟩
   simp only[d9t,hgd,d9q,binOp,Op.intArith,ne_eq,not_true,e3g,d9u,a7a]
  ·rw[a2c]at h2
   obtain rfl:=aZ h2
   refine⟨_,.int .i64 (IntKind.i64.wrap (x0+c-b)),rfl,?_,x0,hx0,by rw[Int.add_sub_assoc];rfl⟩
   simp only[d9t,hgd,d9q,binOp,Op.intArith,ne_eq,not_true,e3g,d9u,b9z]
  ·exact aT h2
end Go.Kx
set_option linter.unusedVariables false
set_option linter.unusedSimpArgs false
namespace Go.Kx
open Go
open Go.Px (KT aJ KeyOk EqT eL)
variable {P:Program} {E:Vl} {ρ:Rh} {Ow:Nat->Prop} {Fr:Id->Prop} {nm:Id} {h:Hf} {W:World} {ls:List Id} {ac:Ac}
variable {ev:Operand->V} {re:Operand->Value} (hev:∀x,RV E ρ (ev x) (re x)) (o:Oper)
include hev
theorem evN {x:Operand}{k:IntKind}{n:Nat}(e:ev x= .i k (n:Int)):re x= .int k n:=by have:=hev x;rw[e]at this;exact this
theorem d7g {x:Operand}(ho:o.op= .move x\/o.op= .assign x)(hg:goF h (d0y x ev nm)=some (ls,ac)):Pu P E ρ W (execOp re o) ac:=by
 refine .of (aZ hg) (u:=re x) ?_ (hev x)
 rcases ho with ho|ho<;>simp[execOp,ho]
theorem c9g {c a b:Operand}(ho:o.op= .pick c a b)(hg:goF h (b5r c a b ev nm)=some (ls,ac)):Pu P E ρ W (execOp re o) ac:=by
 obtain⟨x,hx,hg⟩:=c0g hg
 have hb:=evB hev hx
 cases x with
 |true=>exact .of (aZ hg) (u:=re a) (by simp[execOp,ho,hb,asBool]) (hev a)
 |false=>exact .of (aZ hg) (u:=re b) (by simp[execOp,ho,hb,asBool]) (hev b)
theorem d9b {x:Operand}(ho:o.op= .nilCheck x)(hg:goF h (d1x x ev nm)=some (ls,ac)):Pu P E ρ W (execOp re o) ac:=by
 have hx:=hev x
 unfold d1x at hg
 cases hv:ev x with
 |p id off=>
  rw[hv]at hg hx
  obtain⟨l,h1,h2⟩:=hx
  exact .of (aZ hg) (u:=re x) (by simp[execOp,ho,h2]) (by rw[h2];exact⟨l,h1,rfl⟩)
 |f g fs cs=>
  rw[hv]at hg hx
  obtain⟨a,c,h2,h3,h4⟩:=hx
  exact .of (aZ hg) (u:=re x) (by simp[execOp,ho,h2]) (by rw[h2];exact⟨a,c,rfl,h3,h4⟩)
 |y id=>
  rw[hv]at hg hx
  obtain⟨l,h1,h2⟩:=hx
  exact .of (aZ hg) (u:=re x) (by simp[execOp,ho,h2]) (by rw[h2];exact⟨l,h1,rfl⟩)
 |_=>rw[hv]at hg;exact aT hg
theorem d4f {op:BinOp}{t t':Nat}{x y:Operand}(ho:o.op= .binOp op t x y t')(hg:goF h (c5v (tyQ P t) op x y ev nm)=some (ls,ac)):Pu P E ρ W (execOp re o) ac:=by
 obtain⟨v,u,h1,h2,h3⟩:=c2e (P:=P) (W:=W) (t:=t) (x:=x) (y:=y) (hev x) (hev y) hg
 refine .of h1 (u:=u) ?_ h3
 simp only[execOp,ho]
 rw[d9t,h2];rfl
theorem d4l {t:Nat}{x:Operand}(ho:o.op= .unOp .not t x)(hg:goF h (c6e x ev nm)=some (ls,ac)):Pu P E ρ W (execOp re o) ac:=by
 obtain⟨b,hx,hg⟩:=c0g hg
 exact .of (wS hg) (u:= .bool (!b)) (by simp[execOp,ho,evB hev hx,Op.unary]) rfl
theorem d4k {t:Nat}{x:Operand}(ho:o.op= .unOp .neg t x)(hg:goF h (c6d x ev nm)=some (ls,ac)):Pu P E ρ W (execOp re o) ac:=by
 obtain⟨k,n,hx,hg⟩:=tN hg
 obtain⟨e,hw⟩:=mQ hg
 have hw':k.wrap (0-n)= -n:=by rw[Int.zero_sub];exact hw
 exact .of e (u:= .int k (-n)) (by simp only[execOp,ho,evI hev hx,Op.unary,Op.intArith,hw',d9t,d9u,d9q]) rfl
theorem d8t {s t:Nat}{x:Operand}{k:IntKind}{d:TypeDesc}(ho:o.op= .convert s t x)(hs:P.underlying s=some d)(ht:P.underlying t=some (.int k))(hg:goF h (d6c k x ev nm)=some (ls,ac)):Pu P E ρ W (execOp re o) ac:=by
 obtain⟨j,n,hx,hg⟩:=tN hg
 obtain⟨e,hw⟩:=mQ hg
 refine .of e (u:= .int k n) ?_ rfl
 simp[execOp,ho,evI hev hx,convert,e0k hs,e0k ht,Conv.intToInt,hw]
theorem d8x {g:Nat}{fs cs:Array Operand}(ho:o.op= .makeFunc (.func g) fs cs)(hg:goF h (d6g g fs.toList cs.toList ev nm)=some (ls,ac)):Pu P E ρ W (execOp re o) ac:=by
 refine .of (aZ hg) (u:= .func (.func g) (fs.map re) (cs.map re)) (by simp[execOp,ho,Instr.makeFunc]) ⟨_,_,rfl,?_,?_⟩
 ·rw[e4f];exact evs hev _
 ·rw[e4f];exact evs hev _
theorem d4h {x:Operand}{i:Nat}(ho:o.op= .extract x i)(hg:goF h (c0b x i ev nm)=some (ls,ac)):Pu P E ρ W (execOp re o) ac:=by
 have hx:=hev x
 unfold c0b at hg
 cases hv:ev x with
 |t l=>
  rw[hv]at hg hx
  obtain⟨us,h1,h2⟩:=hx
  obtain⟨v,h3,hg⟩:=gL (show goF h (ifS (nth l i) .no rv)=_ from hg)
  rw[uP]at h3
  obtain⟨u,h4,h5⟩:=h2.get h3
  refine .of (aZ hg) (u:=u) ?_ h5
  have h4':us[i]?=some u:=by simpa using h4
  simp[execOp,ho,h1,Instr.extract,h4']
 |_=>rw[hv]at hg;exact aT hg
theorem d8v {s i:Nat}{x:Operand}{f:Field}{n:Nat}(ho:o.op= .fieldAddr s x i)(hf:c6o P s i=some f)(hn:szO P f.type=some n)(hz:n≠0)(hg:goF h (d6e f.offset x ev nm)=some (ls,ac)):Pu P E ρ W (execOp re o) ac:=by
 obtain⟨id,off,hx,hg⟩:=tO hg
 rw[fE]at hg
 have hr:=hev x
 rw[hx]at hr
 obtain⟨l,h1,h2⟩:=hr
 unfold c6o at hf
 split at hf
 ·rename_i fs hu
  refine .of (aZ hg) (u:= .pointer (some ⟨l.b,l.o+off+f.offset,none⟩)) ?_ ⟨l,h1,by rw[e3j];rfl⟩
  have hsz:=dM (W:=W) hn
  simp only[execOp,ho,h2,Instr.fieldAt,d9t,e0k hu,d9q,hf,Instr.sureAddr,d9u,fieldPlace,hsz,hz,e3g,eO]
 ·cases hf
omit hev in
theorem mS {t:Nat}{n:Option Nat}(hn:agO P t=some n){cs:List V}{us:Array Value}(hc:RVs E ρ cs us.toList)(h1:∀w∈us.toList,w.oneCell'=true){off:Nat}(hg:goF h (yU n cs off)=some (ls,ac)):
  ∃v u,ac= .ret v/\(part t us off).run P W= .ok u W/\RV E ρ v u:=by
 obtain⟨ha,hs⟩:=a9u (W:=W) hn
 cases n with
 |none=>
  obtain⟨v,h3,hg⟩:=gL (show goF h (ifS (nth cs off) .no rv)=_ from hg)
  rw[uP]at h3
  obtain⟨u,h4,h5⟩:=hc.get h3
  have h4':us[off]?=some u:=by simpa using h4
  exact⟨v,u,aZ hg,by simp[part,ha,h4'],h5⟩
 |some m=>
  obtain⟨h3,h4,hg⟩:=b9r (show goF h (tk off m cs λl=>rv (.a l))=_ from hg)
  have hm:=dM (W:=W) (hs m rfl)
  refine⟨_,.agg (us.extract off (off+m)),aZ hg,by simp only[part,d9t,ha,Option.isSome_some,d9q,e4b,hm,d9u],_,rfl,?_,?_⟩
  ·have hl:=hc.length
   refine RVs.of_get ?_ λj x hj=>?_
   ·simp only[Array.toList_extract,e7c,e4l,e2p]at h4⊢
    rw[hl];omega
   ·have hj':cs[off+j]?=some x/\j<m:=by
     rw[e4i]at hj
     split at hj
     ·rename_i hlt;rw[e4n]at hj;exact⟨hj,hlt⟩
     ·cases hj
    obtain⟨u,h5,h6⟩:=hc.get hj'.1
    refine⟨u,?_,h6⟩
    simp only[Array.toList_extract,e7c]
    rw[e4i,e0c (by omega),e4n];exact h5
  ·intro w hw
   simp only[Array.toList_extract,e7c]at hw
   exact h1 w (List.mem_of_mem_drop (e5f hw))
theorem d8w {s i:Nat}{x:Operand}{f:Field}{n:Option Nat}(ho:o.op= .field s x i)(hf:c6o P s i=some f)(hn:agO P f.type=some n)(hg:goF h (d6f n f.offset x ev nm)=some (ls,ac)):Pu P E ρ W (execOp re o) ac:=by
 obtain⟨cs,hx,hg⟩:=a4k hg
 have hr:=hev x
 rw[hx]at hr
 obtain⟨us,h1,h2,h3⟩:=hr
 unfold c6o at hf
 split at hf
 ·rename_i fs hu
  obtain⟨v,u,q1,q2,q3⟩:=mS (W:=W) hn h2 h3 hg
  refine .of q1 (u:=u) ?_ q3
  simp only[execOp,ho,h1,Instr.field,d9t,e0k hu,d9q,hf,asAgg,d9u,q2]
 ·cases hf
theorem d8z {t e len k:Nat}{x i:Operand}{n:Option Nat}(ho:o.op= .index t x i)(hu:P.underlying t=some (.array len e))(hk:szO P e=some k)(hn:agO P e=some n)(hg:goF h (d6h n k len x i ev nm)=some (ls,ac)):Pu P E ρ W (execOp re o) ac:=by
 obtain⟨ki,j,hi,hg⟩:=lZ hg
 obtain⟨cs,hx,hg⟩:=a4k hg
 obtain⟨hlt,hg⟩:=aP hg
 have hlt:j<len:=aL.1 hlt
 have hr:=hev x
 rw[hx]at hr
 obtain⟨us,h1,h2,h3⟩:=hr
 obtain⟨v,u,q1,q2,q3⟩:=mS (W:=W) hn h2 h3 hg
 refine .of q1 (u:=u) ?_ q3
 have hsz:=dM (W:=W) hk
 have h0:(0:Int)<=(j:Int)/\(j:Int)<(len:Int):=by omega
 have q2:(part e us (j*k)).run P W= .ok u W:=q2
 simp only[execOp,ho,h1,evN hev hi,Instr.index,asIntOf,d9t,d9u,e0k hu,d9q,h0,and_self,e4b,hsz,e1b,q2]
theorem d4j {t:Nat}{x i:Operand}(ho:o.op= .index t x i)(hu:P.underlying t=some .string)(hg:goF h (c6b x i ev nm)=some (ls,ac)):Pu P E ρ W (execOp re o) ac:=by
 obtain⟨ki,j,hi,hg⟩:=lZ hg
 have hr:=hev x
 cases hv:ev x with
 |z v=>
  rw[hv]at hg hr
  have hg:goF h (d4v v j)=_:=hg
  unfold d4v at hg
  split at hg
  ·rename_i s
   split at hg
   ·rename_i b hb
    refine .of (aZ hg) (u:= .int .u8 b.toNat) ?_ rfl
    have h0:(0:Int)<=(j:Int):=by omega
    simp only[execOp,ho,hr.1,evN hev hi,Instr.index,asIntOf,d9t,d9u,e0k hu,d9q,h0,e4b,e1b,hb]
   ·exact aT hg
  ·exact aT hg
 |_=>rw[hv]at hg;exact aT hg
theorem d8y {t e k:Nat}{x i:Operand}(ho:o.op= .indexAddr t x i)(hu:P.underlying t=some (.slice e))(hk:szO P e=some k)(hg:goF h (c6w k none x i ev nm)=some (ls,ac)):Pu P E ρ W (execOp re o) ac:=by
 obtain⟨ki,j,hi,hg⟩:=lZ hg
 rcases oG hg with⟨id,off,len,cap,ex,hx,hg⟩|⟨_,hg⟩
 ·obtain⟨hlt,hg⟩:=aP hg
  have hlt:j<len:=aL.1 hlt
  rw[fE]at hg
  have hr:=hev x
  rw[hx]at hr
  obtain⟨l,c,a,h1,h2,h3,h4,_,h5,_⟩:=hr
  obtain rfl:=h5 (by omega)
  refine .of (aZ hg) (u:= .pointer (some ⟨l.b,l.o+off+j*k,none⟩)) ?_ ⟨l,h1,by rw[e3j];rfl⟩
  have hsz:=dM (W:=W) hk
  have h0:(0:Int)<=(j:Int)/\(j:Int)<(len:Int):=by omega
  simp only[execOp,ho,h2,evN hev hi,Instr.indexAt,asIntOf,d9t,d9u,e0k hu,d9q,h0,and_self,e4b,hsz,e1b,eO]
 ·exact aT hg
theorem d4i {t e k len:Nat}{x i:Operand}(ho:o.op= .indexAddr t x i)(hu:P.underlying t=some (.array len e))(hk:szO P e=some k)(hg:goF h (c6w k (some len) x i ev nm)=some (ls,ac)):Pu P E ρ W (execOp re o) ac:=by
 obtain⟨ki,j,hi,hg⟩:=lZ hg
 obtain⟨id,off,hx,hg⟩:=tO hg
 obtain⟨hlt,hg⟩:=aP hg
 have hlt:j<len:=aL.1 hlt
 rw[fE]at hg
 have hr:=hev x
 rw[hx]at hr
 obtain⟨l,h1,h2⟩:=hr
 refine .of (aZ hg) (u:= .pointer (some ⟨l.b,l.o+off+j*k,none⟩)) ?_ ⟨l,h1,by rw[e3j];rfl⟩
 have hsz:=dM (W:=W) hk
 have h0:(0:Int)<=(j:Int)/\(j:Int)<(len:Int):=by omega
 simp only[execOp,ho,h2,evN hev hi,Instr.indexAt,asIntOf,d9t,d9u,e0k hu,d9q,Instr.sureAddr,h0,and_self,e4b,hsz,e1b,eO]
theorem d9a {t:Nat}{x:Operand}{k e:Nat}(ho:o.op= .makeInterface t x)(hu:P.underlying t=some (.map k e))(hg:goF h (d6j t x ev nm)=some (ls,ac)):Pu P E ρ W (execOp re o) ac:=by
 obtain⟨id,hx,hg⟩:=iC hg
 have hr:=hev x
 rw[hx]at hr
 obtain⟨l,h1,h2⟩:=hr
 exact .of (aZ hg) (u:= .iface t (.map (some l.b))) (by simp[execOp,ho,h2,Instr.makeInterface,e0k hu]) ⟨l,h1,rfl⟩
theorem d9d {t s:Nat}{x:Operand}{k e:Nat}(ho:o.op= .typeAssert x s t false)(hu:P.underlying t=some (.map k e))(hg:goF h (d1y t x ev nm)=some (ls,ac)):Pu P E ρ W (execOp re o) ac:=by
 have hr:=hev x
 unfold d1y at hg
 cases hv:ev x with
 |e t' id=>
  rw[hv]at hg hr
  obtain⟨l,h1,h2⟩:=hr
  obtain⟨he,hg2⟩:=aP (show goF h (bif Nat.beq t t' then rv (.m id)else .no)=_ from hg)
  obtain rfl:=d9s he
  exact .of (aZ hg2) (u:= .map (some l.b)) (by simp[execOp,ho,h2,Instr.typeAssert,e0k hu]) ⟨l,h1,rfl⟩
 |_=>rw[hv]at hg;exact aT hg
theorem a5k (mx:Bool)(k:IntKind):∀(l:List Operand) (x:Int),goF h (d3u mx k (l.map ev) x)=some (ls,ac)->∃m,ac= .ret (.i k m)/\((l.map re).foldlM (bif mx then Builtin.max2 else Builtin.min2) (.int k x)).run P W= .ok (.int k m) W
 |[],x,hg=>⟨x,aZ hg,by simp⟩
 |y::l,x,hg=>by
  obtain⟨j,n,hy,hg⟩:=tN (show goF h (asI (ev y) λ_ y=>d3u mx k (l.map ev) (bif (bif mx then ilt x y else ilt y x)then y else x))=_ from hg)
  obtain⟨m,h1,h2⟩:=a5k mx k l _ hg
  refine⟨m,h1,?_⟩
  have e:((bif mx then Builtin.max2 else Builtin.min2) (.int k x) (re y):Sem Value).run P W= .ok (.int k (bif (bif mx then ilt x n else ilt n x)then n else x)) W:=by
   rw[evI hev hy]
   cases mx
   ·simp only[e2n,Builtin.min2,d9u,vW]
    by_cases q:n<x<;>simp[q]
   ·simp only[e0q,Builtin.max2,d9u,vW]
    by_cases q:x<n<;>simp[q]
  rw[e0o,List.foldlM_cons,d9t,e]
  exact h2
theorem d7h (mx:Bool){x:Operand}{l:List Operand}{args:Array Operand}{ts:Array Nat}(ho:o.op= .call {callee:= .builtin (if mx then .max else .min),args,argTypes:=ts})(ha:args.toList=x::l)(hg:goF h (d0z mx x l ev nm)=some (ls,ac)):Pu P E ρ W (execOp re o) ac:=by
 obtain⟨k,n,hx,hg⟩:=tN hg
 obtain⟨m,h1,h2⟩:=a5k (W:=W) (P:=P) hev mx k l n hg
 refine .of h1 (u:= .int k m) ?_ rfl
 have hm:(args.map re).toList= .int k n::l.map re:=by rw[e4f,ha,e0o,evI hev hx]
 cases mx
 ·simp only[execOp,ho,resolve,invoke,builtin,Builtin.min_,d9t,d9u,d9q,hm,e2l,e3g]
  have h2:((l.map re).foldlM Builtin.min2 (.int k n)).run P W= .ok (.int k m) W:=h2
  rw[h2];rfl
 ·simp only[execOp,ho,resolve,invoke,builtin,Builtin.max_,d9t,d9u,d9q,hm,e4b]
  have h2:((l.map re).foldlM Builtin.max2 (.int k n)).run P W= .ok (.int k m) W:=h2
  rw[h2];rfl
end Go.Kx
set_option linter.unusedVariables false
set_option linter.unusedSimpArgs false
namespace Go.Kx
open Go
open Go.Px (KT aJ KeyOk EqT eL)
variable {P:Program} {E:Vl} {ρ:Rh} {Ow:Nat->Prop} {Fr:Id->Prop} {nm:Id} {h:Hf} {W:World} {ls:List Id} {ac:Ac}
theorem RVs.take:∀{l:List V} {us:List Value} (n:Nat),RVs E ρ l us->RVs E ρ (l.take n) (us.take n)
 |_,_,0,_=>by simp only[List.take_zero];rfl
 |[],_,n+1,h=>by cases h;simp only[List.take_nil];rfl
 |v::l,_,n+1,⟨u,r,h1,h2,h3⟩=>by subst h1;exact⟨u,r.take n,rfl,h2,RVs.take n h3⟩
theorem RVs.drop:∀{l:List V} {us:List Value} (n:Nat),RVs E ρ l us->RVs E ρ (l.drop n) (us.drop n)
 |_,_,0,h=>by simpa using h
 |[],_,n+1,h=>by cases h;simp only[List.drop_nil];rfl
 |v::l,_,n+1,⟨u,r,h1,h2,h3⟩=>by subst h1;exact RVs.drop n h3
theorem RVs.ov {l m:List V}{us vs:List Value}(off:Nat)(h1:RVs E ρ l us)(h2:RVs E ρ m vs):RVs E ρ (ov l off m) (ov us off vs):=by
 unfold Kx.ov
 rw[h2.length]
 exact((h1.take off).app h2).app (h1.drop _)
theorem c8o {α:Type}{l m:List α}{off:Nat}{x:α}(hx:x∈ov l off m):x∈l\/x∈m:=by
 unfold ov at hx
 simp only[e0x]at hx
 rcases hx with(hx|hx)|hx
 ·exact .inl (e5f hx)
 ·exact .inr hx
 ·exact .inl (List.mem_of_mem_drop hx)
def One (us:List Value):Prop:=∀w∈us,w.oneCell'=true
theorem One.app {a b:List Value}(h1:One a)(h2:One b):One (a++b):=λw hw=>(e0x.1 hw).elim (h1 w) (h2 w)
theorem One.ov {a b:List Value}{off:Nat}(h1:One a)(h2:One b):One (ov a off b):=λw hw=>(c8o hw).elim (h1 w) (h2 w)
theorem a4b {z:List V}{t:Nat}(hz:zcO P t=some z):∃v,zvO P t=some v/\szO P t=some v.cells.size/\RVs E ρ z v.cells.toList/\One v.cells.toList:=by
 obtain⟨v,h1,h2,h3,rfl⟩:=d1d hz
 exact⟨v,h1,h3,qA h2,λw hw=>a6x (e1d.1 h2 w hw)⟩
theorem vL {v:V}{u:Value}{K:List V->Rq}{r:List Id×Ac}(hv:RV E ρ v u)(hg:goF h (oH v K)=some r):∃cs,goF h (K cs)=some r/\RVs E ρ cs u.cells.toList/\One u.cells.toList:=by
 rcases b0r hg with⟨cs,rfl,hg⟩|⟨h1,hg⟩
 ·obtain⟨us,rfl,h2,h3⟩:=hv
  exact⟨cs,hg,h2,h3⟩
 ·have h2:=hv.one h1
  have hc:u.cells= #[u]:=by cases u<;>first|rfl|cases h2
  rw[hc]
  exact⟨[v],hg,⟨u,[],rfl,hv,rfl⟩,λw hw=>by simp at hw;rw[hw];exact h2⟩
theorem cT.new {s:Sem Next}{v:V}{u:Value}{o:O}{obj:Obj}{l:Lc}(hh:HR E Ow ρ h Fr W)(hf:Fr nm)(hr:s.run P W= .ok (.value u) (W.alloc obj))(hb:l.b=W.heap.size)(ho:RO E (upR ρ nm l) (W.alloc obj) nm l o)(hv:RV E (upR ρ nm l) v u):
  cT P E Ow ρ Fr nm h W s v (upH h nm (some o)) true:=by
 have hs:(W.alloc obj).heap.size=W.heap.size+1:=by show(W.heap.push obj).size=_;simp
 refine⟨upR ρ nm l,W.alloc obj,u,.inl hr,dN (hh.fr nm hf),λid hid=>by unfold upR;rw[d9z hid],hv,hh.new hf hb (λb hb=>e3f W obj hb) hs ho,⟨rfl,rfl,rfl,by omega,λb hb _=>e3f W obj hb⟩,λq=>(by cases q)⟩
theorem b3v {ρ':Rh}{cs:List V}{c:Array Value}{T:Nat}{l:Lc}(hl:l.b=W.heap.size/\l.o=0/\l.n=c.size)(hle:cs.length<=c.size)(hc:RVs E ρ' cs (c.toList.take cs.length))(h1:One (c.toList.take cs.length)):RC E ρ' (W.alloc (.cells c T)) l cs:=by
 obtain⟨b,o,n,it,mp⟩:=l
 obtain⟨rfl,rfl,rfl⟩:=hl
 refine⟨c,T,heap_alloc_new W _,rfl,by simpa using hle,λj x hj=>?_⟩
 obtain⟨u,h2,h3⟩:=hc.get hj
 have hj':j<cs.length:=(e1l.1 hj).1
 rw[e4i,e0c hj']at h2
 have e:c.getD (0+j) undef=u:=by
  rw[e0f,d9x,<-e0s,h2];rfl
 rw[show(Lc.mk W.heap.size 0 c.size it mp).o=0 from rfl,e]
 exact⟨h3,h1 u (e1j (by rw[e4i,e0c hj'];exact h2))⟩
theorem c1e {ρ':Rh}{cs:List V}{c:Array Value}{T:Nat}{l:Lc}(hl:l.b=W.heap.size/\l.o=0/\l.n=c.size)(hc:RVs E ρ' cs c.toList)(h1:One c.toList):RC E ρ' (W.alloc (.cells c T)) l cs:=by
 have hs:cs.length=c.size:=by rw[<-hc.length];simp
 have e:c.toList.take cs.length=c.toList:=e4a (by rw[hc.length];exact e0g _)
 exact b3v hl (by omega) (by rw[e];exact hc) (by rw[e];exact h1)
theorem cS (T:Nat)(c:Array Value):(newRow T c).run P W= .ok ⟨W.heap.size,0,none⟩ (W.alloc (.cells c T)):=rfl
def lcN (W:World)(n:Nat):Lc:=⟨W.heap.size,0,n,default,default⟩
theorem bL (ρ:Rh)(id:Id)(l:Lc):upR ρ id l id=some l:=by unfold upR;rw[e0c rfl]
section
variable {ev:Operand->V} {re:Operand->Value} (hev:∀x,RV E ρ (ev x) (re x)) (o:Oper) (hh:HR E Ow ρ h Fr W) (hf:iK ac=true->Fr nm)
include hev hh hf
omit hev in
theorem d3s {t:Nat}{z:List V}(ho:o.op= .alloc t)(hz:zcO P t=some z)(hg:goF h (d1a z ev nm)=some (ls,ac)):cT P E Ow ρ Fr nm h W (execOp re o) ac.v (apH nm ac h) (iK ac):=by
 cases hg
 have hf:=hf rfl
 have hle:=dN (l:=lcN W ((zvO P t).getD undef).cells.size) (hh.fr nm hf)
 obtain⟨v,h1,h2,h3,h4⟩:=a4b (E:=E) (ρ:=upR ρ nm (lcN W ((zvO P t).getD undef).cells.size)) hz
 rw[h1]at h3 hle
 refine cT.new (l:=lcN W v.cells.size) (obj:= .cells v.cells t) hh hf (u:= .pointer (some ⟨W.heap.size,0,none⟩)) ?_ rfl (c1e ⟨rfl,rfl,rfl⟩ h3 h4) ⟨_,bL _ _ _,rfl⟩
 simp only[execOp,ho,Instr.alloc,d9t,iY h1,d9q,newVar,cS,d9u]
theorem d3m {t:Nat}{x:Operand}(ho:o.op= .box t x)(hg:goF h (c5w x ev nm)=some (ls,ac)):cT P E Ow ρ Fr nm h W (execOp re o) ac.v (apH nm ac h) (iK ac):=by
 obtain⟨cs,hg,h2,h3⟩:=vL (hev x) hg
 cases hg
 have hf:=hf rfl
 have hle:=dN (l:=lcN W (re x).cells.size) (hh.fr nm hf)
 refine cT.new (l:=lcN W (re x).cells.size) (obj:= .cells (re x).cells t) hh hf (u:= .pointer (some ⟨W.heap.size,0,none⟩)) ?_ rfl (c1e ⟨rfl,rfl,rfl⟩ (h2.le hle) h3) ⟨_,bL _ _ _,rfl⟩
 simp only[execOp,ho,Instr.box,d9t,newVar,cS,d9q,d9u]
end
theorem c8z {α:Type}{l:List α}{k:Nat}{u:α}{us:List α}(hk:k+1+us.length<=l.length):ov (l.set k u) (k+1) us=ov l k (u::us):=by
 unfold ov
 have e1:(l.set k u).take (k+1)=l.take k++[u]:=by
  rw[List.take_set,List.take_succ_eq_append_getElem (by omega),List.set_append_right _ _ (by simp;omega)]
  simp[Nat.min_eq_left (show k<=l.length by omega)]
 have e2:(l.set k u).drop (k+1+us.length)=l.drop (k+(u::us).length):=by
  rw[List.drop_set_of_lt (by omega)];congr 1;simp;omega
 rw[e1,e2];simp
theorem b1q (o:Nat):∀(us:List Value) (d:Nat) (cur:Array Value),o+d+us.length<=cur.size->((us.zipIdx d).foldl (λ(cs:Array Value) (c,j)=>cs.setIfInBounds (o+j) c) cur).toList=ov cur.toList (o+d) us
 |[],d,cur,_=>by simp[ov]
 |u::us,d,cur,hle=>by
  simp only[e0r]at hle
  rw[List.zipIdx_cons,e5j]
  have ih:=b1q o us (d+1) (cur.setIfInBounds (o+d) u) (by rw[e2i];omega)
  rw[ih,Array.toList_setIfInBounds]
  exact c8z (l:=cur.toList) (k:=o+d) (by simp;omega)
def Pls (place:Nat->Option (Nat×Nat)):List (Nat×Operand)->List (Nat×Nat×Operand)->Prop
  |[],ps=>ps=[]
  |p::l,ps=>∃q r,ps=q::r/\place p.1=some (q.1,q.2.1)/\q.2.2=p.2/\Pls place l r
theorem iH {place:Nat->Option (Nat×Nat)}{ev:Operand->V}{re:Operand->Value}(hev:∀x,RV E ρ (ev x) (re x)){K:List V->Rq}{r:List Id×Ac}:∀(L:List (Nat×Operand)) (ps:List (Nat×Nat×Operand)) (z:List V) (cells:Array Value),Pls place L ps->RVs E ρ z cells.toList->One cells.toList->goF h (tC ev ps z K)=some r->
  ∃z' cs,goF h (K z')=some r/\z'.length=z.length/\Instr.fill place cells (L.map λp=>(p.1,re p.2))=some cs/\RVs E ρ z' cs.toList/\One cs.toList
 |[],ps,z,cells,hp,h1,h2,hg=>by obtain rfl:ps=[]:=hp;exact⟨z,cells,hg,rfl,rfl,h1,h2⟩
 |(i,x)::L,ps,z,cells,hp,h1,h2,hg=>by
  obtain⟨⟨off,n,x'⟩,r',rfl,hpl,rfl,hp⟩:=hp
  obtain⟨l,hg,q1,q2⟩:=vL (hev x') (show goF h (oH (ev x') λl=>bif Nat.beq (nQ l) n then a3d z off l λz=>tC ev r' z K else .no)=_ from hg)
  obtain⟨hn,hg⟩:=aP hg
  have hn:=d9s hn
  rw[gE]at hn
  obtain⟨hle,hg⟩:=nY hg
  have hsz:(re x').cells.size=n:=by rw[<-hn,<-q1.length];simp
  have hzl:cells.size=z.length:=by rw[<-h1.length];simp
  have hfo:((re x').cells.zipIdx.foldl (λ(cs:Array Value) (c,j)=>cs.setIfInBounds (off+j) c) cells).toList=ov cells.toList off (re x').cells.toList:=by
   rw[<-e6r,Array.toList_zipIdx]
   exact b1q off _ 0 cells (by simp only[e1c];omega)
  obtain⟨z',cs,g1,g2,g3,g4,g5⟩:=iH hev L r' _ ((re x').cells.zipIdx.foldl (λ(cs:Array Value) (c,j)=>cs.setIfInBounds (off+j) c) cells) hp (by rw[hfo];exact h1.ov off q1) (by rw[hfo];exact h2.ov q2) hg
  refine⟨z',cs,g1,by rw[g2,zN hle],?_,g4,g5⟩
  have hpl:place i=some (off,n):=hpl
  simp only[e0o,Instr.fill,hpl]
  rw[d9z (by simp only[e3d,e4h,ne_eq,not_or,Classical.not_not,bne_iff_ne];omega)]
  exact g3
theorem c1d {fs:List Field}:∀{l:List (Nat×Operand)} {ps:List (Nat×Nat×Operand)},plS P fs l=some ps->∀{place:Nat->Option (Nat×Nat)},(∀(i:Nat) (f:Field) (n:Nat),fs[i]?=some f->szO P f.type=some n->place i=some (f.offset,n))->Pls place l ps
 |[],ps,hp,_,_=>by cases hp;rfl
 |(i,x)::l,ps,hp,place,hpl=>by
  simp only[plS]at hp
  split at hp
  ·rename_i f hf
   split at hp
   ·rename_i n r hn hr
    cases hp
    exact⟨_,r,rfl,hpl i f n hf hn,rfl,c1d hr hpl⟩
   ·cases hp
  ·cases hp
theorem b3l {k:Nat}:∀{l:List (Nat×Operand)},Pls (λi=>some (i*k,k)) l (plA k l)
 |[]=>rfl
 |(i,x)::l=>⟨_,_,rfl,rfl,rfl,b3l⟩
theorem c5m {fs:List Field}(hs:c5l P fs=true):(fs.mapM λf=>do pure (f.offset,<-sizeOf f.type):Sem (List (Nat×Nat))).run P W= .ok (fs.map λf=>(f.offset,(szO P f.type).getD 0)) W:=by
 induction fs with
 |nil=>rfl
 |cons f fs ih=>
  have hs:((szO P f.type).isSome&&c5l P fs)=true:=hs
  rw[e0d]at hs
  obtain⟨n,hn⟩:=Option.isSome_iff_exists.1 hs.1
  rw[e6p]
  simp only[d9t,dM hn,d9q,d9u,ih hs.2,e0o,hn,e2v]
section
variable {ev:Operand->V} {re:Operand->Value} (hev:∀x,RV E ρ (ev x) (re x)) (o:Oper)
include hev
theorem c9e {t:Nat}{ps:Array (Nat×Operand)}{z:List V}{fs:Array Field}{l:List (Nat×Nat×Operand)}(ho:o.op= .build t ps)(hz:zcO P t=some z)(hu:P.underlying t=some (.struct fs))(hs:c5l P fs.toList=true)(hl:plS P fs.toList ps.toList=some l)(hg:goF h (a3z z l ev nm)=some (ls,ac)):Pu P E ρ W (execOp re o) ac:=by
 obtain⟨v,h1,_,h3,h4⟩:=a4b (E:=E) (ρ:=ρ) hz
 obtain⟨z',cs,g1,g2,g3,g4,g5⟩:=iH (place:=λi=>((fs.toList.map λf=>(f.offset,(szO P f.type).getD 0)).toArray)[i]?) hev _ _ _ _ (c1d hl λi f n hf hn=>by
  rw[e0t,e0j,hf];simp[hn]) h3 h4 hg
 refine .of (aZ g1) (u:= .agg cs) ?_ ⟨cs,rfl,g4,g5⟩
 have hm:(fs.mapM λf=>do pure (f.offset,<-sizeOf f.type):Sem (Array (Nat×Nat))).run P W= .ok (fs.toList.map λf=>(f.offset,(szO P f.type).getD 0)).toArray W:=by
  rw[e3o,e7g,c5m hs];rfl
 have hp:(ps.map λ(i,x)=>(i,re x)).toList=ps.toList.map λp=>(p.1,re p.2):=by simp
 simp only[execOp,ho,Instr.build,d9t,iY h1,d9q,e0k hu,hm,hp,g3,d9u]
theorem c9d {t e n k:Nat}{ps:Array (Nat×Operand)}{z:List V}(ho:o.op= .build t ps)(hz:zcO P t=some z)(hu:P.underlying t=some (.array n e))(hk:szO P e=some k)(hg:goF h (a3z z (plA k ps.toList) ev nm)=some (ls,ac)):Pu P E ρ W (execOp re o) ac:=by
 obtain⟨v,h1,_,h3,h4⟩:=a4b (E:=E) (ρ:=ρ) hz
 obtain⟨z',cs,g1,g2,g3,g4,g5⟩:=iH hev _ _ _ _ (b3l (k:=k)) h3 h4 hg
 refine .of (aZ g1) (u:= .agg cs) ?_ ⟨cs,rfl,g4,g5⟩
 have hp:(ps.map λ(i,x)=>(i,re x)).toList=ps.toList.map λp=>(p.1,re p.2):=by simp
 simp only[execOp,ho,Instr.build,d9t,iY h1,d9q,e0k hu,dM hk,hp,g3,d9u]
end
theorem wU {l:List V}{us:List Value}(hl:RVs E ρ l us)(n:Nat):RVs E ρ (a9k l n) (List.replicate n us).flatten:=by
 induction n with
 |zero=>rfl
 |succ n ih=>
  have e:a9k l (n+1)=eH l (a9k l n):=rfl
  rw[e,jE,List.replicate_succ,List.flatten_cons]
  exact hl.app ih
theorem qC {us:List Value}(hu:One us)(n:Nat):One (List.replicate n us).flatten:=by
 induction n with
 |zero=>intro w hw;cases hw
 |succ n ih=>rw[List.replicate_succ,List.flatten_cons];exact hu.app ih
theorem qG (z:Array Value)(n:Nat)(hz:z.size≠0):((Array.range (n*z.size)).map (z[· %z.size]!)).toList=(List.replicate n z.toList).flatten:=by
 apply e3u
 intro j
 have hl:(List.replicate n z.toList).flatten.length=n*z.size:=by simp
 by_cases hj:j<n*z.size
 ·have hm:j %z.size<z.size:=Nat.mod_lt _ (by omega)
  rw[e0s,e6s,e7b,e0c hj]
  simp only[e1y]
  rw[getElem!_pos z _ hm]
  induction n generalizing j with
  |zero=>omega
  |succ n ih=>
   rw[List.replicate_succ,List.flatten_cons]
   by_cases h1:j<z.size
   ·rw[e1u (by simpa using h1),e0s]
    simp only[Nat.mod_eq_of_lt h1]
    rw[e0y h1]
   ·rw[e1m (by simpa using h1)]
    have e:(j-z.size)%z.size=j %z.size:=by rw[<-Nat.mod_eq_sub_mod (by omega)]
    have:=ih (j-z.size) (by simp) (by rw[e1s]at hj;omega) (by rw[e];exact hm)
    simp only[e]at this
    simpa using this
 ·rw[e1w (by simp;omega),e1w (by omega)]
end Go.Kx
set_option linter.unusedVariables false
set_option linter.unusedSimpArgs false
namespace Go.Kx
open Go
open Go.Px (KT aJ KeyOk EqT eL)
variable {P:Program} {E:Vl} {ρ:Rh} {Ow:Nat->Prop} {Fr:Id->Prop} {nm:Id} {h:Hf} {W:World} {ls:List Id} {ac:Ac}
theorem HR.get (hh:HR E Ow ρ h Fr W){id:Id}{o:O}{l:Lc}(hi:h id=some o)(hl:ρ id=some l):RO E ρ W id l o/\Ow l.b/\l.b<W.heap.size:=by
 obtain⟨l',h1,h2,h3,h4⟩:=hh.obj id o hi
 rw[hl]at h1;cases h1;exact⟨h4,h2,h3⟩
theorem cK {b:Nat}{c:Array Value}{T:TypeId}{fz:Nat×Nat}(hb:W.heap[b]?=some (Obj.cells c T fz)){o:Nat}(ho:o<c.size):W.cell? ⟨b,o,none⟩=some (c.getD o undef):=by
 simp[World.cell?,hb,ho,Array.getD]
theorem a5x {l:Lc}{cs:List V}(hc:RC E ρ W l cs){off n:Nat}(hn:n=0\/off+n<=cs.length):
  ∃us:List Value,us.length=n/\RVs E ρ ((cs.drop off).take n) us/\One us/\∀W2:World,W2.heap=W.heap->(loadCells ⟨l.b,l.o+off,none⟩ n).run P W2= .ok us.toArray W2:=by
 obtain⟨c,T,h1,h2,h3,h4⟩:=hc
 refine⟨(List.range n).map λj=>c.getD (l.o+off+j) undef,by simp,RVs.of_get (by simp only[e0z,e2o,e4l,e2p];omega) λj x hj=>?_,λw hw=>?_,?_⟩
 ·rw[e4i]at hj
  split at hj
  ·rename_i hlt
   rw[e4n]at hj
   refine⟨c.getD (l.o+off+j) undef,by simp[hlt],?_⟩
   rw[e3j];exact(h4 _ _ hj).1
  ·cases hj
 ·obtain⟨j,hj,rfl⟩:=e0l.1 hw
  have hj:=e1e.1 hj
  have hlt:off+j<cs.length:=by omega
  rw[e3j]
  exact(h4 (off+j) _ (e0e hlt)).2
 ·intro W2 e
  exact run_loadCells W2 _ n _ λj hj=>by
   rw[eO]
   exact cK (by rw[e];exact h1) (by omega)
theorem b8c {t:Nat}{n:Option Nat}(hn:agO P t=some n){l:Lc}{cs:List V}(hc:RC E ρ W l cs){off:Nat}(hg:goF h (yU n cs off)=some (ls,ac)):
  ∃v u,ac= .ret v/\(loadVar t ⟨l.b,l.o+off,none⟩).run P W= .ok u W/\RV E ρ v u:=by
 obtain⟨ha,hs⟩:=a9u (W:=W) hn
 cases n with
 |none=>
  obtain⟨v,h3,hg⟩:=gL (show goF h (ifS (nth cs off) .no rv)=_ from hg)
  rw[uP]at h3
  obtain⟨c,T,h1,h2,h5,h4⟩:=hc
  have hlt:off<cs.length:=(e1l.1 h3).1
  refine⟨v,c.getD (l.o+off) undef,aZ hg,?_,(h4 off v h3).1⟩
  have e:=cK (o:=l.o+off) h1 (by omega)
  simp only[loadVar,d9t,ha,Option.isSome_none,d9q,e2l,e3g,run_load,e]
 |some m=>
  obtain⟨h3,h4,hg⟩:=b9r (show goF h (tk off m cs λl=>rv (.a l))=_ from hg)
  obtain⟨us,q1,q2,q3,q4⟩:=a5x (P:=P) hc h3
  refine⟨_,.agg us.toArray,aZ hg,?_,us.toArray,rfl,q2,q3⟩
  simp only[loadVar,d9t,ha,Option.isSome_some,d9q,e4b,dM (hs m rfl),q4 W rfl,d9u]
theorem cT.set {b0:Bool}{s:Sem Next}{v:V}{u:Value}{o:O}{W':World}{id:Id}{l:Lc}(hh:HR E Ow ρ h Fr W)(hi:h id≠none)(hl:ρ id=some l)(hr:s.run P W= .ok (.value u) W'\/(s.run P W= .ok .skip W'/\u=undef))(hW:∀b,b≠l.b->W'.heap[b]?=W.heap[b]?)(hs:W'.heap.size=W.heap.size)(hw:W'.os=W.os/\W'.tape=W.tape/\W'.output=W.output/\W'.drawn=W.drawn)(ho:RO E ρ W' id l o)(hv:RV E ρ v u):
  cT P E Ow ρ Fr nm h W s v (upH h id (some o)) b0:=by
 have hown:Ow l.b:=by
  cases he:h id with
  |none=>exact absurd he hi
  |some o0=>exact(hh.get he hl).2.1
 exact⟨ρ,W',u,hr,e7n _,λ_ _=>rfl,hv,(hh.set hi hl hW hs ho).less λ_ q=>q.1,⟨hw.1,hw.2.1,hw.2.2.1,by omega,λb _ hb=>hW b λe=>hb (by rw[e];exact hown)⟩,λ_=>rfl⟩
theorem a4z {α:Type}{l m:List α}{off:Nat}(hle:off+m.length<=l.length)(j:Nat):(ov l off m)[j]?=if off<=j/\j<off+m.length then m[j-off]? else l[j]?:=by
 unfold ov
 by_cases h1:j<off
 ·rw[e6g,e1u (by simp;omega),e4i,e0c h1,d9z (by omega)]
 ·by_cases h2:j<off+m.length
  ·rw[e1u (by simp;omega),e1m (by simp;omega),e0c (by omega)]
   congr 1;simp;omega
  ·rw[e1m (by simp;omega),d9z (by omega),e4n]
   congr 1;simp;omega
theorem b3w {l:Lc}{cs m:List V}{us:List Value}{off:Nat}(hc:RC E ρ W l cs)(hle:off+m.length<=cs.length)(hm:RVs E ρ m us)(h1:One us):
  ∃W',(storeCells ⟨l.b,l.o+off,none⟩ us).run P W= .ok () W'/\(∀b,b≠l.b->W'.heap[b]?=W.heap[b]?)/\W'.heap.size=W.heap.size/\(W'.os=W.os/\W'.tape=W.tape/\W'.output=W.output/\W'.drawn=W.drawn)/\RC E ρ W' l (ov cs off m):=by
 obtain⟨c,T,e1,e2,e3,e4⟩:=hc
 have hlen:=hm.length
 have hr:=e5h (P:=P) l.b (l.o+off) T us 0 c W e1 (by simp;omega) h1
 refine⟨_,hr,λb hb=>e5v W l.b b _ hb,setRow_size _ _ _,⟨rfl,rfl,rfl,rfl⟩,_,T,e6t W l.b c _ T _ e1,?_,by rw[zN hle];exact e3,λj x hj=>?_⟩
 ·simp;omega
 ·have hov:c.toList.take (l.o+off+0)++us++c.toList.drop (l.o+off+0+us.length)=ov c.toList (l.o+off) us:=by unfold ov;simp
  rw[hov]
  have hg:∀k,(ov c.toList (l.o+off) us).toArray.getD k undef=if l.o+off<=k/\k<l.o+off+us.length then us.getD (k-(l.o+off)) undef else c.getD k undef:=λk=>by
   rw[d9x,e0t,a4z (by simp;omega)]
   split
   ·rw[d9r]
   ·rw[d9x,e0s]
  rw[hg,hlen]
  rw[a4z hle]at hj
  split at hj
  ·rename_i hin
   rw[e0c (by omega)]
   obtain⟨u,q1,q2⟩:=hm.get hj
   have e:us.getD (l.o+j-(l.o+off)) undef=u:=by rw[d9r,show l.o+j-(l.o+off)=j-off by omega,q1];rfl
   rw[e]
   exact⟨q2,h1 u (e1j q1)⟩
  ·rename_i hin
   rw[d9z (by omega)]
   exact e4 j x hj
section
variable {ev:Operand->V} {re:Operand->Value} (hev:∀x,RV E ρ (ev x) (re x)) (o:Oper) (hh:HR E Ow ρ h Fr W) (hf:iK ac=true->Fr nm)
include hev hh
theorem d7f {t:Nat}{a:Operand}{n:Option Nat}(ho:o.op= .load t a)(hn:agO P t=some n)(hg:goF h (d6i n a ev nm)=some (ls,ac)):Pu P E ρ W (execOp re o) ac:=by
 obtain⟨id,off,ha,hg⟩:=tO hg
 obtain⟨ob,ls',hob,hg,_⟩:=dL hg
 obtain⟨cs,rfl,hg⟩:=tM hg
 have hr:=hev a
 rw[ha]at hr
 obtain⟨l,h1,h2⟩:=hr
 obtain⟨v,u,q1,q2,q3⟩:=b8c (W:=W) hn (hh.get hob h1).1 hg
 refine .of q1 (u:=u) ?_ q3
 simp only[execOp,ho,h2,Instr.loadAt,d9t,Instr.sureAddr,d9u,d9q,q2]
theorem d8q {t n:Nat}{a x:Operand}(ho:o.op= .store t a x)(hn:szO P t=some n)(hg:goF h (d6m n a x ev nm)=some (ls,ac)):cT P E Ow ρ Fr nm h W (execOp re o) ac.v (apH nm ac h) (iK ac):=by
 obtain⟨id,off,ha,hg⟩:=tO hg
 obtain⟨m,hg,q1,q2⟩:=vL (hev x) hg
 obtain⟨hlen,hg⟩:=aP hg
 have hlen:=d9s hlen
 rw[gE]at hlen
 obtain⟨ob,ls',hob,hg,_⟩:=dL hg
 have hr:=hev a
 rw[ha]at hr
 obtain⟨l,h1,h2⟩:=hr
 have hsz:(re x).cells.size=n:=by rw[<-hlen,<-q1.length];simp
 have hne:h id≠none:=by rw[hob];simp
 have hrun:∀{W'},(storeCells ⟨l.b,l.o+off,none⟩ (re x).cells.toList).run P W= .ok () W'->(execOp re o).run P W= .ok .skip W':=λhs=>by
  have hc:¬((re x).cells.size≠n):=by simp[hsz]
  simp only[execOp,ho,h2,Instr.storeAt,d9t,Instr.sureAddr,d9u,d9q,storeVar,dM hn,hc,e3g,hs]
 cases ob with
 |c cs=>
  obtain⟨hle,hg⟩:=nY (show goF h (a3d cs off m λcs=> .set (.t []) id (.c cs))=_ from hg)
  cases hg
  obtain⟨W',w1,w2,w3,w4,w5⟩:=b3w (P:=P) (hh.get hob h1).1 hle q1 q2
  exact cT.set hh hne h1 (.inr ⟨hrun w1,rfl⟩) w2 w3 w4 w5 ⟨#[],rfl,rfl⟩
 |lc n' w=>
  obtain⟨hb,hg⟩:=aP (show goF h (bif Nat.beq (nQ m) 1&&Nat.blt off n' then ifS (nth m 0) .no λx=> .set (.t []) id (.lc n' ((off,x)::w))else .no)=_ from hg)
  obtain⟨hb1,hb2⟩:=sU hb
  have hb1:=d9s hb1
  rw[gE]at hb1
  have hb2:off<n':=aL.1 hb2
  obtain⟨y,hy,hg⟩:=gL hg
  cases hg
  rw[uP]at hy
  obtain⟨cs0,e0,e1,e2⟩:=(hh.get hob h1).1
  have hset:∀(l:List V) (k:Nat) (x:V),c6v l k x=l.set k x:=by
   intro l
   induction l with
   |nil=>intro k x;rfl
   |cons y l ih=>intro k x;cases k with
    |zero=>rfl
    |succ k=>exact e2r (y:: ·) (ih k x)
  have hap:∀(w:List (Nat×V)) (cs:List V),(apC w cs).length=cs.length:=by
   intro w cs
   induction w with
   |nil=>rfl
   |cons p w ih=>show(c6v (apC w cs) p.1 p.2).length=_;rw[hset,List.length_set,ih]
  obtain⟨z,rfl⟩:=e2q.1 hb1
  simp at hy;subst hy
  have hlt:off+[z].length<=(apC w cs0).length:=by rw[hap,e1];exact hb2
  obtain⟨W',w1,w2,w3,w4,w5⟩:=b3w (P:=P) e2 hlt q1 q2
  refine cT.set hh hne h1 (.inr ⟨hrun w1,rfl⟩) w2 w3 w4 ⟨cs0,e0,e1,?_⟩ ⟨#[],rfl,rfl⟩
  have e:apC ((off,z)::w) cs0=ov (apC w cs0) off [z]:=by
   show c6v (apC w cs0) off z=_
   rw[hset]
   apply e3u
   intro j
   rw[a4z hlt,e4w]
   by_cases ej:off=j
   ·subst ej;rw[e0c rfl,e0c (show off<(apC w cs0).length from hlt),e0c (by simp)];simp
   ·rw[d9z ej,d9z (by simp;omega)]
  rw[e];exact w5
 |_=>exact aT hg
end
end Go.Kx
set_option linter.unusedVariables false
set_option linter.unusedSimpArgs false
namespace Go.Kx
open Go
open Go.Px (KT aJ KeyOk EqT eL)
variable {P:Program} {E:Vl} {ρ:Rh} {Ow:Nat->Prop} {Fr:Id->Prop} {nm:Id} {h:Hf} {W:World} {ls:List Id} {ac:Ac}
theorem jQ {t e:Nat}(hs:slT P t=some e):P.underlying t=some (.slice e):=by
 unfold slT at hs;split at hs
 ·cases hs;assumption
 ·cases hs
theorem c0x {t mx:Nat}(hm:mxO P t=some mx):mx=2048/\∃i,P.info? t=some i/\0<i.bytes/\i.bytes<=4294967296:=by
 unfold mxO at hm
 split at hm
 ·rename_i n hn
  cases hb:(Nat.blt 0 n&&Nat.ble n 4294967296)with
  |false=>rw[hb]at hm;cases hm
  |true=>
   rw[hb]at hm
   cases hm
   obtain⟨h1,h2⟩:=sU hb
   unfold byO at hn
   obtain⟨i,h3,rfl⟩:=e0u.1 hn
   exact⟨rfl,i,h3,aL.1 h1,aL.1 h2⟩
 ·cases hm
theorem wW (n:Nat):(askRoom n).run P W= .ok () W:=by unfold askRoom;split<;>rfl
section
variable {ev:Operand->V} {re:Operand->Value} (hev:∀x,RV E ρ (ev x) (re x)) (o:Oper) (hh:HR E Ow ρ h Fr W) (hf:iK ac=true->Fr nm)
omit hev in
theorem uI (hh:HR E Ow ρ h Fr W)(hf:Fr nm){s:Sem Next}{c:Array Value}{T n cap k:Nat}{cs:List V}{ex:Nat}(hr:s.run P W= .ok (.value (.slice (some ⟨W.heap.size,0,none⟩) n cap)) (W.alloc (.cells c T)))
  (hle:cs.length<=c.size) (hc:RVs E ρ cs (c.toList.take cs.length)) (h1:One (c.toList.take cs.length)) {cp:Nat} (hn:n<=cp) (hcp:cp<=cap) (h0:ex=0->cap=cp) (hx:ex≠0->cap*ex<=c.size):
  cT P E Ow ρ Fr nm h W s (.s nm 0 n cp ex) (upH h nm (some (.c cs))) true:=by
 have hl:=dN (l:=lcN W c.size) (hh.fr nm hf)
 exact cT.new (l:=lcN W c.size) hh hf hr rfl (b3v ⟨rfl,rfl,rfl⟩ hle (hc.le hl) h1) ⟨_,cap,0,bL _ _ _,rfl,hcp,hn,h0,λ_=>rfl,λq=>by rw[e0f];exact hx q⟩
include hev hh hf
theorem d3n {t e len k:Nat}{ps:Array (Nat×Operand)}{z:List V}(ho:o.op= .buildSlice t len ps)(hs:slT P t=some e)(hk:szO P e=some k)(hz:zcO P e=some z)(hle:len*k<=1048576)(hk0:0<k)(hg:goF h (d0x len (a9k z len) (plA k ps.toList) ev nm)=some (ls,ac)):cT P E Ow ρ Fr nm h W (execOp re o) ac.v (apH nm ac h) (iK ac):=by
 obtain⟨v,h1,h2,h3,h4⟩:=a4b (E:=E) (ρ:=ρ) hz
 rw[hk]at h2
 have h2:k=v.cells.size:=by cases h2;rfl
 have hcell:∃zero:Array Value,(len*k=0/\zero= #[]\/len*k≠0/\zero=v.cells)/\((Array.range (len*k)).map (zero[· %zero.size]!)).toList=(List.replicate len v.cells.toList).flatten:=by
  by_cases e0:len*k=0
  ·refine⟨#[],.inl ⟨e0,rfl⟩,?_⟩
   have:len=0:=by rcases Nat.mul_eq_zero.1 e0 with q|q<;>omega
   subst this;simp
  ·refine⟨v.cells,.inr ⟨e0,rfl⟩,?_⟩
   rw[h2];exact qG v.cells len (by omega)
 obtain⟨zero,q1,q2⟩:=hcell
 obtain⟨z',cs,g1,g2,g3,g4,g5⟩:=iH hev _ _ _ ((Array.range (len*k)).map (zero[· %zero.size]!)) (b3l (k:=k) (l:=ps.toList)) (by rw[q2];exact wU h3 len) (by rw[q2];exact qC h4 len) hg
 cases g1
 have hf:=hf rfl
 have hl:z'.length=cs.size:=by rw[<-g4.length];simp
 have ht:cs.toList.take z'.length=cs.toList:=e4a (by simp[hl])
 refine uI (T:=e) (k:=k) (ex:=0) hh hf (c:=cs) ?_ (by omega) (by rw[ht];exact g4) (by rw[ht];exact g5) (e0g _) (e0g _) (λ_=>rfl) (λq=>absurd rfl q)
 have hp:(ps.map λ(i,x)=>(i,re x)).toList=ps.toList.map λp=>(p.1,re p.2):=by simp
 have h24:¬(len*k>2^24):=by omega
 simp only[execOp,ho,Instr.buildSlice,d9t,e0k (jQ hs),d9q,dM hk,h24,e3g,d9u]
 rcases q1 with⟨e0,rfl⟩|⟨e0,rfl⟩
 ·rw[e0c e0];simp only[d9t,d9u,d9q,hp,g3,cS]
 ·rw[d9z e0];simp only[d9t,d9u,d9q,iY h1,hp,g3,cS]
theorem d3r {t e mx:Nat}{x y:Operand}{z:List V}(ho:o.op= .makeSlice t x y)(hs:slT P t=some e)(hm:mxO P e=some mx)(hz:zcO P e=some z)(hk0:0<z.length)(hg:goF h (c6c z mx x y ev nm)=some (ls,ac)):cT P E Ow ρ Fr nm h W (execOp re o) ac.v (apH nm ac h) (iK ac):=by
 obtain⟨k1,n,hx,hg⟩:=lZ hg
 obtain⟨k2,c,hy,hg⟩:=lZ hg
 obtain⟨hb,hg⟩:=aP hg
 obtain⟨hb1,hb2⟩:=sU hb
 have hb1:n<=c:=aL.1 hb1
 have hb2:c<=mx:=aL.1 hb2
 cases hg
 have hf:=hf rfl
 obtain⟨rfl,i,hi,hi0,hi1⟩:=c0x hm
 obtain⟨v,h1,h2,h3,h4⟩:=a4b (E:=E) (ρ:=ρ) hz
 have hvs:v.cells.size=z.length:=by rw[<-h3.length];simp
 have hcell:∃zero:Array Value,(c*v.cells.size=0/\zero= #[]\/c*v.cells.size≠0/\zero=v.cells)/\((Array.range (c*v.cells.size)).map (zero[· %zero.size]!)).toList=(List.replicate c v.cells.toList).flatten:=by
  by_cases e0:c*v.cells.size=0
  ·refine⟨#[],.inl ⟨e0,rfl⟩,?_⟩
   have:c=0:=by rcases Nat.mul_eq_zero.1 e0 with q|q<;>omega
   subst this;simp
  ·exact⟨v.cells,.inr ⟨e0,rfl⟩,qG v.cells c (by omega)⟩
 obtain⟨zero,q1,q2⟩:=hcell
 have hrv:=wU h3 c
 have hl:(a9k z c).length=((Array.range (c*v.cells.size)).map (zero[· %zero.size]!)).size:=by
  rw[<-hrv.length,<-q2];simp
 have ht:((Array.range (c*v.cells.size)).map (zero[· %zero.size]!)).toList.take (a9k z c).length=(List.replicate c v.cells.toList).flatten:=by
  rw[e4a (by rw[hl];simp),q2]
 refine uI (T:=e) (k:=0) (ex:=0) hh hf (c:=(Array.range (c*v.cells.size)).map (zero[· %zero.size]!)) ?_ (by omega) (by rw[ht];exact hrv) (by rw[ht];exact qC h4 c) hb1 (e0g _) (λ_=>rfl) (λq=>absurd rfl q)
 have w1:IntKind.i64.wrap (n:Int)=n:=by simp only[IntKind.wrap,IntKind.bits,IntKind.signed];simp;omega
 have w2:IntKind.i64.wrap (c:Int)=c:=by simp only[IntKind.wrap,IntKind.bits,IntKind.signed];simp;omega
 have hbm:((i.bytes:Nat):Int)*(c:Int)<=2^48:=by
  have q:i.bytes*c<=8796093022208:=e2h (e6o hi1 hb2) (by decide)
  rw[<-Int.natCast_mul];generalize i.bytes*c=b at q;omega
 have hti:(typeInfo e).run P W= .ok i W:=by simp[typeInfo,hi]
 have hcond:¬((decide ((c:Int)<0)||decide ((i.bytes:Int)*(c:Int)>2^48))||decide ((n:Int)<0)||decide ((n:Int)>(c:Int)))=true:=by
  simp only[e3d,e4h,not_or]
  omega
 simp only[execOp,ho,Instr.makeSlice,d9t,e0k (jQ hs),d9q,evN hev hx,evN hev hy,asInt,asIntOf,d9u,hti,w1,w2,d9z hcond,wW,dM h2,e1b]
 rcases q1 with⟨e0,rfl⟩|⟨e0,rfl⟩
 ·rw[e0c e0];simp only[d9t,d9u,d9q,cS]
 ·rw[d9z e0];simp only[d9t,d9u,d9q,iY h1,cS]
end
end Go.Kx
set_option linter.unusedVariables false
set_option linter.unusedSimpArgs false
namespace Go.Kx
open Go
open Go.Px (KT aJ KeyOk EqT eL)
variable {P:Program} {E:Vl} {ρ:Rh} {Ow:Nat->Prop} {Fr:Id->Prop} {nm:Id} {h:Hf} {W:World} {ls:List Id} {ac:Ac}
theorem kI {α:Type}[DecidableEq α]:∀{l m:List α},l.Nodup->(∀x∈l,x∈m)->l.length<=m.length
 |[],m,_,_=>e4t _
 |x::l,m,hn,hs=>by
  rw[e2b]at hn
  have hx:=hs x (by simp)
  have h1:=kI (l:=l) (m:=m.erase x) hn.2 λy hy=>(List.mem_erase_of_ne (λe=>hn.1 (by rw[<-e];exact hy))).2 (hs y (by simp[hy]))
  rw[List.length_erase_of_mem hx]at h1
  have:=List.length_pos_of_mem hx
  simp only[e0r];omega
theorem fF {ag:Nat}{a b:List Int}(ha:a.length=(cU ag).n)(hb:b.length=(cU ag).n)(e:aJ (cU ag) a=aJ (cU ag) b):a=b:=
 Go.Px.keyV_inj (kt:=cU ag) (λh=>by cases ag with
  |zero=>rfl
  |succ n=>cases h) ha hb e
theorem Mok.len {ag:Nat}{es:Es}{ents:Array MapEntry}{clock:Nat}(hm:Mok E ρ ag es ents clock):es.length=ents.size:=by
 have h1:∀{l:Es} {m:List MapEntry},(l.map (·.1)).Nodup->(∀k v,(k,v)∈l->k.length=(cU ag).n/\∃e∈m,e.key=aJ (cU ag) k)->l.length<=m.length:=by
  intro l
  induction l with
  |nil=>intro m _ _;exact e4t _
  |cons p l ih=>
   intro m hn hs
   obtain⟨k,v⟩:=p
   rw[e0o,e2b]at hn
   obtain⟨hl,e,he,hk⟩:=hs k v (by simp)
   obtain⟨a,b,rfl⟩:=e5w he
   have:=ih (m:=a++b) hn.2 λk' v' hkv=>by
    obtain⟨hl',e',he',hk'⟩:=hs k' v' (by simp[hkv])
    refine⟨hl',e',?_,hk'⟩
    simp only[e0x,e0b]at he'⊢
    rcases he' with q|q|q
    ·exact .inl q
    ·have e1:k'=k:=fF hl' hl (hk'.symm.trans (by rw[q];exact hk))
     exact absurd (show k∈l.map (·.1)from e0l.2 ⟨(k',v'),hkv,e1⟩) hn.1
    ·exact .inr q
   simp only[e1f,e0r]at this⊢;omega
 have h2:∀{m:List MapEntry} {l:Es},(m.map (·.key)).Nodup->(∀e∈m,∃k v,(k,v)∈l/\e.key=aJ (cU ag) k)->m.length<=l.length:=by
  intro m
  induction m with
  |nil=>intro l _ _;exact e4t _
  |cons e m ih=>
   intro l hn hs
   rw[e0o,e2b]at hn
   obtain⟨k,v,hkv,hk⟩:=hs e (by simp)
   obtain⟨a,b,rfl⟩:=e5w hkv
   have:=ih (l:=a++b) hn.2 λe' he'=>by
    obtain⟨k',v',hkv',hk'⟩:=hs e' (by simp[he'])
    refine⟨k',v',?_,hk'⟩
    simp only[e0x,e0b]at hkv'⊢
    rcases hkv' with q|q|q
    ·exact .inl q
    ·cases q
     exact absurd (show e.key∈m.map (·.key)from e0l.2 ⟨e',he',hk'.trans hk.symm⟩) hn.1
    ·exact .inr q
   simp only[e1f,e0r]at this⊢;omega
 have:=h1 (m:=ents.toList) hm.kd hm.all
 have:=h2 (l:=es) hm.kn λe he=>let⟨k,v,q1,_,q2,_⟩:=hm.ent e he;⟨k,v,q1,q2⟩
 simp at*;omega
section
variable {ev:Operand->V} {re:Operand->Value} (hev:∀x,RV E ρ (ev x) (re x)) (o:Oper) (hh:HR E Ow ρ h Fr W) (hf:iK ac=true->Fr nm)
include hev
theorem d4g {x:Operand}{t e:Nat}(ho:o.op= .call {callee:= .builtin .cap,args:= #[x],argTypes:= #[t]})(hs:slT P t=some e)(hg:goF h (c5x x ev nm)=some (ls,ac)):Pu P E ρ W (execOp re o) ac:=by
 have hx:=hev x
 have hrun:∀{b:Option Addr} {l c:Nat},re x= .slice b l c->(execOp re o).run P W= .ok (.value (.int .i64 c)) W:=λ{b l c} hr=>by
  simp only[execOp,ho,resolve,invoke,builtin,Builtin.cap_,d9t,d9u,d9q,e3h,e0o,e3c,e0t,e0w,e0k (jQ hs),hr]
  rfl
 rcases oG hg with⟨id,off,len,cap,ex,hv,hg⟩|⟨hv,hg⟩
 ·obtain⟨he,hg⟩:=aP hg
  have he:=d9s he
  rw[hv]at hx
  obtain⟨l,c,a,_,hr,h1,h2,h3,_⟩:=hx
  exact .of (a0a hg) (hrun hr) (by rw[h3 he];rfl)
 ·rw[hv]at hx
  exact .of (a0a hg) (hrun hx.1) rfl
include hh in
theorem b9a {x:Operand}{t:Nat}{n:Option Nat}{q:Nat}(ho:o.op= .call {callee:= .builtin .len,args:= #[x],argTypes:= #[t]})
  (ht:(∃m e,P.underlying t=some (.array m e)/\n=some m)\/(n=none/\((q=0/\∃e,P.underlying t=some (.slice e))\/(q=1/\∃k v,P.underlying t=some (.map k v))\/(q=2/\P.underlying t=some .string))))
  (hg:goF h (a0z n q x ev nm)=some (ls,ac)):Pu P E ρ W (execOp re o) ac:=by
 have hx:=hev x
 have hrun:∀{k:Nat},(Builtin.len_ #[t] o.type #[re x]).run P W= .ok (.int .i64 k) W->(execOp re o).run P W= .ok (.value (.int .i64 k)) W:=λhr=>by
  simp only[execOp,ho,resolve,invoke,builtin,d9t,d9u,d9q,e3h,e0o,e3c,hr]
 rcases ht with⟨m,e,hu,rfl⟩|⟨rfl,ht⟩
 ·refine .of (a0a (show goF h (rn m)=_ from hg)) (hrun ?_) rfl
  simp only[Builtin.len_,e0t,e0w,d9t,e0k hu,d9q]
  rfl
 ·have hg:goF h (a0z none q x ev nm)=some (ls,ac):=hg
  unfold a0z at hg
  cases hv:ev x with
  |s id off len cap ex=>
   rw[hv]at hx hg
   obtain⟨l,c,a,_,hr,_⟩:=hx
   obtain⟨hq,hg⟩:=aP (show goF h (bif Nat.beq q 0 then rn len else .no)=_ from hg)
   have hq:=d9s hq
   refine .of (a0a hg) (hrun ?_) rfl
   rcases ht with⟨_,e,hu⟩|⟨q1,_⟩|⟨q1,_⟩
   ·simp only[Builtin.len_,e0t,e0w,d9t,e0k hu,d9q,hr];rfl
   ·omega
   ·omega
  |m id=>
   rw[hv]at hx hg
   obtain⟨l,hl,hr⟩:=hx
   obtain⟨hq,hg⟩:=aP (show goF h (bif Nat.beq q 1 then .ask id λo=>asM o λ_ es _=>rn (nQ es)else .no)=_ from hg)
   have hq:=d9s hq
   obtain⟨ob,ls',hob,hg,_⟩:=dL hg
   obtain⟨ag,es,op,e1,hg⟩:=qM hg
   rw[e1]at hob
   obtain⟨ents,clock,hb,hm,_⟩:=(hh.get hob hl).1
   have hlen:=hm.len
   rw[gE,hlen]at hg
   refine .of (a0a hg) (hrun ?_) rfl
   rcases ht with⟨q1,_⟩|⟨_,k,v,hu⟩|⟨q1,_⟩
   ·omega
   ·have hgo:(getObj l.b).run P W= .ok (Obj.map ents clock) W:=by simp only[getObj,Sem.run,hb]
    simp only[Builtin.len_,e0t,e0w,d9t,e0k hu,d9q,hr,hgo];rfl
   ·omega
  |z v=>
   rw[hv]at hx hg
   have hr:=hx.1
   have hg:goF h (lnZ q v)=some (ls,ac):=hg
   unfold lnZ at hg
   split at hg
   ·obtain⟨hq,hg⟩:=aP hg
    have hq:=d9s hq
    refine .of (a0a hg) (hrun ?_) rfl
    rcases ht with⟨_,e,hu⟩|⟨q1,_⟩|⟨q1,_⟩
    ·simp only[Builtin.len_,e0t,e0w,d9t,e0k hu,d9q,hr];rfl
    ·omega
    ·omega
   ·obtain⟨hq,hg⟩:=aP hg
    have hq:=d9s hq
    refine .of (a0a hg) (hrun ?_) rfl
    rcases ht with⟨q1,_⟩|⟨q1,_⟩|⟨_,hu⟩
    ·omega
    ·omega
    ·simp only[Builtin.len_,e0t,e0w,d9t,e0k hu,d9q,hr];rfl
   ·exact aT hg
  |_=>rw[hv]at hg;exact aT hg
end
end Go.Kx
set_option linter.unusedVariables false
set_option linter.unusedSimpArgs false
namespace Go.Kx
open Go
open Go.Px (KT aJ KeyOk EqT eL)
variable {P:Program} {E:Vl} {ρ:Rh} {Ow:Nat->Prop} {Fr:Id->Prop} {nm:Id} {h:Hf} {W:World} {ls:List Id} {ac:Ac}
theorem qO {d:Nat}{x:Option Operand}{ev:Ev}{K:Nat->Rq}{r:List Id×Ac}(hg:goF h (bnd d x ev K)=some r):
  ∃n:Nat,(x=none/\n=d\/∃y k,x=some y/\ev y= .i k n)/\goF h (K n)=some r:=by
 cases x with
 |none=>exact⟨d,.inl ⟨rfl,rfl⟩,hg⟩
 |some y=>
  obtain⟨k,n,hy,hg⟩:=lZ (show goF h (asN (ev y) K)=some r from hg)
  exact⟨n,.inr ⟨y,k,rfl,hy⟩,hg⟩
theorem bZ {k:IntKind}{n y:Nat}{code:BoundsCode}(hle:n<=y):(Instr.sliceBound (.int k (n:Int)) y code).run P W= .ok n W:=by
 have hc:0<=(n:Int)/\(n:Int)<=(y:Int):=by omega
 simp only[Instr.sliceBound,asIntOf,d9t,d9u,d9q,e0c hc,e1b]
def Bd (d:Nat)(x:Option Value)(n:Nat):Prop:=x=none/\n=d\/∃k:IntKind,x=some (.int k n)
theorem dQ {sl:Bool}{len cap l h m:Nat}{lo hi mx:Option Value}(h1:Bd 0 lo l)(h2:Bd len hi h)(h3:Bd cap mx m)(hn:hi=none->mx=none)(a:l<=h)(b:h<=m)(c:m<=cap):
  (Instr.sliceBounds sl len cap lo hi mx).run P W= .ok (l,h,m) W:=by
 rcases h1 with⟨rfl,rfl⟩|⟨k1,rfl⟩<;>rcases h2 with⟨rfl,rfl⟩|⟨k2,rfl⟩<;>rcases h3 with⟨rfl,rfl⟩|⟨k3,rfl⟩<;>
  first
  |(cases hn rfl;done)
  |simp only[Instr.sliceBounds,d9t,d9u,d9q,bZ a,bZ b,bZ c]
section
variable {ev:Operand->V} {re:Operand->Value} (hev:∀x,RV E ρ (ev x) (re x)) (o:Oper) (hh:HR E Ow ρ h Fr W) (hf:iK ac=true->Fr nm)
include hev
theorem vI {d n:Nat}{x:Option Operand}(hx:x=none/\n=d\/∃y k,x=some y/\ev y= .i k n):Bd d (x.map re) n:=by
 rcases hx with⟨rfl,rfl⟩|⟨y,k,rfl,hy⟩
 ·exact .inl ⟨rfl,rfl⟩
 ·exact .inr ⟨k,by simp[evN hev hy]⟩
theorem d9c {t e k:Nat}{x:Operand}{lo hi mx:Option Operand}(ho:o.op= .slice t x lo hi mx)(hs:slT P t=some e)(hk:szO P e=some k)(hn:hi=none->mx=none)(hg:goF h (d6l k x lo hi mx ev nm)=some (ls,ac)):Pu P E ρ W (execOp re o) ac:=by
 have hx:=hev x
 have hn':hi.map re=none->mx.map re=none:=λq=>by rw[hn (by simpa using q)];rfl
 have hrun:∀{a:Option Addr} {len cap l h m:Nat},re x= .slice a len cap->(Instr.sliceBounds true len cap (lo.map re) (hi.map re) (mx.map re)).run P W= .ok (l,h,m) W->
   (execOp re o).run P W= .ok (.value (.slice (if m=l then a else a.map (·.add (l*k))) (h-l) (m-l))) W:=λhr hb=>by
  simp only[execOp,ho,Instr.sliceAt,Instr.slice,hr,d9t,e0k (jQ hs),d9q,hb,dM hk,d9u]
 rcases oG hg with⟨id,off,len,cap,ex,hv,hg⟩|⟨hv,hg⟩
 ·rw[hv]at hx
  obtain⟨q,c,a,hq,hr,h1,h2,h3,h4,h5⟩:=hx
  obtain⟨l,hl,hg⟩:=qO hg
  obtain⟨u,hu,hg⟩:=qO hg
  cases mx with
  |none=>
   obtain⟨hb,hg⟩:=aP (show goF h (bif (Nat.beq ex 0||Nat.beq ex k)&&(Nat.ble l u&&Nat.ble u cap)then fN (Nat.add off (Nat.mul l k)) λo=>fN (Nat.sub u l) λn=>fN (Nat.sub cap l) λc=>rv (.s id o n c ex)else .no)=_ from hg)
   rw[fE,fE,fE]at hg
   obtain⟨hb1,hb2⟩:=sU hb
   obtain⟨hb2,hb3⟩:=sU hb2
   have hb2:l<=u:=aL.1 hb2
   have hb3:u<=cap:=aL.1 hb3
   have hbr:=dQ (P:=P) (W:=W) (sl:=true) (len:=len) (cap:=c) (m:=c) (vI hev hl) (vI hev hu) (.inl ⟨rfl,rfl⟩) hn' hb2 (by omega) (e0g _)
   refine .of (aZ hg) (hrun hr hbr) ?_
   refine⟨q,c-l,if c=l then a else a+l*k,hq,?_,?_,?_,λe0=>?_,λe0=>?_,λe0=>?_⟩
   ·by_cases e:c=l
    ·simp only[e0c e];rfl
    ·simp only[d9z e,e1y,eO];rfl
   ·show cap-l<=c-l;omega
   ·show u-l<=cap-l;omega
   ·show c-l=cap-l;rw[h3 e0]
   ·rw[d9z (by omega),h4 (by omega)];show _=q.o+(off+l*k);omega
   ·by_cases e:c=l
    ·have:=h5 e0;rw[e0c e,e,e7w,e7y];omega
    ·rw[d9z e]
     have hek:ex=k:=by
      simp only[e3d]at hb1
      rcases hb1 with q|q
      ·exact absurd (d9s q) e0
      ·exact d9s q
     have:=h5 e0
     subst hek
     have e2:l*ex+(c-l)*ex=c*ex:=by rw[<-e1s];congr 1;omega
     omega
  |some y=>
   obtain⟨j,m,hy,hg⟩:=lZ (show goF h (asN (ev y) λm=>bif Nat.ble l u&&(Nat.ble u m&&Nat.ble m cap)then fN (Nat.add off (Nat.mul l k)) λo=>fN (Nat.sub u l) λn=>fN (Nat.sub m l) λc=>rv (.s id o n c 0)else .no)=_ from hg)
   obtain⟨hb,hg⟩:=aP hg
   rw[fE,fE,fE]at hg
   obtain⟨hb1,hb2⟩:=sU hb
   obtain⟨hb2,hb3⟩:=sU hb2
   have hb1:l<=u:=aL.1 hb1
   have hb2:u<=m:=aL.1 hb2
   have hb3:m<=cap:=aL.1 hb3
   have hbr:=dQ (P:=P) (W:=W) (sl:=true) (len:=len) (cap:=c) (m:=m) (vI hev hl) (vI hev hu) (.inr ⟨j,by simp[evN hev hy]⟩) hn' hb1 hb2 (by omega)
   refine .of (aZ hg) (hrun hr hbr) ?_
   refine⟨q,m-l,if m=l then a else a+l*k,hq,?_,e0g _,?_,λ_=>rfl,λe0=>?_,λe0=>absurd rfl e0⟩
   ·by_cases e:m=l
    ·simp only[e0c e];rfl
    ·simp only[d9z e,e1y,eO];rfl
   ·show u-l<=m-l;omega
   ·rw[d9z (by omega),h4 (by omega)];show _=q.o+(off+l*k);omega
 ·rw[hv]at hx
  obtain⟨l,hl,hg⟩:=qO hg
  obtain⟨u,hu,hg⟩:=qO hg
  obtain⟨m,hm,hg⟩:=qO hg
  obtain⟨hb,hg⟩:=aP hg
  obtain⟨hb1,hb2⟩:=sU hb
  obtain⟨hb2,hb3⟩:=sU hb2
  have hb1:l=0:=d9s hb1
  have hb2:u=0:=d9s hb2
  have hb3:m=0:=d9s hb3
  have hbr:=dQ (P:=P) (W:=W) (sl:=true) (len:=0) (cap:=0) (vI hev hl) (vI hev hu) (vI hev hm) hn' (by omega) (by omega) (by omega)
  subst hb1;subst hb2;subst hb3
  refine .of (aZ hg) (hrun hx.1 hbr) ?_
  rw[hv];exact⟨rfl,rfl⟩
theorem d4m {t n e k:Nat}{x:Operand}{lo hi:Option Operand}(ho:o.op= .slice t x lo hi none)(hs:P.underlying t=some (.array n e))(hk:szO P e=some k)(hg:goF h (c6f k n x lo hi ev nm)=some (ls,ac)):Pu P E ρ W (execOp re o) ac:=by
 have hx:=hev x
 obtain⟨id,off,hv,hg⟩:=tO hg
 rw[hv]at hx
 obtain⟨q,hq,hr⟩:=hx
 obtain⟨l,hl,hg⟩:=qO hg
 obtain⟨u,hu,hg⟩:=qO hg
 obtain⟨hb,hg⟩:=aP hg
 obtain⟨hb1,hb2⟩:=sU hb
 have hb1:l<=u:=aL.1 hb1
 have hb2:u<=n:=aL.1 hb2
 obtain⟨ob,ls',hob,hg,_⟩:=dL hg
 obtain⟨cs,rfl,hg⟩:=tM hg
 obtain⟨hb3,hg⟩:=aP hg
 rw[fE,fE,fE]at hg
 have hbr:=dQ (P:=P) (W:=W) (sl:=false) (len:=n) (cap:=n) (m:=n) (vI hev hl) (vI hev hu) (.inl ⟨rfl,rfl⟩) (λ_=>rfl) hb1 hb2 (e0g _)
 refine .of (aZ hg) (u:= .slice (some ⟨q.b,if n=l then q.o+off else q.o+off+l*k,none⟩) (u-l) (n-l)) ?_ ?_
 ·simp only[execOp,ho,Instr.sliceAt,hr,Instr.sureAddr,d9t,e0k hs,d9q,hbr,dM hk,d9u,e4m]
  by_cases e:n=l
  ·simp only[e0c e]
  ·simp only[d9z e,eO]
 ·refine⟨q,n-l,_,hq,rfl,e0g _,?_,λ_=>rfl,λe0=>?_,λe0=>absurd rfl e0⟩
  ·show u-l<=n-l;omega
  ·rw[d9z (by omega)];show _=q.o+(off+l*k);omega
end
end Go.Kx
set_option linter.unusedVariables false
set_option linter.unusedSimpArgs false
namespace Go.Kx
open Go
open Go.Px (KT aJ KeyOk EqT eL)
variable {P:Program} {E:Vl} {ρ:Rh} {Ow:Nat->Prop} {Fr:Id->Prop} {nm:Id} {h:Hf} {W:World} {ls:List Id} {ac:Ac}
theorem b4x {l:Lc}{cs:List V}(hc:RC E ρ W l cs){off a n:Nat}(ha:n≠0->a=l.o+off)(hn:n=0\/off+n<=cs.length):
  ∃us:List Value,us.length=n/\RVs E ρ ((cs.drop off).take n) us/\One us/\∀W2:World,W2.heap=W.heap->(loadCells ⟨l.b,a,none⟩ n).run P W2= .ok us.toArray W2:=by
 by_cases e:n=0
 ·subst e
  exact⟨[],rfl,by simp[RVs],λw hw=>(by cases hw),λW2 _=>run_loadCells W2 _ 0 (λ_=>undef) λj hj=>absurd hj (e3i _)⟩
 ·rw[ha e];exact a5x hc hn
theorem wY {l:Lc}{cs m:List V}{us:List Value}{off a:Nat}(hc:RC E ρ W l cs)(ha:m≠[]->a=l.o+off)(hle:off+m.length<=cs.length)(hm:RVs E ρ m us)(h1:One us):
  ∃W',(storeCells ⟨l.b,a,none⟩ us).run P W= .ok () W'/\(∀b,b≠l.b->W'.heap[b]?=W.heap[b]?)/\W'.heap.size=W.heap.size/\(W'.os=W.os/\W'.tape=W.tape/\W'.output=W.output/\W'.drawn=W.drawn)/\RC E ρ W' l (ov cs off m):=by
 by_cases e:m=[]
 ·subst e
  have hu:us=[]:=hm
  subst hu
  refine⟨W,rfl,λ_ _=>rfl,rfl,⟨rfl,rfl,rfl,rfl⟩,?_⟩
  have:ov cs off ([]:List V)=cs:=by unfold ov;simp
  rw[this];exact hc
 ·rw[ha e];exact b3w hc hle hm h1
theorem b0s {k:Nat}{v:V}{K:Nat->List V->Rq}(hg:goF h (xY k v K)=some (ls,ac)):
  (∃id off len cap ex cs ls',v= .s id off len cap ex/\h id=some (.c cs)/\(len*k=0\/off+len*k<=cs.length)/\goF h (K len ((cs.drop off).take (len*k)))=some (ls',ac))\/
  (v= .z (.slice none 0 0)/\goF h (K 0 [])=some (ls,ac)):=by
 rcases oG hg with⟨id,off,len,cap,ex,hv,hg⟩|⟨hv,hg⟩
 ·obtain⟨ob,ls',hob,hg,_⟩:=dL hg
  obtain⟨cs,e1,hg⟩:=tM hg
  rw[e1]at hob
  obtain⟨h1,h2,hg⟩:=b9r hg
  exact .inl ⟨id,off,len,cap,ex,cs,ls',hv,hob,h1,hg⟩
 ·exact .inr ⟨hv,hg⟩
theorem a6n (hh:HR E Ow ρ h Fr W){k:Nat}{v:V}{u:Value}{K:Nat->List V->Rq}(hv:RV E ρ v u)(hg:goF h (xY k v K)=some (ls,ac)):
  ∃n l ls',goF h (K n l)=some (ls',ac)/\l.length=n*k/\(Builtin.lenOf u).run P W= .ok n W/\
   ∀n',n'<=n->∃us:List Value,us.length=n'*k/\RVs E ρ (l.take (n'*k)) us/\One us/\∀W2:World,W2.heap=W.heap->(Builtin.firstCells k n' u).run P W2= .ok us.toArray W2:=by
 rcases b0s hg with⟨id,off,len,cap,ex,cs,ls',rfl,hob,h1,hg⟩|⟨rfl,hg⟩
 ·obtain⟨l,c,a,hl,rfl,q1,q2,q3,q4,q5⟩:=hv
  refine⟨len,_,ls',hg,?_,by simp[Builtin.lenOf],λn' hn=>?_⟩
  ·simp only[e4l,e2p];omega
  ·have hm:n'*k<=len*k:=e0v k hn
   obtain⟨us,r1,r2,r3,r4⟩:=b4x (P:=P) (hh.get hob hl).1 (off:=off) (a:=a) (n:=n'*k) (λq=>q4 (by
    have:n'≠0:=λe=>q (by rw[e,e7y])
    omega)) (by omega)
   refine⟨us,r1,?_,r3,?_⟩
   ·rw[List.take_take,Nat.min_eq_left hm];exact r2
   ·intro W2 e;simp only[Builtin.firstCells];exact r4 W2 e
 ·obtain⟨rfl,_⟩:=hv
  refine⟨0,[],ls,hg,by simp,by simp[Builtin.lenOf],λn' hn=>?_⟩
  have:n'=0:=by omega
  subst this
  exact⟨[],by simp,by simp[RVs],λw hw=>(by cases hw),λW2 _=>by simp[Builtin.firstCells]⟩
section
variable {ev:Operand->V} {re:Operand->Value} (hev:∀x,RV E ρ (ev x) (re x)) (o:Oper) (hh:HR E Ow ρ h Fr W) (hf:iK ac=true->Fr nm)
include hev hh
theorem d3o {x:Operand}{t e:Nat}{z:List V}(ho:o.op= .call {callee:= .builtin .clear,args:= #[x],argTypes:= #[t]})(hs:slT P t=some e)(hz:zcO P e=some z)(hg:goF h (c5y z x ev nm)=some (ls,ac)):cT P E Ow ρ Fr nm h W (execOp re o) ac.v (apH nm ac h) (iK ac):=by
 have hx:=hev x
 have hrun:∀{W'},(Builtin.clear_ #[t] o.type #[re x]).run P W= .ok (.tuple #[]) W'->(execOp re o).run P W= .ok (.value (.tuple #[])) W':=λhr=>by
  simp only[execOp,ho,resolve,invoke,builtin,d9t,d9u,d9q,e3h,e0o,e3c,hr]
 obtain⟨v,h1,h2,h3,h4⟩:=a4b (E:=E) (ρ:=ρ) hz
 rcases oG hg with⟨id,off,len,cap,ex,hv,hg⟩|⟨hv,hg⟩
 ·obtain⟨ob,ls',hob,hg,_⟩:=dL hg
  obtain⟨cs,e1,hg⟩:=tM hg
  rw[e1]at hob
  obtain⟨hle,hg⟩:=nY hg
  cases hg
  rw[hv]at hx
  obtain⟨l,c,a,hl,hr,q1,q2,q3,q4,q5⟩:=hx
  have hne:h id≠none:=by rw[hob];simp
  have hrv:=wU h3 len
  have hcell:(Builtin.zeroCells v.cells len).toList=(List.replicate len v.cells.toList).flatten:=by
   by_cases e0:v.cells.size=0
   ·have:v.cells= #[]:=by simpa using e0
    rw[this];simp[Builtin.zeroCells]
   ·exact qG v.cells len (by omega)
  rw[<-hcell]at hrv
  have hone:One (Builtin.zeroCells v.cells len).toList:=by rw[hcell];exact qC h4 len
  have hne0:a9k z len≠[]->a=l.o+off:=λq=>q4 (by
   have:len≠0:=λe=>q (by rw[e];rfl)
   omega)
  obtain⟨W',w1,w2,w3,w4,w5⟩:=wY (P:=P) (hh.get hob hl).1 hne0 hle hrv hone
  refine cT.set hh hne hl (.inl (hrun ?_)) w2 w3 w4 w5 ⟨#[],rfl,rfl⟩
  simp only[Builtin.clear_,e0t,e0w,d9t,e0k (jQ hs),d9q,hr]
  cases len with
  |zero=>
   have:(Builtin.zeroCells v.cells 0).toList=[]:=by rw[hcell];rfl
   rw[this]at w1
   cases w1
   rfl
  |succ n=>simp only[d9t,iY h1,d9q,w1,d9u]
 ·rw[hv]at hx
  cases hg
  refine cT.pure (v:= .t []) hh (hrun ?_) ⟨#[],rfl,rfl⟩
  simp only[Builtin.clear_,e0t,e0w,d9t,e0k (jQ hs),d9q,hx.1]
  rfl
theorem c8j {x y:Operand}{t t2 e k:Nat}(ho:o.op= .call {callee:= .builtin .copy,args:= #[x,y],argTypes:= #[t,t2]})(hs:slT P t=some e)(hk:szO P e=some k)(hg:goF h (b5q k x y ev nm)=some (ls,ac)):cT P E Ow ρ Fr nm h W (execOp re o) ac.v (apH nm ac h) (iK ac):=by
 have hx:=hev x
 have hrun:∀{n:Nat} {W'},(Builtin.copy_ #[t,t2] o.type #[re x,re y]).run P W= .ok (.int .i64 n) W'->(execOp re o).run P W= .ok (.value (.int .i64 n)) W':=λhr=>by
  simp only[execOp,ho,resolve,invoke,builtin,d9t,d9u,d9q,e3h,e0o,e3c,hr]
 have hcop:∀{b:Option Addr} {dl dc n m:Nat} {us:List Value},re x= .slice b dl dc->(Builtin.lenOf (re y)).run P W= .ok n W->m=min n dl->(Builtin.firstCells k m (re y)).run P W= .ok us.toArray W->
   (Builtin.copy_ #[t,t2] o.type #[re x,re y]).run P W=((match b with|some a=>storeCells a us|none=>pure ()).run P W).andThen λ_ w=> .ok (.int .i64 m) w:=λ{b dl dc n m us} hr h1 h2 h3=>by
  have e:n.min dl=m:=h2.symm
  simp only[Builtin.copy_,e0t,e0w,e2c,d9t,e0k (jQ hs),d9q,hr,h1,dM hk,e,h3]
  cases b with
  |none=>rfl
  |some a=>simp only[d9t,d9u];rfl
 rcases oG hg with⟨id,off,len,cap,ex,hv,hg⟩|⟨hv,hg⟩
 ·rw[hv]at hx
  obtain⟨l,c,a,hl,hr,q1,q2,q3,q4,q5⟩:=hx
  obtain⟨n,m,ls2,hg,hml,hn,hrd⟩:=a6n (P:=P) hh (hev y) hg
  have fin:∀(m':List V) (n':Nat) (ls3:List Id),n'=min n len->m'=m.take (n'*k)->goF h (.ask id λo=>asC o λcs=>a3d cs off m' λcs=> .set (.i .i64 (.ofNat n')) id (.c cs))=some (ls3,ac)->cT P E Ow ρ Fr nm h W (execOp re o) ac.v (apH nm ac h) (iK ac):=by
   intro m' n' ls3 e1 e2 hg
   obtain⟨ob,ls',hob,hg,_⟩:=dL hg
   obtain⟨cs,e3,hg⟩:=tM hg
   rw[e3]at hob
   obtain⟨hle,hg⟩:=nY hg
   cases hg
   have hne:h id≠none:=by rw[hob];simp
   obtain⟨us,r1,r2,r3,r4⟩:=hrd n' (by omega)
   rw[<-e2]at r2
   obtain⟨W',w1,w2,w3,w4,w5⟩:=wY (P:=P) (hh.get hob hl).1 (a:=a) (λq=>q4 (by
    have hl2:=r2.length
    have:m'.length≠0:=λe=>q (e3e.1 e)
    have:n'≠0:=λe=>by rw[e,e7y]at r1;omega
    omega)) hle r2 r3
   refine cT.set hh hne hl (.inl (hrun (n:=n') ?_)) w2 w3 w4 w5 rfl
   rw[hcop hr hn e1 (r4 W rfl)]
   simp only[w1,d9q]
  have hm0:m.take (n*k)=m:=e4a (by omega)
  cases hb:Nat.ble n len with
  |true=>
   rw[hb]at hg
   have hb:=aL.1 hb
   exact fin m n ls2 (by omega) hm0.symm hg
  |false=>
   rw[hb]at hg
   have hb:¬n<=len:=λq=>by rw[e4c q]at hb;cases hb
   obtain⟨h5,hg⟩:=b5d hg
   exact fin _ len ls2 (by omega) rfl hg
 ·rw[hv]at hx
  have hy:=hev y
  have hlen:∃n,(Builtin.lenOf (re y)).run P W= .ok n W/\(Builtin.firstCells k 0 (re y)).run P W= .ok #[] W/\goF h (rn 0)=some (ls,ac):=by
   rcases oG hg with⟨id,off,len,cap,ex,hv,hg⟩|⟨hv,hg⟩
   ·rw[hv]at hy
    obtain⟨l,c,a,hl,hr,_⟩:=hy
    rw[hr]
    refine⟨len,by simp[Builtin.lenOf],?_,hg⟩
    have:=run_loadCells (P:=P) W ⟨l.b,a,none⟩ 0 (λ_=>undef) λj hj=>absurd hj (e3i _)
    simp only[Builtin.firstCells,e7y];exact this
   ·rw[hv]at hy
    rw[hy.1]
    exact⟨0,by simp[Builtin.lenOf],by simp[Builtin.firstCells],hg⟩
  obtain⟨n,r1,r2,hg⟩:=hlen
  have e:=a0a hg
  subst e
  refine cT.pure (v:= .i .i64 ((0:Nat):Int)) hh (hrun (n:=0) ?_) rfl
  rw[hcop hx.1 r1 (m:=0) (us:=[]) (by omega) r2]
  rfl
end
end Go.Kx
set_option linter.unusedVariables false
set_option linter.unusedSimpArgs false
namespace Go.Kx
open Go
open Go.Px (KT aJ KeyOk EqT eL)
variable {P:Program} {E:Vl} {ρ:Rh} {Ow:Nat->Prop} {Fr:Id->Prop} {nm:Id} {h:Hf} {W:World} {ls:List Id} {ac:Ac}
theorem b2b (m:Nat):∀(r c:Nat),Builtin.growBy m r c+192<=2^r*(c+192)
 |0,c=>by simp[Builtin.growBy]
 |r+1,c=>by
  unfold Builtin.growBy
  have hp:0<2^r:=Nat.pow_pos (by decide)
  split
  ·have:1*(c+192)<=2^(r+1)*(c+192):=e0v _ (Nat.pow_pos (by decide))
   omega
  ·have ih:=b2b m r (c+(c+768)/4)
   have h2:2^r*(c+(c+768)/4+192)<=2^r*(2*(c+192)):=Nat.mul_le_mul_left _ (by omega)
   rw[Nat.pow_succ,Nat.mul_assoc];omega
theorem a8t {m c:Nat}(hm:m<=2048)(hc:c<m):Builtin.nextslicecap m c<=35840:=by
 unfold Builtin.nextslicecap
 split
 ·omega
 ·split
  ·omega
  ·have:=b2b m 4 c;omega
def gC (W:World):World:={W with drawn:=W.drawn+1}
theorem HR.drew (hh : HR E Ow ρ h Fr W) : HR E Ow ρ h Fr (gC W) :=
  ⟨fun id o hi => let ⟨l, h1, h2, h3, h4⟩ := hh.obj id o hi; ⟨l, h1, h2, h3, h4.go (W' := gC W) (e7n _) rfl⟩, hh.inj, hh.fr, hh.up⟩
def Src (P:Program)(W:World)(k t2:Nat)(z:Array Value)(u:Value)(n:Nat)(us:List Value):Prop:=
  (∃d,P.underlying t2=some d/\(∀j,d≠ .int j)/\(Builtin.lenOf u).run P W= .ok n W/\(Builtin.firstCells k n u).run P W= .ok us.toArray W/\(Builtin.firstCells k n u).run P (gC W)= .ok us.toArray (gC W))\/
  ∃j i,P.underlying t2=some (.int j)/\u= .int i (n:Int)/\n<=2048/\us=(Builtin.zeroCells z n).toList
section
variable {t t2 e k n sLen sCap ty:Nat} {base:Option Addr} {x y:Value} {us:List Value} {z:Value} {i:TypeInfo}
theorem vH (hs:slT P t=some e)(hk:szO P e=some k)(hz:zvO P e=some z)(hzs:z.cells.size=k)(hi:P.info? e=some i)(hb:i.bytes<=4294967296)(hx:x= .slice base sLen sCap)(hy:Src P W k t2 z.cells y n us)(hle:sLen+n<=sCap):
  (Builtin.append_ #[t,t2] ty #[x,y]).run P W=((match base with|some a=>storeCells (a.add (sLen*k)) us|none=>pure ()).run P W).andThen λ_ w=> .ok (.slice base (sLen+n) sCap) w:=by
 have hti:(typeInfo e).run P W= .ok i W:=by simp[typeInfo,hi]
 rcases hy with⟨d,hu,hd,h1,h2,_⟩|⟨j,q,hu,rfl,hn,rfl⟩
 ·have hm:(match d with| .int _=>true|_=>false)=false:=by
   cases d<;>first|rfl|exact absurd rfl (hd _)
  simp only[Builtin.append_,e0t,e0w,e2c,d9t,e0k (jQ hs),d9q,hx,dM hk,e0k hu,d9u,hm,e2l,e3g,h1,hle,e4b,Bool.not_false,h2]
  cases base with
  |none=>rfl
  |some a=>simp only[d9t,d9u]
 ·have w1:IntKind.i64.wrap (n:Int)=n:=by simp only[IntKind.wrap,IntKind.bits,IntKind.signed];simp;omega
  have c1:¬((n:Int)<0):=by omega
  have c2:¬((n:Int)*(i.bytes:Int)>2^48):=by
   have q:n*i.bytes<=8796093022208:=e2h (e6o hn hb) (by decide)
   rw[<-Int.natCast_mul];generalize n*i.bytes=b at q;omega
  have e0:n*k=0->(Builtin.zeroCells z.cells n).toList=[]:=λq=>by simp[Builtin.zeroCells,hzs,q]
  simp only[Builtin.append_,e0t,e0w,e2c,d9t,e0k (jQ hs),d9q,hx,dM hk,e0k hu,d9u,e4b,asInt,asIntOf,w1,c1,c2,e3g,hti,e1b,hle,e4z,e2l]
  by_cases q0:n*k=0
  ·rw[e0 q0]
   simp only[e0c q0,d9u,d9t,d9q]
   cases base with
   |none=>rfl
   |some a=>simp only[d9t,d9u]
  ·simp only[d9z q0,d9u,d9t,d9q,iY hz]
   cases base with
   |none=>rfl
   |some a=>simp only[d9t,d9u]
theorem b6m {old:List Value}(hs:slT P t=some e)(hk:szO P e=some k)(hz:zvO P e=some z)(hzs:z.cells.size=k)(hi:P.info? e=some i)(hb:i.bytes<=4294967296)(hx:x= .slice base sLen sCap)(hy:Src P W k t2 z.cells y n us)(hlt:sCap<sLen+n)(hm:sLen+n<=2048)
  (hold:(Builtin.firstCells k sLen x).run P (gC W)= .ok old.toArray (gC W)):
  ∃nc,sLen+n<=nc/\(Builtin.append_ #[t,t2] ty #[x,y]).run P W= .ok (.slice (some ⟨W.heap.size,0,none⟩) (sLen+n) nc) ((gC W).alloc (.cells (old.toArray++us.toArray++Builtin.zeroCells z.cells (nc-(sLen+n))) e)):=by
 have hti:∀w,(typeInfo e).run P w= .ok i w:=λw=>by simp[typeInfo,hi]
 have hle:¬(sLen+n<=sCap):=by omega
 have hch:(choose (.appendCap (sLen+n) sCap e)).run P W= .ok ((Question.appendCap (sLen+n) sCap e).cut (W.tape W.drawn (.appendCap (sLen+n) sCap e))) (gC W):=rfl
 have hge:sLen+n<=(Question.appendCap (sLen+n) sCap e).cut (W.tape W.drawn (.appendCap (sLen+n) sCap e)):=e5r _ _
 generalize(Question.appendCap (sLen+n) sCap e).cut (W.tape W.drawn (.appendCap (sLen+n) sCap e))=nc at hch hge
 have c3:¬(((sLen+n:Nat):Int)>IntKind.i64.max):=by
  have:IntKind.i64.max=9223372036854775807:=by decide
  omega
 have c4:¬(Builtin.nextslicecap (sLen+n) sCap*i.bytes>2^48):=by
  have q:Builtin.nextslicecap (sLen+n) sCap*i.bytes<=35840*4294967296:=e6o (a8t hm hlt) hb
  generalize Builtin.nextslicecap (sLen+n) sCap*i.bytes=b at q;omega
 refine⟨nc,hge,?_⟩
 subst hx
 rcases hy with⟨d,hu,hd,h1,_,h2⟩|⟨j,q,hu,rfl,hn,rfl⟩
 ·have hm:(match d with| .int _=>true|_=>false)=false:=by
   cases d<;>first|rfl|exact absurd rfl (hd _)
  simp only[Builtin.append_,e0t,e0w,e2c,d9t,e0k (jQ hs),d9q,dM hk,e0k hu,d9u,hm,e2l,e3g,h1,hle,Bool.not_false,e4b,c3,false_and,hti,c4,hch,wW,hold,h2,iY hz,cS]
  rfl
 ·have w1:IntKind.i64.wrap (n:Int)=n:=by simp only[IntKind.wrap,IntKind.bits,IntKind.signed];simp;omega
  have c1:¬((n:Int)<0):=by omega
  have c2:¬((n:Int)*(i.bytes:Int)>2^48):=by
   have q:n*i.bytes<=8796093022208:=e2h (e6o hn hb) (by decide)
   rw[<-Int.natCast_mul];generalize n*i.bytes=b at q;omega
  have e0:n*k=0->Builtin.zeroCells z.cells n= #[]:=λq=>by simp[Builtin.zeroCells,hzs,q]
  simp only[Builtin.append_,e0t,e0w,e2c,d9t,e0k (jQ hs),d9q,dM hk,e0k hu,d9u,e4b,asInt,asIntOf,w1,c1,c2,e3g,hti,e1b,hle,e4z,e2l,c3,false_and,c4,hch,wW,hold]
  by_cases q0:n*k=0
  ·rw[e0 q0]
   simp only[e0c q0,d9u,d9t,d9q,iY hz,cS]
   rfl
  ·simp only[d9z q0,d9u,d9t,d9q,iY hz,cS]
   rfl
end
theorem cT.newD {s:Sem Next}{v:V}{u:Value}{o:O}{obj:Obj}{l:Lc}{h0:Hf}(hh:HR E Ow ρ h0 Fr W)(hf:Fr nm)(hr:s.run P W= .ok (.value u) ((gC W).alloc obj))(hb:l.b=W.heap.size)(ho:RO E (upR ρ nm l) ((gC W).alloc obj) nm l o)(hv:RV E (upR ρ nm l) v u):
  cT P E Ow ρ Fr nm h W s v (upH h0 nm (some o)) true:=by
 have hs:((gC W).alloc obj).heap.size=W.heap.size+1:=by show(W.heap.push obj).size=_;simp
 exact⟨upR ρ nm l,(gC W).alloc obj,u,.inl hr,dN (hh.fr nm hf),λid hid=>by unfold upR;rw[d9z hid],hv,hh.drew.new hf hb (λb hb=>e3f (gC W) obj hb) hs ho,⟨rfl,rfl,rfl,by omega,λb hb _=>e3f (gC W) obj hb⟩,λq=>(by cases q)⟩
theorem HR.mov {W':World}(hh:HR E Ow ρ h Fr W){id nx:Id}(hn:Fr nx)(hi:h id≠none){l l':Lc}(hl:ρ id=some l)(hb:l'.b=l.b){o:O}(hW:∀b,b≠l.b->W'.heap[b]?=W.heap[b]?)(hs:W'.heap.size=W.heap.size)(ho:RO E (upR ρ nx l') W' nx l' o):
  HR E Ow (upR ρ nx l') (upH (upH h id none) nx (some o)) (λj=>Fr j/\j≠nx) W':=by
 have hle:=dN (l:=l') (hh.fr nx hn)
 have hr:∀j lj,j≠nx->upR ρ nx l' j=some lj->ρ j=some lj:=λj lj hj h=>by unfold upR at h;rwa[d9z hj]at h
 have hnn:∀j o',j≠nx->upH (upH h id none) nx (some o) j=some o'->j≠id/\h j=some o':=λj o' hj h=>by
  unfold upH at h;rw[d9z hj]at h
  split at h
  ·cases h
  ·rename_i e;exact⟨e,h⟩
 have hnz:∀j,j≠nx->upH (upH h id none) nx (some o) j≠none->j≠id/\h j≠none:=λj hj h=>by
  cases e:upH (upH _ id none) nx (some o) j with
  |none=>exact absurd e h
  |some o'=>obtain⟨h1,h2⟩:=hnn j o' hj e;exact⟨h1,by rw[h2];simp⟩
 have hx:upR ρ nx l' nx=some l':=bL _ _ _
 obtain⟨o0,ho0⟩:∃o0,h id=some o0:=by
  cases e:h id with
  |none=>exact absurd e hi
  |some o0=>exact⟨o0,rfl⟩
 obtain⟨_,hown,hlt⟩:=hh.get ho0 hl
 refine⟨λj o' hj=>?_,λi j li lj h1 h2 h3 h4 e=>?_,λj hj=>?_,λb hb'=>hh.up b (by omega)⟩
 ·by_cases ej:j=nx
  ·subst ej
   have:some o=some o':=by rw[<-hj];unfold upH;rw[e0c rfl]
   cases this
   exact⟨l',hx,by rw[hb];exact hown,by rw[hb,hs];exact hlt,ho⟩
  ·obtain⟨q1,q2⟩:=hnn j o' ej hj
   obtain⟨lj,h1,h2,h3,h4⟩:=hh.obj j o' q2
   exact⟨lj,hle _ _ h1,h2,by omega,h4.go hle (hW _ λeb=>q1 (hh.inj j id lj l (by rw[q2];simp) hi h1 hl eb))⟩
 ·by_cases ei:i=nx
  ·by_cases ej:j=nx
   ·rw[ei,ej]
   ·obtain⟨q1,q2⟩:=hnz j ej h2
    rw[ei,hx]at h3;cases h3
    exact absurd (hh.inj j id lj l q2 hi (hr j lj ej h4) hl (by rw[<-e,hb])) q1
  ·obtain⟨q1,q2⟩:=hnz i ei h1
   by_cases ej:j=nx
   ·rw[ej,hx]at h4;cases h4
    exact absurd (hh.inj i id li l q2 hi (hr i li ei h3) hl (by rw[e,hb])) q1
   ·exact hh.inj i j li lj q2 (hnz j ej h2).2 (hr i li ei h3) (hr j lj ej h4) e
 ·unfold upR;rw[d9z hj.2];exact hh.fr j hj.1
end Go.Kx
set_option linter.unusedVariables false
set_option linter.unusedSimpArgs false
namespace Go.Kx
open Go
open Go.Px (KT aJ KeyOk EqT eL)
variable {P:Program} {E:Vl} {ρ:Rh} {Ow:Nat->Prop} {Fr:Id->Prop} {nm:Id} {h:Hf} {W:World} {ls:List Id} {ac:Ac}
theorem c9l {l:Lc}{cs m:List V}{us:List Value}(hc:RC E ρ W l cs)(hle:l.o+cs.length+m.length<=l.n)(hm:RVs E ρ m us)(h1:One us):
  ∃W',(storeCells ⟨l.b,l.o+cs.length,none⟩ us).run P W= .ok () W'/\(∀b,b≠l.b->W'.heap[b]?=W.heap[b]?)/\W'.heap.size=W.heap.size/\(W'.os=W.os/\W'.tape=W.tape/\W'.output=W.output/\W'.drawn=W.drawn)/\RC E ρ W' l (cs++m):=by
 obtain⟨c,T,e1,e2,e3,e4⟩:=hc
 have hlen:=hm.length
 have hr:=e5h (P:=P) l.b (l.o+cs.length) T us 0 c W e1 (by simp;omega) h1
 refine⟨_,hr,λb hb=>e5v W l.b b _ hb,setRow_size _ _ _,⟨rfl,rfl,rfl,rfl⟩,_,T,e6t W l.b c _ T _ e1,?_,by simp;omega,λj x hj=>?_⟩
 ·simp;omega
 ·have hov:c.toList.take (l.o+cs.length+0)++us++c.toList.drop (l.o+cs.length+0+us.length)=ov c.toList (l.o+cs.length) us:=by unfold ov;simp
  rw[hov]
  have hg:∀k,(ov c.toList (l.o+cs.length) us).toArray.getD k undef=if l.o+cs.length<=k/\k<l.o+cs.length+us.length then us.getD (k-(l.o+cs.length)) undef else c.getD k undef:=λk=>by
   rw[d9x,e0t,a4z (by simp;omega)]
   split
   ·rw[d9r]
   ·rw[d9x,e0s]
  rw[hg,hlen]
  rw[List.getElem?_append]at hj
  split at hj
  ·rename_i hin
   rw[d9z (by omega)]
   exact e4 j x hj
  ·rename_i hin
   have hlt:j-cs.length<m.length:=(e1l.1 hj).1
   rw[e0c (by omega)]
   obtain⟨u,q1,q2⟩:=hm.get hj
   have e:us.getD (l.o+j-(l.o+cs.length)) undef=u:=by rw[d9r,show l.o+j-(l.o+cs.length)=j-cs.length by omega,q1];rfl
   rw[e]
   exact⟨q2,h1 u (e1j q1)⟩
theorem c4u {l:Lc}{cs:List V}(hc:RC E ρ W l cs){off n a:Nat}(ha:a=l.o+off)(hn:n=0\/off+n<=cs.length)(hl:a<=l.n):RC E ρ W ⟨l.b,a,l.n,l.it,l.mp⟩ ((cs.drop off).take n):=by
 obtain⟨c,T,e1,e2,e3,e4⟩:=hc
 subst ha
 refine⟨c,T,e1,e2,?_,λj x hj=>?_⟩
 ·show l.o+off+((cs.drop off).take n).length<=l.n
  simp only[e4l,e2p];omega
 ·rw[e4i]at hj
  split at hj
  ·rw[e4n]at hj
   show RV E ρ x (c.getD (l.o+off+j) undef)/\(c.getD (l.o+off+j) undef).oneCell'=true
   rw[e3j];exact e4 _ _ hj
  ·cases hj
section
variable {t t2 e k n ty:Nat} {y:Value} {us:List Value} {z:Value} {i:TypeInfo} {new:List V} {s:Sem Next}
theorem a1n {old:List Value}{lst:List V}{base:Option Addr}{sLen sCap:Nat}{h0:Hf}(hh:HR E Ow ρ h0 Fr W)(hf:Fr nm)(hs:slT P t=some e)(hk:szO P e=some k)(hz:zvO P e=some z)(hzs:z.cells.size=k)(hi:P.info? e=some i)(hb:i.bytes<=4294967296)(hk0:0<k)
  (hy:Src P W k t2 z.cells y n us) (hlt:sCap<sLen+n) (hm:sLen+n<=2048) (hold:(Builtin.firstCells k sLen (.slice base sLen sCap)).run P (gC W)= .ok old.toArray (gC W)) (ho:old.length=sLen*k) (hl:RVs E ρ lst old) (hl1:One old) (hn:us.length=n*k) (hw:RVs E ρ new us) (hw1:One us)
  (hrun:∀{u W'},(Builtin.append_ #[t,t2] ty #[.slice base sLen sCap,y]).run P W= .ok u W'->s.run P W= .ok (.value u) W'):
  cT P E Ow ρ Fr nm h W s (.s nm 0 (sLen+n) (sLen+n) k) (upH h0 nm (some (.c (lst++new)))) true:=by
 obtain⟨nc,hge,hr⟩:=b6m (ty:=ty) hs hk hz hzs hi hb rfl hy hlt hm hold
 have hsz:(old.toArray++us.toArray++Builtin.zeroCells z.cells (nc-(sLen+n))).size=nc*k:=by
  have e1:sLen*k+n*k+(nc-(sLen+n))*k=nc*k:=by rw[<-e1s,<-e1s];congr 1;omega
  simp only[e6f,e3y,ho,hn,Builtin.zeroCells,Array.size_map,Array.size_range,hzs];exact e1
 have hlen:(lst++new).length=(old++us).length:=by rw[e1f,e1f,hl.length,hw.length]
 have htk:(old.toArray++us.toArray++Builtin.zeroCells z.cells (nc-(sLen+n))).toList.take (lst++new).length=old++us:=by
  have e1:(old.toArray++us.toArray++Builtin.zeroCells z.cells (nc-(sLen+n))).toList=(old++us)++(Builtin.zeroCells z.cells (nc-(sLen+n))).toList:=by simp
  rw[hlen,e1];exact List.take_left
 have hll:(lst++new).length<=nc*k:=by
  rw[hlen,e1f,ho,hn,<-e1s];exact e0v k hge
 have hle:=dN (l:=lcN W (nc*k)) (hh.fr nm hf)
 refine cT.newD (l:=lcN W (nc*k)) hh hf (hrun hr) rfl (b3v (W:=gC W) (l:=lcN W (nc*k)) ⟨rfl,rfl,hsz.symm⟩ (by rw[hsz];exact hll) (by rw[htk];exact(hl.app hw).le hle) (by rw[htk];exact hl1.app hw1)) ?_
 exact⟨_,nc,0,bL _ _ _,rfl,hge,e0g _,λq=>by omega,λ_=>rfl,λ_=>by rw[e0f];exact e0g _⟩
theorem a4c {vx:V}{ux:Value}(hh:HR E Ow ρ h Fr W)(hf:iK ac=true->Fr nm)(hs:slT P t=some e)(hk:szO P e=some k)(hz:zvO P e=some z)(hzs:z.cells.size=k)(hi:P.info? e=some i)(hb:i.bytes<=4294967296)(hk0:0<k)
  (hv:RV E ρ vx ux) (hy:Src P W k t2 z.cells y n us) (hn:us.length=n*k) (hw:RVs E ρ new us) (hw1:One us)
  (hrun:∀{u W'},(Builtin.append_ #[t,t2] ty #[ux,y]).run P W= .ok u W'->s.run P W= .ok (.value u) W')
  (hg:goF h (c6z k 2048 vx nm n new)=some (ls,ac)):cT P E Ow ρ Fr nm h W s ac.v (apH nm ac h) (iK ac):=by
 have hnew:new.length=n*k:=by rw[<-hn,hw.length]
 rcases oG hg with⟨id,off,len,cap,ex,rfl,hg⟩|⟨rfl,hg⟩
 ·obtain⟨ob,ls',hob,hg,_⟩:=dL hg
  obtain⟨cs,e1,hg⟩:=tM hg
  rw[e1]at hob
  rw[fE]at hg
  obtain⟨hmx,hg⟩:=aP hg
  have hmx:len+n<=2048:=aL.1 hmx
  obtain⟨l,c,a,hl,rfl,q1,q2,q3,q4,q5⟩:=hv
  have hRC:RC E ρ W l cs:=(hh.get hob hl).1
  have hne:h id≠none:=by rw[hob];simp
  cases hcap:Nat.ble (len+n) cap with
  |true=>
   have hg:goF h (a3d cs (off+len*k) new λcs=> .set (.s id off (len+n) cap ex) id (.c cs))=some (ls',ac):=by
    have hg':=hg
    rw[show Nat.ble (Nat.add len n) cap=true from hcap]at hg';exact hg'
   have hcap:=aL.1 hcap
   obtain⟨hle,hg⟩:=nY hg
   cases hg
   obtain⟨W',w1,w2,w3,w4,w5⟩:=wY (P:=P) hRC (a:=a+len*k) (λq=>by
    have:new.length≠0:=λe=>q (e3e.1 e)
    have:n≠0:=λe=>by rw[e,e7y]at hnew;omega
    have:=q4 (by omega)
    omega) hle hw hw1
   refine cT.set hh hne hl (.inl (hrun ?_)) w2 w3 w4 w5 ⟨l,c,a,hl,rfl,q1,hcap,q3,q4,q5⟩
   rw[vH hs hk hz hzs hi hb rfl hy (by omega)]
   simp only[eO,w1,d9q]
  |false=>
   have hg:goF h (tk off (len*k) cs λl=>bif Nat.beq ex 0 then .new (.s nm 0 (len+n) (len+n) k) (.c (eH l new))else bif Nat.beq ex k then .mov (.s nm 0 (len+n) (len+n) k) id (.c (eH l new))else .no)=some (ls',ac):=by
    have hg':=hg
    rw[show Nat.ble (Nat.add len n) cap=false from hcap]at hg';exact hg'
   have hcap:cap<len+n:=by
    rcases e4r cap (len+n)with q|q
    ·exact q
    ·rw[e4c q]at hcap;cases hcap
   obtain⟨h1,h2,hg⟩:=b9r hg
   rw[jE]at hg
   obtain⟨old,r1,r2,r3,r4⟩:=b4x (P:=P) hRC (a:=a) (λq=>q4 (by
    have:len≠0:=λe=>q (by rw[e,e7y])
    omega)) h1
   have hold:(Builtin.firstCells k len (.slice (some ⟨l.b,a,none⟩) len c)).run P (gC W)= .ok old.toArray (gC W):=by
    simp only[Builtin.firstCells];exact r4 (gC W) rfl
   cases hex:Nat.beq ex 0 with
   |true=>
    rw[hex]at hg
    cases hg
    have hex:=d9s hex
    exact a1n hh (hf rfl) hs hk hz hzs hi hb hk0 hy (by have:=q3 hex;omega) hmx hold r1 r2 r3 hn hw hw1 hrun
   |false=>
    rw[hex]at hg
    obtain⟨hex2,hg⟩:=aP (show goF h (bif Nat.beq ex k then .mov (.s nm 0 (len+n) (len+n) k) id (.c ((cs.drop off).take (len*k)++new))else .no)=_ from hg)
    have hex2:ex=k:=d9s hex2
    cases hg
    subst hex2
    by_cases hroom:len+n<=c
    ·have hbig:=q5 (by omega)
     have ha:=q4 (by omega)
     have hmul:(len+n)*ex<=c*ex:=e0v ex hroom
     rw[e1s]at hmul
     have hpart:=c4u hRC (n:=len*ex) ha h1 (by omega)
     obtain⟨W',w1,w2,w3,w4,w5⟩:=c9l (P:=P) hpart (m:=new) (by rw[h2,hnew];show a+len*ex+n*ex<=l.n;omega) hw hw1
     rw[h2]at w1
     have hf:=hf rfl
     have hle:=dN (l:=⟨l.b,a,l.n,l.it,l.mp⟩) (hh.fr nm hf)
     have hown:=(hh.get hob hl).2.1
     have hHR:=hh.mov (W':=W') (l':=⟨l.b,a,l.n,l.it,l.mp⟩) (o:= .c ((cs.drop off).take (len*ex)++new)) hf hne hl rfl w2 w3 (RO.go (W:=W') (o:= .c ((cs.drop off).take (len*ex)++new)) (id:=nm) w5 hle rfl)
     refine⟨upR ρ nm ⟨l.b,a,l.n,l.it,l.mp⟩,W',.slice (some ⟨l.b,a,none⟩) (len+n) c,.inl (hrun ?_),hle,λj hj=>by unfold upR;rw[d9z hj],⟨_,c,a,bL _ _ _,rfl,hroom,e0g _,λq=>by omega,λ_=>rfl,λ_=>hbig⟩,hHR,⟨w4.1,w4.2.1,w4.2.2.1,by omega,λb _ hb=>w2 b λe=>hb (by rw[e];exact hown)⟩,λq=>(by cases q)⟩
     rw[vH hs hk hz hzs hi hb rfl hy hroom]
     simp only[eO]
     rw[show(storeCells ⟨l.b,a+len*ex,none⟩ us).run P W= .ok () W' from w1]
     rfl
    ·have hfg:HR E Ow ρ (upH h id none) Fr W:=hh.forget λj o hj=>by
      unfold upH at hj;split at hj
      ·cases hj
      ·exact hj
     exact a1n hfg (hf rfl) hs hk hz hzs hi hb hk0 hy (by omega) hmx hold r1 r2 r3 hn hw hw1 hrun
 ·obtain⟨rfl,_⟩:=hv
  cases hn0:Nat.beq n 0 with
  |true=>
   rw[hn0]at hg
   have hn0:=d9s hn0
   cases hg
   refine cT.pure (v:= .z (.slice none 0 0)) (u:= .slice none 0 0) hh (hrun ?_) ⟨rfl,rfl⟩
   rw[vH hs hk hz hzs hi hb rfl hy (by omega)]
   rw[hn0];rfl
  |false=>
   rw[hn0]at hg
   obtain⟨hmx,hg⟩:=aP (show goF h (bif Nat.ble n 2048 then .new (.s nm 0 n n k) (.c new)else .no)=_ from hg)
   have hmx:n<=2048:=aL.1 hmx
   have hne:n≠0:=λe=>by rw[e]at hn0;cases hn0
   cases hg
   have:=a1n (E:=E) (ρ:=ρ) (h:=h) (h0:=h) (sLen:=0) (sCap:=0) (base:=none) (old:=[]) (lst:=[]) hh (hf rfl) hs hk hz hzs hi hb hk0 hy (by omega) (by omega) (by simp[Builtin.firstCells]) (by simp) rfl (λw hw=>(by cases hw)) hn hw hw1 hrun
   rw[e0f]at this
   exact this
end
section
variable {ev:Operand->V} {re:Operand->Value} (hev:∀x,RV E ρ (ev x) (re x)) (o:Oper) (hh:HR E Ow ρ h Fr W) (hf:iK ac=true->Fr nm)
include hev hh hf
theorem c8i {x y:Operand}{t t2 e k mx:Nat}{z:List V}{d:TypeDesc}{zo:Option (List V)}(ho:o.op= .call {callee:= .builtin .append,args:= #[x,y],argTypes:= #[t,t2]})(hs:slT P t=some e)(hk:szO P e=some k)(hm:mxO P e=some mx)(hz:zcO P e=some z)(hd:P.underlying t2=some d)(hk0:0<k)
  (hzo:rI P t2=true/\zo=some z\/rI P t2=false/\zo=none) (hg:goF h (c0a k mx zo x y ev nm)=some (ls,ac)):cT P E Ow ρ Fr nm h W (execOp re o) ac.v (apH nm ac h) (iK ac):=by
 obtain⟨rfl,i,hi,hi0,hi1⟩:=c0x hm
 obtain⟨v,h1,h2,h3,h4⟩:=a4b (E:=E) (ρ:=ρ) hz
 have hvs:v.cells.size=k:=by rw[hk]at h2;cases h2;rfl
 have hrun:∀{u W'},(Builtin.append_ #[t,t2] o.type #[re x,re y]).run P W= .ok u W'->(execOp re o).run P W= .ok (.value u) W':=λhr=>by
  simp only[execOp,ho,resolve,invoke,builtin,d9t,d9u,d9q,e3h,e0o,e3c,hr]
 rcases hzo with⟨hint,rfl⟩|⟨hint,rfl⟩
 ·obtain⟨kk,n,hy,hg⟩:=lZ (show goF h (asN (ev y) λn=>bif Nat.ble n 2048 then c6z k 2048 (ev x) nm n (a9k z n)else .no)=_ from hg)
  obtain⟨hn,hg⟩:=aP hg
  have hn:n<=2048:=aL.1 hn
  have hu:∃j,P.underlying t2=some (.int j):=by
   unfold rI at hint
   split at hint
   ·rename_i j hj;exact⟨j,hj⟩
   ·cases hint
  obtain⟨j,hu⟩:=hu
  have hcell:(Builtin.zeroCells v.cells n).toList=(List.replicate n v.cells.toList).flatten:=qG v.cells n (by omega)
  have hrv:=wU h3 n
  have hone:=qC h4 n
  rw[<-hcell]at hrv hone
  exact a4c hh hf hs hk h1 hvs hi hi1 hk0 (hev x) (.inr ⟨j,kk,hu,evN hev hy,hn,rfl⟩) (by simp[Builtin.zeroCells,hvs]) hrv hone hrun hg
 ·have hg:goF h (xY k (ev y) (c6z k 2048 (ev x) nm))=some (ls,ac):=hg
  obtain⟨n,l,ls2,hg,hl,hn,hrd⟩:=a6n (P:=P) hh (hev y) hg
  obtain⟨us,r1,r2,r3,r4⟩:=hrd n (e0g _)
  rw[e4a (by omega)]at r2
  have hdd:∀j,d≠ .int j:=λj e=>by
   unfold rI at hint;rw[hd,e]at hint;cases hint
  exact a4c hh hf hs hk h1 hvs hi hi1 hk0 (hev x) (.inl ⟨d,hd,hdd,hn,r4 W rfl,r4 (gC W) rfl⟩) r1 r2 r3 hrun hg
end
end Go.Kx
set_option linter.unusedVariables false
set_option linter.unusedSimpArgs false
namespace Go.Kx
open Go
open Go.Px (KT aJ KeyOk EqT eL)
variable {P:Program} {E:Vl} {ρ:Rh} {Ow:Nat->Prop} {Fr:Id->Prop} {nm:Id} {h:Hf} {W:World} {ls:List Id} {ac:Ac}
theorem b7w {d:TypeDesc}(hd:a2m d=true):d= .int .i64:=by
 unfold a2m at hd;split at hd
 ·rfl
 ·cases hd
theorem rK {t ag:Nat}(hk:xN P t=some ag):∃kT eT,P.underlying t=some (.map kT eT)/\KeyOk P kT (cU ag):=by
 unfold xN at hk
 split at hk
 ·rename_i kT eT hu
  refine⟨kT,eT,hu,?_⟩
  split at hk
  ·rename_i fs hf
   cases hb:(b1p P fs.toList 0&&(!P.stoodInHeld kT&& !P.eqGuardType P.depth kT))with
   |false=>rw[hb]at hk;cases hk
   |true=>
    rw[hb]at hk;cases hk
    obtain⟨h1,h2⟩:=sU hb
    obtain⟨h2,h3⟩:=sU h2
    exact Go.Px.keyOk_struct hf (by simpa using h2) (by simpa using h3) (a2g h1)
  ·rename_i d _ hd
   cases hb:a2m d with
   |false=>rw[hb]at hk;cases hk
   |true=>
    rw[hb]at hk;cases hk
    exact Go.Px.keyOk_int (by rw[hd,b7w hb])
  ·cases hk
 ·cases hk
theorem a4l {ag:Nat}{v:V}{K:List Int->Rq}{r:List Id×Ac}(hg:goF h (asK ag v K)=some r):
  ∃l:List Int,l.length=(cU ag).n/\goF h (K l)=some r/\∀u,RV E ρ v u->u=aJ (cU ag) l:=by
 cases ag with
 |zero=>
  obtain⟨k,n,ev,hg2⟩:=tN (show goF h (asI v λk n=>bif keq k .i64 then K [n]else .no)=some r from hg)
  subst ev
  obtain⟨hk,hg⟩:=aP hg2
  have hk:=wA hk
  subst hk
  exact⟨[n],rfl,hg,λu hu=>hu⟩
 |succ m=>
  obtain⟨cs,ev,hg2⟩:=a4k (show goF h (asA v λcs=>ifS (kL cs) .no λl=>bif Nat.beq (Nat.succ (nQ l)) (m+1)then K l else .no)=some r from hg)
  subst ev
  obtain⟨l,hl,hg⟩:=gL hg2
  obtain⟨hm,hg⟩:=aP hg
  have hm:=d9s hm
  rw[gE]at hm
  exact⟨l,by show l.length=m;omega,hg,λu hu=>b4q hu hl⟩
theorem eR {k:List Int}:∀{es:Es} {v:V},find k es=some v->(k,v)∈es
 |e::l,v,hf=>by
  have hf:(bif kq k e.1 then some e.2 else find k l)=some v:=hf
  rw[fG]at hf
  by_cases q:k=e.1
  ·rw[e1r q]at hf;cases hf;subst q;simp
  ·rw[e1o q]at hf;exact d9v _ (eR hf)
theorem mF {k:List Int}:∀{es:Es},find k es=none->∀v,(k,v)∉es
 |[],_,v,hm=>by cases hm
 |e::l,hf,v,hm=>by
  have hf:(bif kq k e.1 then some e.2 else find k l)=none:=hf
  rw[fG]at hf
  by_cases q:k=e.1
  ·rw[e1r q]at hf;cases hf
  ·rw[e1o q]at hf
   rcases e0b.1 hm with e1|hm
   ·exact q (by rw[<-e1])
   ·exact mF hf v hm
theorem mP {es:Es}(hn:(es.map (·.1)).Nodup){k:List Int}{a b:V}(ha:(k,a)∈es)(hb:(k,b)∈es):a=b:=by
 induction es with
 |nil=>cases ha
 |cons e l ih=>
  rw[e0o,e2b]at hn
  rcases e0b.1 ha with e1|ha<;>rcases e0b.1 hb with e2|hb
  ·exact(Prod.mk.inj (e1.trans e2.symm)).2
  ·exact absurd (show e.1∈l.map (·.1)from e0l.2 ⟨(k,b),hb,by rw[<-e1]⟩) hn.1
  ·exact absurd (show e.1∈l.map (·.1)from e0l.2 ⟨(k,a),ha,by rw[<-e2]⟩) hn.1
  ·exact ih hn.2 ha hb
theorem mG {kT ag:Nat}{es:Es}{ents:Array MapEntry}{clock:Nat}{k:List Int}(hK:KeyOk P kT (cU ag))(hm:Mok E ρ ag es ents clock)(hk:k.length=(cU ag).n):
  (find k es=none/\(∀w,(Instr.findKey kT (aJ (cU ag) k) ents.toList).run P w= .ok none w)/\∀e∈ents.toList,e.key≠aJ (cU ag) k)\/
  ∃(j:Nat) (e:MapEntry) (v:V),find k es=some v/\(∀w,(Instr.findKey kT (aJ (cU ag) k) ents.toList).run P w= .ok (some (j,e.val)) w)/\ents.toList[j]?=some e/\e.key=aJ (cU ag) k/\RV E ρ v e.val:=by
 have hes:∀e∈ents.toList,∃k':List Int,k'.length=(cU ag).n/\e.key=aJ (cU ag) k':=λe he=>let⟨k',v,_,h2,h3,_⟩:=hm.ent e he;⟨k',h2,h3⟩
 have hone:∀(j j':Nat) (e e':MapEntry),ents.toList[j]?=some e->ents.toList[j']?=some e'->e.key=e'.key->j=j':=λj j' e e' h1 h2 h3=>by
  have hlt:j<(ents.toList.map (·.key)).length:=by rw[e0z];exact(e1l.1 h1).1
  refine(e3l hlt hm.kn).1 ?_
  rw[e0j,e0j,h1,h2];exact e2r some h3
 cases hf:find k es with
 |none=>
  have hno:∀e∈ents.toList,e.key≠aJ (cU ag) k:=λe he q=>by
   obtain⟨k',v,h1,h2,h3,_⟩:=hm.ent e he
   have:=fF h2 hk (h3.symm.trans q)
   subst this
   exact mF hf v h1
  refine .inl ⟨rfl,λw=>?_,hno⟩
  rcases hK.fnd k ents.toList w hk hes with⟨h1,_⟩|⟨j,e,_,h2,h3⟩
  ·exact h1
  ·exact absurd h3 (hno e (e1j h2))
 |some v=>
  have hmem:=eR hf
  obtain⟨_,e,he,hek⟩:=hm.all k v hmem
  obtain⟨j,hj⟩:=e2g he
  refine .inr ⟨j,e,v,rfl,λw=>?_,hj,hek,?_⟩
  ·rcases hK.fnd k ents.toList w hk hes with⟨_,h2⟩|⟨j',e',h1,h2,h3⟩
   ·exact absurd hek (h2 e he)
   ·have ej:=hone j j' e e' hj h2 (hek.trans h3.symm)
    subst ej
    rw[hj]at h2;cases h2
    exact h1
  ·obtain⟨k',v',h1,h2,h3,h4⟩:=hm.ent e he
   have:=fF h2 hk (h3.symm.trans hek)
   subst this
   rw[mP hm.kd hmem h1];exact h4
theorem aH {b:Nat}{ents:Array MapEntry}{clock:Nat}(hb:W.heap[b]?=some (Obj.map ents clock)):(getObj b).run P W= .ok (Obj.map ents clock) W:=by
 simp only[getObj,Sem.run,hb]
section
variable {ev:Operand->V} {re:Operand->Value} (hev:∀x,RV E ρ (ev x) (re x)) (o:Oper) (hh:HR E Ow ρ h Fr W) (hf:iK ac=true->Fr nm)
include hh
include hev in
theorem c9f {t ag e:Nat}{zv:Value}{x k:Operand}{co:Bool}(ho:o.op= .lookup t x k co)(hk:xN P t=some ag)(he:elT P t=some e)(hz:zvO P e=some zv)(hg:goF h (pA ag (ofV zv) x k co ev nm)=some (ls,ac)):Pu P E ρ W (execOp re o) ac:=by
 obtain⟨kT,eT,hu,hK⟩:=rK hk
 have hee:eT=e:=by unfold elT at he;rw[hu]at he;cases he;rfl
 subst hee
 obtain⟨l,hl,hg,hkv⟩:=a4l hg
 obtain⟨id,hx,hg⟩:=iC hg
 obtain⟨ob,ls',hob,hg,_⟩:=dL hg
 obtain⟨ag',es,op,e1,hg⟩:=qM hg
 rw[e1]at hob
 obtain⟨hag,hg3⟩:=aP hg
 have hag:=d9s hag
 subst hag
 have hx':=hev x
 rw[hx]at hx'
 obtain⟨q,hq,hr⟩:=hx'
 obtain⟨ents,clock,hb,hm,_⟩:=(hh.get hob hq).1
 have hkr:=hkv _ (hev k)
 rcases mG (P:=P) hK hm hl with⟨f1,f2,f3⟩|⟨j,en,v,f1,f2,f3,f4,f5⟩
 ·rw[f1]at hg3
  have hg:goF h (lkz (ofV zv) co)=some (ls',ac):=hg3
  have hm0:(Instr.lookup t (re x) (re k) co).run P W= .ok (if co then .tuple #[zv,.bool false]else zv) W:=by
   simp only[Instr.lookup,d9t,e0k hu,d9q,hr,aH hb,d9u,hkr,hK.chk _ l W hl,f2 W,iY hz]
  cases co with
  |false=>exact .of (aZ hg) (u:=zv) (by simp only[execOp,ho,d9t,hm0,d9q,d9u];rfl) (zK zv)
  |true=>exact .of (aZ hg) (u:= .tuple #[zv,.bool false]) (by simp only[execOp,ho,d9t,hm0,d9q,d9u];rfl) ⟨_,rfl,zv,_,rfl,zK zv,_,_,rfl,rfl,rfl⟩
 ·rw[f1]at hg3
  have hg:goF h (lks v co)=some (ls',ac):=hg3
  have hm0:(Instr.lookup t (re x) (re k) co).run P W= .ok (if co then .tuple #[en.val,.bool true]else en.val) W:=by
   simp only[Instr.lookup,d9t,e0k hu,d9q,hr,aH hb,d9u,hkr,hK.chk _ l W hl,f2 W]
  cases co with
  |false=>exact .of (aZ hg) (u:=en.val) (by simp only[execOp,ho,d9t,hm0,d9q,d9u];rfl) f5
  |true=>exact .of (aZ hg) (u:= .tuple #[en.val,.bool true]) (by simp only[execOp,ho,d9t,hm0,d9q,d9u];rfl) ⟨_,rfl,en.val,_,rfl,f5,_,_,rfl,rfl,rfl⟩
include hf in
theorem c8l {t ag:Nat}(ho:o.op= .makeMap t none)(hg:goF h (c1q ag ev nm)=some (ls,ac)):cT P E Ow ρ Fr nm h W (execOp re o) ac.v (apH nm ac h) (iK ac):=by
 cases hg
 refine cT.new (l:=lcN W 0) (obj:= .map #[] 0) hh (hf rfl) (u:= .map (some W.heap.size)) ?_ rfl ⟨#[],0,heap_alloc_new W _,⟨e4k,λe he=>(by cases he),λk v he=>(by cases he),e4k,λe he=>(by cases he),e4k⟩,λg k q=>(by cases q)⟩ ⟨_,bL _ _ _,rfl⟩
 simp only[execOp,ho,e4m,Instr.makeMap,d9t,d9u,d9q]
 rfl
end
end Go.Kx
set_option linter.unusedVariables false
set_option linter.unusedSimpArgs false
namespace Go.Kx
open Go
open Go.Px (KT aJ KeyOk EqT eL)
variable {P:Program} {E:Vl} {ρ:Rh} {Ow:Nat->Prop} {Fr:Id->Prop} {nm:Id} {h:Hf} {W:World} {ls:List Id} {ac:Ac}
theorem qE (k:List Int)(v:V)(e:List Int×V)(l:Es):upd k v (e::l)=if k=e.1 then(k,v)::l else e::upd k v l:=by
 show(bif kq k e.1 then(k,v)::l else e::upd k v l)=_
 rw[fG]
 by_cases q:k=e.1
 ·rw[e1r q,e0c q];rfl
 ·rw[e1o q,d9z q];rfl
theorem b5j {k:List Int}{v:V}{x:List Int}:∀{es:Es},x∈(upd k v es).map (·.1)↔x=k\/x∈es.map (·.1)
 |[]=>by show x∈[(k,v)].map (·.1)↔_;simp
 |e::l=>by
  rw[qE]
  by_cases q:k=e.1
  ·rw[e0c q,e0o,e0o,e0b,e0b,q];simp
  ·rw[d9z q,e0o,e0o,e0b,e0b,b5j]
   constructor
   ·rintro(a|a|a)<;>simp[a]
   ·rintro(a|a|a)<;>simp[a]
theorem nE {k:List Int}{v:V}:∀{es:Es},(es.map (·.1)).Nodup->((upd k v es).map (·.1)).Nodup
 |[],_=>by show([(k,v)].map (·.1)).Nodup;simp
 |e::l,hn=>by
  rw[e0o,e2b]at hn
  rw[qE]
  by_cases q:k=e.1
  ·rw[e0c q,e0o,e2b,show((k,v):List Int×V).1=e.1 from q];exact hn
  ·rw[d9z q,e0o,e2b,b5j]
   refine⟨?_,nE hn.2⟩
   rintro(a|a)
   ·exact q a.symm
   ·exact hn.1 a
theorem lU {k k':List Int}{v v':V}:∀{es:Es},(es.map (·.1)).Nodup->((k',v')∈upd k v es↔(k'=k/\v'=v)\/(k'≠k/\(k',v')∈es))
 |[],_=>by show(k',v')∈[(k,v)]↔_;simp
 |e::l,hn=>by
  rw[e0o,e2b]at hn
  rw[qE]
  by_cases q:k=e.1
  ·rw[e0c q,e0b,e0b]
   constructor
   ·rintro(a|a)
    ·cases a;exact .inl ⟨rfl,rfl⟩
    ·refine .inr ⟨λek=>hn.1 ?_,.inr a⟩
     exact e0l.2 ⟨(k',v'),a,ek.trans q⟩
   ·rintro(⟨rfl,rfl⟩|⟨a,b|b⟩)
    ·exact .inl rfl
    ·exact absurd (by rw[<-b]at q;exact q.symm) a
    ·exact .inr b
  ·rw[d9z q,e0b,e0b,lU hn.2]
   constructor
   ·rintro(a|a|⟨a,b⟩)
    ·exact .inr ⟨λek=>q (by rw[<-a];exact ek.symm),.inl a⟩
    ·exact .inl a
    ·exact .inr ⟨a,.inr b⟩
   ·rintro(a|⟨a,b|b⟩)
    ·exact .inr (.inl a)
    ·exact .inl b
    ·exact .inr (.inr ⟨a,b⟩)
theorem Mok.push {ag:Nat}{es:Es}{ents:Array MapEntry}{clock:Nat}{k:List Int}{v:V}{u:Value}(hm:Mok E ρ ag es ents clock)(hk:k.length=(cU ag).n)(hno:∀e∈ents.toList,e.key≠aJ (cU ag) k)(hv:RV E ρ v u):
  Mok E ρ ag (upd k v es) (ents.push {key:=aJ (cU ag) k,val:=u,born:=clock}) (clock+1):=by
 have hl:(ents.push {key:=aJ (cU ag) k,val:=u,born:=clock}).toList=ents.toList++[{key:=aJ (cU ag) k,val:=u,born:=clock}]:=by simp
 refine⟨nE hm.kd,λe he=>?_,λk' v' hkv=>?_,?_,λe he=>?_,?_⟩
 ·rw[hl,e0x,e1k]at he
  rcases he with he|rfl
  ·obtain⟨k',v',h1,h2,h3,h4⟩:=hm.ent e he
   exact⟨k',v',(lU hm.kd).2 (.inr ⟨λq=>hno e he (by rw[h3,q]),h1⟩),h2,h3,h4⟩
  ·exact⟨k,v,(lU hm.kd).2 (.inl ⟨rfl,rfl⟩),hk,rfl,hv⟩
 ·rcases(lU hm.kd).1 hkv with⟨rfl,rfl⟩|⟨_,h1⟩
  ·exact⟨hk,{key:=aJ (cU ag) k',val:=u,born:=clock},by rw[hl];simp,rfl⟩
  ·obtain⟨h2,e,h3,h4⟩:=hm.all k' v' h1
   exact⟨h2,e,by rw[hl];simp[h3],h4⟩
 ·rw[hl,e1z,e6h]
  refine⟨hm.nd,by simp,λa ha b hb=>?_⟩
  obtain⟨e,he,rfl⟩:=e0l.1 ha
  have:=hm.lt e he
  simp at hb;omega
 ·rw[hl,e0x,e1k]at he
  rcases he with he|rfl
  ·have:=hm.lt e he;omega
  ·show clock<clock+1;omega
 ·rw[hl,e1z,e6h]
  refine⟨hm.kn,by simp,λa ha b hb=>?_⟩
  obtain⟨e,he,rfl⟩:=e0l.1 ha
  simp at hb;rw[hb];exact hno e he
theorem Mok.modify {ag:Nat}{es:Es}{ents:Array MapEntry}{clock:Nat}{k:List Int}{v:V}{u:Value}{j:Nat}{e0:MapEntry}{f:MapEntry->MapEntry}(hm:Mok E ρ ag es ents clock)(hk:k.length=(cU ag).n)(hj:ents.toList[j]?=some e0)(he0:e0.key=aJ (cU ag) k)(hv:RV E ρ v u)
  (hfk:(f e0).key=aJ (cU ag) k) (hfv:(f e0).val=u) (hfb:(f e0).born=e0.born):Mok E ρ ag (upd k v es) (ents.modify j f) clock:=by
 have hget:∀i,(ents.modify j f).toList[i]?=if j=i then some (f e0)else ents.toList[i]?:=λi=>by
  rw[Array.toList_modify,List.getElem?_modify]
  by_cases q:j=i
  ·subst q;rw[hj];simp
  ·simp[q]
 have hkey:(ents.modify j f).toList.map (·.key)=ents.toList.map (·.key):=e3u λi=>by
  rw[e0j,e0j,hget]
  by_cases q:j=i
  ·subst q;rw[e0c rfl,hj];simp[hfk,he0]
  ·rw[d9z q]
 have hborn:(ents.modify j f).toList.map (·.born)=ents.toList.map (·.born):=e3u λi=>by
  rw[e0j,e0j,hget]
  by_cases q:j=i
  ·subst q;rw[e0c rfl,hj];simp[hfb]
  ·rw[d9z q]
 have hcase:∀e∈(ents.modify j f).toList,e=f e0\/(e∈ents.toList/\e.key≠aJ (cU ag) k):=λe he=>by
  obtain⟨i,hi⟩:=e2g he
  rw[hget]at hi
  by_cases q:j=i
  ·rw[e0c q]at hi;cases hi;exact .inl rfl
  ·rw[d9z q]at hi
   refine .inr ⟨e1j hi,λek=>q ?_⟩
   refine(e3l (by rw[e0z];exact(e1l.1 hj).1) hm.kn).1 ?_
   rw[e0j,e0j,hj,hi];exact e2r some (he0.trans ek.symm)
 refine⟨nE hm.kd,λe he=>?_,λk' v' hkv=>?_,by rw[hborn];exact hm.nd,λe he=>?_,by rw[hkey];exact hm.kn⟩
 ·rcases hcase e he with rfl|⟨h1,h2⟩
  ·exact⟨k,v,(lU hm.kd).2 (.inl ⟨rfl,rfl⟩),hk,hfk,by rw[hfv];exact hv⟩
  ·obtain⟨k',v',h3,h4,h5,h6⟩:=hm.ent e h1
   exact⟨k',v',(lU hm.kd).2 (.inr ⟨λq=>h2 (by rw[h5,q]),h3⟩),h4,h5,h6⟩
 ·have hin:∀{kk:List Int},(∃e∈ents.toList,e.key=aJ (cU ag) kk)->∃e∈(ents.modify j f).toList,e.key=aJ (cU ag) kk:=λ{kk} ⟨e,h1,h2⟩=>by
   have:aJ (cU ag) kk∈(ents.modify j f).toList.map (·.key):=by rw[hkey];exact e0l.2 ⟨e,h1,h2⟩
   obtain⟨e',h3,h4⟩:=e0l.1 this
   exact⟨e',h3,h4⟩
  rcases(lU hm.kd).1 hkv with⟨rfl,rfl⟩|⟨_,h1⟩
  ·exact⟨hk,hin ⟨e0,e1j hj,he0⟩⟩
  ·obtain⟨h2,h3⟩:=hm.all k' v' h1
   exact⟨h2,hin h3⟩
 ·rcases hcase e he with rfl|⟨h1,_⟩
  ·rw[hfb];exact hm.lt e0 (e1j hj)
  ·exact hm.lt e h1
end Go.Kx
set_option linter.unusedVariables false
set_option linter.unusedSimpArgs false
namespace Go.Kx
open Go
open Go.Px (KT aJ KeyOk EqT eL)
variable {P:Program} {E:Vl} {ρ:Rh} {Ow:Nat->Prop} {Fr:Id->Prop} {nm:Id} {h:Hf} {W:World} {ls:List Id} {ac:Ac}
theorem uT (n:Nat):∀(l:List Int),((l.map (Value.int .i64)).zip (l.map (Value.int .i64))).all (λp=>Instr.sameBits n p.1 p.2)=true
 |[]=>rfl
 |x::l=>by
  simp only[e0o,List.zip_cons_cons,List.all_cons,e0d]
  exact⟨by cases n<;>simp[Instr.sameBits],uT n l⟩
theorem a0k (kt:KT)(l:List Int):(Instr.keyThatStays (aJ kt l) (aJ kt l)).run P W= .ok (aJ kt l) W:=by
 have:Instr.sameBits 10000 (aJ kt l) (aJ kt l)=true:=by
  unfold aJ
  cases kt.ag with
  |true=>
   simp only[eL]
   have:=uT 9999 l
   simp only[Instr.sameBits,beq_self_eq_true,Bool.true_and]
   exact this
  |false=>simp[Instr.sameBits]
 unfold Instr.keyThatStays
 rw[e0c this];rfl
def b9e (W:World)(b:Nat)(o:Obj):World:={W with heap:=W.heap.setIfInBounds b o}
theorem aU {b:Nat}{ents:Array MapEntry}{clock:Nat}(hb:W.heap[b]?=some (Obj.map ents clock))(o:Obj):(setObj b o).run P W= .ok () (b9e W b o):=by
 simp only[setObj,Sem.run,hb];rfl
theorem jN {b:Nat}{o o0:Obj}(hb:W.heap[b]?=some o0):(b9e W b o).heap[b]?=some o:=by
 have hlt:b<W.heap.size:=by
  rcases e4r b W.heap.size with q|q
  ·exact q
  ·rw[e5n q]at hb;cases hb
 show(W.heap.setIfInBounds b o)[b]?=some o
 rw[Array.getElem?_setIfInBounds,e0c rfl,e0c hlt]
theorem eY {b j:Nat}{o:Obj}(hj:j≠b):(b9e W b o).heap[j]?=W.heap[j]?:=by
 show(W.heap.setIfInBounds b o)[j]?=_
 rw[Array.getElem?_setIfInBounds,d9z (λe=>hj e.symm)]
theorem gS {b:Nat}{o:Obj}:(b9e W b o).heap.size=W.heap.size:=by
 show(W.heap.setIfInBounds b o).size=_
 exact e2i
theorem c4o {t kT eT ag b clock:Nat}{es:Es}{ents:Array MapEntry}{k:List Int}{v:V}{u:Value}(hu:P.underlying t=some (.map kT eT))(hK:KeyOk P kT (cU ag))(hb:W.heap[b]?=some (Obj.map ents clock))(hm:Mok E ρ ag es ents clock)(hk:k.length=(cU ag).n)(hv:RV E ρ v u):
  ∃ents' clock',(Instr.mapUpdate t (.map (some b)) (aJ (cU ag) k) u).run P W= .ok () (b9e W b (.map ents' clock'))/\Mok E ρ ag (upd k v es) ents' clock':=by
 rcases mG (P:=P) hK hm hk with⟨f1,f2,f3⟩|⟨j,en,v0,f1,f2,f3,f4,f5⟩
 ·refine⟨_,_,?_,hm.push hk f3 hv⟩
  simp only[Instr.mapUpdate,d9t,e0k hu,d9q,aH hb,hK.chk _ k W hk,f2 W,aU hb]
 ·have hj:ents[j]?=some en:=by rw[<-e0s];exact f3
  refine⟨ents.modify j λe=>{e with key:=aJ (cU ag) k,val:=u},clock,?_,hm.modify hk f3 f4 hv rfl rfl rfl⟩
  simp only[Instr.mapUpdate,d9t,e0k hu,d9q,aH hb,hK.chk _ k W hk,f2 W,hj,e1y,e2v,f4,a0k,aU hb]
section
variable {ev:Operand->V} {re:Operand->Value} (hev:∀x,RV E ρ (ev x) (re x)) (o:Oper) (hh:HR E Ow ρ h Fr W) (hf:iK ac=true->Fr nm)
include hev hh
theorem c8m {t ag:Nat}{m k v:Operand}(ho:o.op= .mapUpdate t m k v\/o.op= .insert t m k v)(hk:xN P t=some ag)(hg:goF h (b5s ag m k v ev nm)=some (ls,ac)):cT P E Ow ρ Fr nm h W (execOp re o) ac.v (apH nm ac h) (iK ac):=by
 obtain⟨kT,eT,hu,hK⟩:=rK hk
 obtain⟨id,hx,hg⟩:=iC hg
 obtain⟨l,hl,hg,hkv⟩:=a4l hg
 obtain⟨ob,ls',hob,hg,_⟩:=dL hg
 have hx':=hev m
 rw[hx]at hx'
 obtain⟨q,hq,hr⟩:=hx'
 have hkr:=hkv _ (hev k)
 have hne:h id≠none:=by rw[hob];simp
 have hrun:∀{W'},(Instr.mapUpdate t (re m) (re k) (re v)).run P W= .ok () W'->(execOp re o).run P W= .ok .skip W':=λhw=>by
  rcases ho with ho|ho<;>simp only[execOp,ho,d9t,hw,d9q,d9u]
 rw[hr,hkr]at hrun
 have fin:∀{es:Es},RM E ρ W q ag es none->∀o',(∀W',RM E ρ W' q ag (upd l (ev v) es) none->RO E ρ W' id q o')->cT P E Ow ρ Fr nm h W (execOp re o) (.t []) (upH h id (some o')) false:=by
  intro es ⟨ents,clock,hb,hm,_⟩ o' hro
  obtain⟨ents',clock',hw,hm'⟩:=c4o hu hK hb hm hl (hev v)
  exact cT.set hh hne hq (.inr ⟨hrun hw,rfl⟩) (λb hb=>eY hb) gS ⟨rfl,rfl,rfl,rfl⟩ (hro _ ⟨ents',clock',jN hb,hm',λg k q=>(by cases q)⟩) ⟨#[],rfl,rfl⟩
 cases ob with
 |m ag' es op=>
  obtain⟨hag,hg2⟩:=aP (show goF h (bif Nat.beq ag ag' then .set (.t []) id (.m ag (upd l (ev v) es) none)else .no)=_ from hg)
  have hag:=d9s hag
  subst hag
  cases hg2
  obtain⟨ents,clock,hb,hm,_⟩:=(hh.get hob hq).1
  exact fin ⟨ents,clock,hb,hm,λg k q=>(by cases q)⟩ _ λW' hw=>hw
 |lg ag' lgs=>
  obtain⟨hag,hg2⟩:=aP (show goF h (bif Nat.beq ag ag' then .set (.t []) id (.lg ag ((l,some (ev v))::lgs))else .no)=_ from hg)
  have hag:=d9s hag
  subst hag
  cases hg2
  obtain⟨es0,e0,e1⟩:=(hh.get hob hq).1
  exact fin (es:=apM lgs es0) e1 _ λW' hw=>⟨es0,e0,hw⟩
 |_=>exact aT hg
end
end Go.Kx
set_option linter.unusedVariables false
set_option linter.unusedSimpArgs false
namespace Go.Kx
open Go
open Go.Px (KT aJ KeyOk EqT eL)
variable {P:Program} {E:Vl} {ρ:Rh} {Ow:Nat->Prop} {Fr:Id->Prop} {nm:Id} {h:Hf} {W:World} {ls:List Id} {ac:Ac}
theorem HR.stamp (hh:HR E Ow ρ h Fr W){nx:Id}(hn:Fr nx)(l:Lc):HR E Ow (upR ρ nx l) h (λj=>Fr j/\j≠nx) W:=by
 have hle:=dN (l:=l) (hh.fr nx hn)
 have hnx:h nx=none:=by
  cases e:h nx with
  |none=>rfl
  |some o=>obtain⟨l',h1,_⟩:=hh.obj nx o e;rw[hh.fr nx hn]at h1;cases h1
 have hr:∀j lj,h j≠none->upR ρ nx l j=some lj->ρ j=some lj:=λj lj hj h1=>by
  unfold upR at h1;rwa[d9z (λe=>hj (by rw[e];exact hnx))]at h1
 refine⟨λj o hj=>?_,λi j li lj h1 h2 h3 h4=>hh.inj i j li lj h1 h2 (hr i li h1 h3) (hr j lj h2 h4),λj hj=>?_,hh.up⟩
 ·obtain⟨lj,h1,h2,h3,h4⟩:=hh.obj j o hj
  exact⟨lj,hle _ _ h1,h2,h3,h4.go hle rfl⟩
 ·unfold upR;rw[d9z hj.2];exact hh.fr j hj.1
theorem iO {ents:Array MapEntry}{j:Nat}{e:MapEntry}{f:MapEntry->MapEntry}(hj:ents.toList[j]?=some e)(hf:f e=e):ents.modify j f=ents:=by
 apply Array.ext'
 rw[Array.toList_modify]
 apply e3u
 intro i
 rw[List.getElem?_modify]
 by_cases q:j=i
 ·subst q;rw[hj];simp[hf]
 ·simp[q]
section
variable {ev:Operand->V} {re:Operand->Value} (hev:∀x,RV E ρ (ev x) (re x)) (o:Oper) (hh:HR E Ow ρ h Fr W) (hf:iK ac=true->Fr nm)
include hev hh hf
theorem c8k {t ag e:Nat}{zv:Value}{m k:Operand}(ho:o.op= .mapEntry t m k)(hk:xN P t=some ag)(he:elT P t=some e)(hz:zvO P e=some zv)(hg:goF h (a7b ag (ofV zv) m k ev nm)=some (ls,ac)):cT P E Ow ρ Fr nm h W (execOp re o) ac.v (apH nm ac h) (iK ac):=by
 obtain⟨kT,eT,hu,hK⟩:=rK hk
 have hee:eT=e:=by unfold elT at he;rw[hu]at he;cases he;rfl
 subst hee
 obtain⟨id,hx,hg⟩:=iC hg
 obtain⟨l,hl,hg,hkv⟩:=a4l hg
 obtain⟨ob,ls',hob,hg,_⟩:=dL hg
 obtain⟨ag',es,op,e1,hg⟩:=qM hg
 rw[e1]at hob
 obtain⟨hag,hg3⟩:=aP hg
 have hag:=d9s hag
 subst hag
 have hx':=hev m
 rw[hx]at hx'
 obtain⟨q,hq,hr⟩:=hx'
 have hkr:=hkv _ (hev k)
 have hne:h id≠none:=by rw[hob];simp
 obtain⟨ents,clock,hb,hm,_⟩:=(hh.get hob hq).1
 have hown:=(hh.get hob hq).2.1
 have hrun:∀{v:Value} {n:Nat} {W'},(Instr.mapEntry t (re m) (re k)).run P W= .ok (.tuple #[v,.int .i64 n]) W'->(execOp re o).run P W= .ok (.value (.tuple #[v,.int .i64 n])) W':=λhw=>by
  simp only[execOp,ho,d9t,hw,d9q,d9u]
 rw[hr,hkr]at hrun
 have fin:∀{es':Es} {ents':Array MapEntry} {clock':Nat} {en:MapEntry} {v:V},Mok E ρ ag es' ents' clock'->en∈ents'.toList->en.key=aJ (cU ag) l->RV E ρ v en.val->
   (Instr.mapEntry t (.map (some q.b)) (aJ (cU ag) l)).run P W= .ok (.tuple #[en.val,.int .i64 en.born]) (b9e W q.b (.map ents' clock'))->
   Fr nm->cT P E Ow ρ Fr nm h W (execOp re o) (.t [v,.q nm]) (upH h id (some (.m ag es' (some (nm,some l))))) true:=by
  intro es' ents' clock' en v hm' hen hek hv hw hf
  have hle:=dN (l:=⟨en.born,clock',0,default,.map ents' clock'⟩) (hh.fr nm hf)
  have hh':=hh.stamp hf ⟨en.born,clock',0,default,.map ents' clock'⟩
  refine⟨upR ρ nm ⟨en.born,clock',0,default,.map ents' clock'⟩,_,_,.inl (hrun hw),hle,λj hj=>by unfold upR;rw[d9z hj],⟨_,rfl,en.val,_,rfl,hv.le hle,_,_,rfl,⟨_,bL _ _ _,rfl⟩,rfl⟩,?_,⟨rfl,rfl,rfl,by rw[gS];exact e0g _,λb _ hb=>eY λe=>hb (by rw[e];exact hown)⟩,λq=>(by cases q)⟩
  refine hh'.set hne (hle _ _ hq) (λb hb=>eY hb) gS ⟨ents',clock',jN hb,hm'.le hle,λg k' hgk=>?_⟩
  cases hgk
  exact⟨_,bL _ _ _,rfl,λk2 hk2=>by cases hk2;exact⟨rfl,en,hen,rfl,hek,hl⟩⟩
 rcases mG (P:=P) hK hm hl with⟨f1,f2,f3⟩|⟨j,en,v,f1,f2,f3,f4,f5⟩
 ·rw[f1]at hg3
  cases hg3
  refine fin (en:={key:=aJ (cU ag) l,val:=zv,born:=clock}) (hm.push hl f3 (zK zv)) (by simp) rfl (zK zv) ?_ (hf rfl)
  simp only[Instr.mapEntry,d9t,e0k hu,d9q,aH hb,hK.chk _ l W hl,f2 W,iY hz,aU hb,d9u]
  rfl
 ·rw[f1]at hg3
  cases hg3
  have hj:ents[j]?=some en:=by rw[<-e0s];exact f3
  have hsame:(ents.modify j λe=>{e with key:=aJ (cU ag) l})=ents:=iO f3 (by rw[<-f4])
  refine fin (en:=en) hm (e1j f3) f4 f5 ?_ (hf rfl)
  simp only[Instr.mapEntry,d9t,e0k hu,d9q,aH hb,hK.chk _ l W hl,f2 W,hj,e1y,e2v,f4,a0k,hsame,aU hb,d9u]
  rfl
end
end Go.Kx
set_option linter.unusedVariables false
set_option linter.unusedSimpArgs false
namespace Go.Kx
open Go
open Go.Px (KT aJ KeyOk EqT eL)
variable {P:Program} {E:Vl} {ρ:Rh} {Ow:Nat->Prop} {Fr:Id->Prop} {nm:Id} {h:Hf} {W:World} {ls:List Id} {ac:Ac}
theorem c2g {ents:Array MapEntry}{e:MapEntry}(he:e∈ents.toList)(hn:(ents.toList.map (·.born)).Nodup):∃i,ents.findIdx? (λx=>(x.born:Int)==((e.born:Nat):Int))=some i/\ents.toList[i]?=some e:=by
 cases hf:ents.findIdx? (λx=>(x.born:Int)==((e.born:Nat):Int))with
 |none=>
  have:=Array.findIdx?_eq_none_iff.1 hf e (by simpa using he)
  simp at this
 |some i=>
  obtain⟨hi,hp,_⟩:=Array.findIdx?_eq_some_iff_getElem.1 hf
  refine⟨i,rfl,?_⟩
  obtain⟨j,hj⟩:=e2g he
  have hb:ents[i].born=e.born:=by have:=eq_of_beq hp;exact_mod_cast this
  have hi':ents.toList[i]?=some ents[i]:=by rw[e0s];exact e0y hi
  have ij:i=j:=(e3l (by rw[e0z];simpa using hi) hn).1 (by rw[e0j,e0j,hi',hj];exact e2r some hb)
  rw[ij];exact hj
section
variable {ev:Operand->V} {re:Operand->Value} (hev:∀x,RV E ρ (ev x) (re x)) (o:Oper) (hh:HR E Ow ρ h Fr W) (hf:iK ac=true->Fr nm)
include hev hh
theorem d3q {t:Nat}{m s v:Operand}(ho:o.op= .entryStore t m s v)(hg:goF h (c6a m s v ev nm)=some (ls,ac)):cT P E Ow ρ Fr nm h W (execOp re o) ac.v (apH nm ac h) (iK ac):=by
 obtain⟨id,hx,hg⟩:=iC hg
 cases hs:ev s with
 |q g=>
  rw[hs]at hg
  obtain⟨ob,ls',hob,hg,_⟩:=dL (show goF h (.ask id λo=>asM o λag es op=>ifS op .no λp=>ifS p.2 .no λk=>bif gH g p.1 then .set (.t []) id (.m ag (upd k (ev v) es) none)else .no)=_ from hg)
  obtain⟨ag,es,op,e1,hg⟩:=qM hg
  rw[e1]at hob
  obtain⟨p,e2,hg⟩:=gL hg
  obtain⟨k,e3,hg⟩:=gL hg
  obtain⟨hid,hg9⟩:=aP hg
  have hid:=bI.1 hid
  obtain⟨g',k'⟩:=p
  have hid:g=g':=hid
  have e3:k'=some k:=e3
  subst hid;subst e3;subst e2
  cases hg9
  have hx':=hev m
  rw[hx]at hx'
  obtain⟨q,hq,hr⟩:=hx'
  have hs':=hev s
  rw[hs]at hs'
  obtain⟨lg,hlg,hrs⟩:=hs'
  have hne:h id≠none:=by rw[hob];simp
  obtain⟨ents,clock,hb,hm,hop⟩:=(hh.get hob hq).1
  obtain⟨lg',hlg',hmp,hk⟩:=hop g (some k) rfl
  rw[hlg]at hlg';cases hlg'
  obtain⟨hc,en,hen,hbn,hkn,hlen⟩:=hk k rfl
  obtain⟨i,hi,hi2⟩:=c2g hen hm.nd
  rw[hbn]at hi
  have hrun:(execOp re o).run P W= .ok .skip (b9e W q.b (.map (ents.modify i λe=>{e with val:=re v}) clock)):=by
   simp only[execOp,ho,Instr.entryStore,d9t,d9u,d9q,hr,hrs,aH hb,asInt,asIntOf,hi,aU hb]
  exact cT.set hh hne hq (.inr ⟨hrun,rfl⟩) (λb hb=>eY hb) gS ⟨rfl,rfl,rfl,rfl⟩ ⟨_,clock,jN hb,hm.modify hlen hi2 hkn (hev v) hkn rfl rfl,λg k q=>(by cases q)⟩ ⟨#[],rfl,rfl⟩
 |_=>rw[hs]at hg;exact aT hg
end
end Go.Kx
set_option linter.unusedVariables false
set_option linter.unusedSimpArgs false
namespace Go.Kx
open Go
open Go.Px (KT aJ KeyOk EqT eL)
variable {P:Program} {E:Vl} {ρ:Rh} {Ow:Nat->Prop} {Fr:Id->Prop} {nm:Id} {h:Hf} {W:World} {ls:List Id} {ac:Ac}
theorem vN (k:List Int)(e:List Int×V)(l:Es):del k (e::l)=if k=e.1 then l else e::del k l:=by
 show(bif kq k e.1 then l else e::del k l)=_
 rw[fG]
 by_cases q:k=e.1
 ·rw[e1r q,e0c q];rfl
 ·rw[e1o q,d9z q];rfl
theorem a4s {k:List Int}:∀{es:Es},find k es=none->del k es=es
 |[],_=>rfl
 |e::l,hf=>by
  have hf:(bif kq k e.1 then some e.2 else find k l)=none:=hf
  rw[fG]at hf
  rw[vN]
  by_cases q:k=e.1
  ·rw[e1r q]at hf;cases hf
  ·rw[e1o q]at hf;rw[d9z q,a4s hf]
theorem qV (k:List Int):∀(es:Es),(del k es).Sublist es
 |[]=>List.Sublist.slnil
 |e::l=>by
  rw[vN]
  by_cases q:k=e.1
  ·rw[e0c q];exact e5o _ _
  ·rw[d9z q];exact(qV k l).cons_cons _
theorem nM {k k':List Int}{v':V}:∀{es:Es},(es.map (·.1)).Nodup->((k',v')∈del k es↔k'≠k/\(k',v')∈es)
 |[],_=>by show(k',v')∈([]:Es)↔_;simp
 |e::l,hn=>by
  rw[e0o,e2b]at hn
  rw[vN]
  by_cases q:k=e.1
  ·rw[e0c q,e0b]
   constructor
   ·intro a
    exact⟨λek=>hn.1 (e0l.2 ⟨(k',v'),a,ek.trans q⟩),.inr a⟩
   ·rintro⟨a,b|b⟩
    ·exact absurd (by rw[<-b]at q;exact q.symm) a
    ·exact b
  ·rw[d9z q,e0b,e0b,nM hn.2]
   constructor
   ·rintro(a|⟨a,b⟩)
    ·exact⟨λek=>q (by rw[<-a];exact ek.symm),.inl a⟩
    ·exact⟨a,.inr b⟩
   ·rintro⟨a,b|b⟩
    ·exact .inl b
    ·exact .inr ⟨a,b⟩
theorem Mok.erase {ag:Nat}{es:Es}{ents:Array MapEntry}{clock:Nat}{k:List Int}{j:Nat}{e0:MapEntry}(hm:Mok E ρ ag es ents clock)(hk:k.length=(cU ag).n)(hj:ents.toList[j]?=some e0)(he0:e0.key=aJ (cU ag) k):Mok E ρ ag (del k es) (ents.eraseIdxIfInBounds j) clock:=by
 have hl:(ents.eraseIdxIfInBounds j).toList=ents.toList.eraseIdx j:=by simp
 have hmem:∀e,e∈ents.toList.eraseIdx j↔(e∈ents.toList/\e.key≠aJ (cU ag) k):=λe=>by
  rw[e5b]
  constructor
  ·rintro⟨i,h1,h2⟩
   refine⟨e1j h2,λek=>h1 ?_⟩
   refine((e3l (by rw[e0z];exact(e1l.1 hj).1) hm.kn).1 ?_).symm
   rw[e0j,e0j,hj,h2];exact e2r some (he0.trans ek.symm)
  ·rintro⟨h1,h2⟩
   obtain⟨i,hi⟩:=e2g h1
   refine⟨i,λe1=>h2 ?_,hi⟩
   rw[e1,hj]at hi;cases hi;exact he0
 refine⟨hm.kd.sublist ((qV k es).map _),λe he=>?_,λk' v' hkv=>?_,?_,λe he=>?_,?_⟩
 ·rw[hl,hmem]at he
  obtain⟨k',v',h1,h2,h3,h4⟩:=hm.ent e he.1
  exact⟨k',v',(nM hm.kd).2 ⟨λq=>he.2 (by rw[h3,q]),h1⟩,h2,h3,h4⟩
 ·obtain⟨h1,h2⟩:=(nM hm.kd).1 hkv
  obtain⟨h3,e,h4,h5⟩:=hm.all k' v' h2
  exact⟨h3,e,by rw[hl,hmem];exact⟨h4,λq=>h1 (fF h3 hk (h5.symm.trans q))⟩,h5⟩
 ·rw[hl];exact hm.nd.sublist ((e6u _ _).map _)
 ·rw[hl,hmem]at he;exact hm.lt e he.1
 ·rw[hl];exact hm.kn.sublist ((e6u _ _).map _)
theorem a1v {t t2 ty kT eT ag b clock:Nat}{es:Es}{ents:Array MapEntry}{k:List Int}(hu:P.underlying t=some (.map kT eT))(hK:KeyOk P kT (cU ag))(hb:W.heap[b]?=some (Obj.map ents clock))(hm:Mok E ρ ag es ents clock)(hk:k.length=(cU ag).n):
  ∃ents',(Builtin.delete_ #[t,t2] ty #[.map (some b),aJ (cU ag) k]).run P W= .ok (.tuple #[]) (b9e W b (.map ents' clock))/\Mok E ρ ag (del k es) ents' clock:=by
 rcases mG (P:=P) hK hm hk with⟨f1,f2,f3⟩|⟨j,en,v0,f1,f2,f3,f4,f5⟩
 ·refine⟨ents,?_,by rw[a4s f1];exact hm⟩
  simp only[Builtin.delete_,e0t,e0w,e2c,d9t,e0k hu,d9q,aH hb,hK.chk _ k W hk,f2 W,aU hb,d9u]
 ·refine⟨_,?_,hm.erase hk f3 f4⟩
  simp only[Builtin.delete_,e0t,e0w,e2c,d9t,e0k hu,d9q,aH hb,hK.chk _ k W hk,f2 W,aU hb,d9u]
section
variable {ev:Operand->V} {re:Operand->Value} (hev:∀x,RV E ρ (ev x) (re x)) (o:Oper) (hh:HR E Ow ρ h Fr W) (hf:iK ac=true->Fr nm)
include hev hh
theorem d3p {t t2 ag:Nat}{m k:Operand}(ho:o.op= .call {callee:= .builtin .delete,args:= #[m,k],argTypes:= #[t,t2]})(hk:xN P t=some ag)(hg:goF h (c5z ag m k ev nm)=some (ls,ac)):cT P E Ow ρ Fr nm h W (execOp re o) ac.v (apH nm ac h) (iK ac):=by
 obtain⟨kT,eT,hu,hK⟩:=rK hk
 obtain⟨id,hx,hg⟩:=iC hg
 obtain⟨l,hl,hg,hkv⟩:=a4l hg
 obtain⟨ob,ls',hob,hg,_⟩:=dL hg
 have hx':=hev m
 rw[hx]at hx'
 obtain⟨q,hq,hr⟩:=hx'
 have hkr:=hkv _ (hev k)
 have hne:h id≠none:=by rw[hob];simp
 have hrun:∀{W'},(Builtin.delete_ #[t,t2] o.type #[re m,re k]).run P W= .ok (.tuple #[]) W'->(execOp re o).run P W= .ok (.value (.tuple #[])) W':=λhw=>by
  simp only[execOp,ho,resolve,invoke,builtin,d9t,d9u,d9q,e3h,e0o,e3c,hw]
 rw[hr,hkr]at hrun
 have fin:∀{es:Es},RM E ρ W q ag es none->∀o',(∀W',RM E ρ W' q ag (del l es) none->RO E ρ W' id q o')->cT P E Ow ρ Fr nm h W (execOp re o) (.t []) (upH h id (some o')) false:=by
  intro es ⟨ents,clock,hb,hm,_⟩ o' hro
  obtain⟨ents',hw,hm'⟩:=a1v (t2:=t2) (ty:=o.type) hu hK hb hm hl
  exact cT.set hh hne hq (.inl (hrun hw)) (λb hb=>eY hb) gS ⟨rfl,rfl,rfl,rfl⟩ (hro _ ⟨ents',clock,jN hb,hm',λg k q=>(by cases q)⟩) ⟨#[],rfl,rfl⟩
 cases ob with
 |m ag' es op=>
  obtain⟨hag,hg2⟩:=aP (show goF h (bif Nat.beq ag ag' then .set (.t []) id (.m ag (del l es) none)else .no)=_ from hg)
  have hag:=d9s hag
  subst hag
  cases hg2
  obtain⟨ents,clock,hb,hm,_⟩:=(hh.get hob hq).1
  exact fin ⟨ents,clock,hb,hm,λg k q=>(by cases q)⟩ _ λW' hw=>hw
 |lg ag' lgs=>
  obtain⟨hag,hg2⟩:=aP (show goF h (bif Nat.beq ag ag' then .set (.t []) id (.lg ag ((l,none)::lgs))else .no)=_ from hg)
  have hag:=d9s hag
  subst hag
  cases hg2
  obtain⟨es0,e0,e1⟩:=(hh.get hob hq).1
  exact fin (es:=apM lgs es0) e1 _ λW' hw=>⟨es0,e0,hw⟩
 |dl ag' k' v th g=>
  obtain⟨hag,hg2⟩:=aP (show goF h (bif Nat.beq ag ag'&&(kq l k'&&th)then .set (.t []) id (.dl ag l v false g)else .no)=_ from hg)
  obtain⟨hag,hkk⟩:=sU hag
  obtain⟨hkk,hth⟩:=sU hkk
  have hag:=d9s hag
  rw[fG]at hkk
  have hkk:=e2u hkk
  subst hag;subst hkk;subst hth
  cases hg2
  obtain⟨lg,ents,clock,h1,h2,h3,h4,i,e,h5,h6,h7,h8,es0,e0,h9,h10⟩:=(hh.get hob hq).1
  have hb:W.heap[q.b]?=some (Obj.map ents clock):=h10
  have hi:ents.toList[i]?=some e:=by rw[e0s];exact h5
  rcases mG (P:=P) hK h9 hl with⟨f1,f2,f3⟩|⟨j,en,v0,f1,f2,f3,f4,f5⟩
  ·exact absurd h7 (f3 e (e1j hi))
  ·have hji:j=i:=(e3l (by rw[e0z];exact(e1l.1 f3).1) h9.kn).1 (by rw[e0j,e0j,f3,hi];exact e2r some (f4.trans h7.symm))
   subst hji
   have hw:(Builtin.delete_ #[t,t2] o.type #[.map (some q.b),aJ (cU ag) l]).run P W= .ok (.tuple #[]) (b9e W q.b (.map (ents.eraseIdxIfInBounds j) clock)):=by
    simp only[Builtin.delete_,e0t,e0w,e2c,d9t,e0k hu,d9q,aH hb,hK.chk _ l W hl,f2 W,aU hb,d9u]
   exact cT.set hh hne hq (.inl (hrun hw)) (λb hb=>eY hb) gS ⟨rfl,rfl,rfl,rfl⟩ ⟨lg,ents,clock,h1,h2,h3,h4,j,e,h5,h6,h7,h8,es0,e0,h9,jN hb⟩ ⟨#[],rfl,rfl⟩
 |_=>exact aT hg
end
end Go.Kx
set_option linter.unusedVariables false
set_option linter.unusedSimpArgs false
namespace Go.Kx
open Go
open Go.Px (KT aJ KeyOk EqT eL)
variable {P:Program} {E:Vl} {ρ:Rh} {Ow:Nat->Prop} {Fr:Id->Prop} {nm:Id} {h:Hf} {W:World} {ls:List Id} {ac:Ac}
section
variable {ev:Operand->V} {re:Operand->Value} (hev:∀x,RV E ρ (ev x) (re x)) (o:Oper) (hh:HR E Ow ρ h Fr W) (hf:iK ac=true->Fr nm)
include hev hh hf
theorem d8p {t kT eT:Nat}{x:Operand}(ho:o.op= .range t x)(hu:P.underlying t=some (.map kT eT))(hg:goF h (d6k x ev nm)=some (ls,ac)):cT P E Ow ρ Fr nm h W (execOp re o) ac.v (apH nm ac h) (iK ac):=by
 obtain⟨id,hx,hg⟩:=iC hg
 obtain⟨ob,ls',hob,hg,_⟩:=dL hg
 obtain⟨ag,es,op,e1,hg9⟩:=qM hg
 rw[e1]at hob
 have hx':=hev x
 rw[hx]at hx'
 obtain⟨q,hq,hr⟩:=hx'
 obtain⟨ents,clock,hb,hm,_⟩:=(hh.get hob hq).1
 have hlt:=(hh.get hob hq).2.2
 cases hg9
 have hf:=hf rfl
 have hid:id≠nm:=λe=>by rw[e,hh.fr nm hf]at hq;cases hq
 have hle:=dN (l:=⟨W.heap.size,0,0,default,.map ents clock⟩) (hh.fr nm hf)
 have hs:(W.alloc (.mapIter (some q.b) clock #[] clock)).heap.size=W.heap.size+1:=by show(W.heap.push _).size=_;simp
 have h1:=hh.new (nx:=nm) (l:=⟨W.heap.size,0,0,default,.map ents clock⟩) (o:= .it id nm) (W':=W.alloc (.mapIter (some q.b) clock #[] clock)) hf rfl (λb hb=>e3f W _ hb) hs
  ⟨_,q,bL _ _ _,hle _ _ hq,rfl,.inl ⟨rfl,ents,clock,rfl,heap_alloc_new W _⟩⟩
 have hne:upH h nm (some (.it id nm)) id≠none:=by unfold upH;rw[d9z hid,hob];simp
 have h2:=h1.set (W':=W.alloc (.mapIter (some q.b) clock #[] clock)) (o:= .m ag es (some (nm,none))) hne (hle _ _ hq) (λ_ _=>rfl) rfl
  ⟨ents,clock,(e3f W _ hlt).trans hb,hm.le hle,λg k hgk=>by cases hgk;exact⟨_,bL _ _ _,rfl,λk' hk'=>(by cases hk')⟩⟩
 refine⟨_,W.alloc (.mapIter (some q.b) clock #[] clock),.pointer (some ⟨W.heap.size,0,none⟩),.inl ?_,hle,λj hj=>by unfold upR;rw[d9z hj],⟨_,bL _ _ _,rfl⟩,h2,⟨rfl,rfl,rfl,by omega,λb hb _=>e3f W _ hb⟩,λq=>(by cases q)⟩
 simp only[execOp,ho,Instr.range,d9t,e0k hu,d9q,hr,aH hb,d9u]
 rfl
end
end Go.Kx
set_option linter.unusedVariables false
set_option linter.unusedSimpArgs false
namespace Go.Kx
open Go
open Go.Px (KT aJ KeyOk EqT eL)
variable {P:Program} {E:Vl} {ρ:Rh} {Ow:Nat->Prop} {Fr:Id->Prop} {nm:Id} {h:Hf} {W:World} {ls:List Id} {ac:Ac}
theorem yQ {ag:Nat}{k:List Int}(hk:k.length=(cU ag).n):RV E ρ (eN ag k) (aJ (cU ag) k):=by
 cases ag with
 |zero=>
  obtain⟨x,rfl⟩:=e2q.1 hk
  rfl
 |succ n=>
  have hrs:∀(l:List Int),RVs E ρ (l.map (V.i .i64)) (l.map (Value.int .i64)):=λl=>by
   induction l with
   |nil=>rfl
   |cons x l ih=>exact⟨_,_,rfl,rfl,ih⟩
  refine⟨(k.map (Value.int .i64)).toArray,rfl,hrs k,λw hw=>?_⟩
  obtain⟨x,_,rfl⟩:=e0l.1 (show w∈k.map (Value.int .i64)from hw)
  rfl
theorem b1m {ents:Array MapEntry}{e:MapEntry}{n:Nat}(he:e∈ents.toList)(hb:e.born=n)(hn:(ents.toList.map (·.born)).Nodup):ents.find? (λx=>x.born==n)=some e:=by
 cases hf:ents.find? (λx=>x.born==n)with
 |none=>
  have:=Array.find?_eq_none.1 hf e (by simpa using he)
  simp[hb]at this
 |some e'=>
  have h1:=Array.find?_some hf
  have h2:e'∈ents.toList:=by simpa using Array.mem_of_find?_eq_some hf
  obtain⟨i,hi⟩:=e2g he
  obtain⟨j,hj⟩:=e2g h2
  have hbb:e'.born=e.born:=by rw[hb];exact eq_of_beq h1
  have ij:i=j:=(e3l (by rw[e0z];exact(e1l.1 hi).1) hn).1 (by rw[e0j,e0j,hi,hj];exact e2r some hbb.symm)
  rw[ij,hj]at hi;exact hi
section
variable {ev:Operand->V} {re:Operand->Value} (hev:∀x,RV E ρ (ev x) (re x)) (o:Oper) (hh:HR E Ow ρ h Fr W) (hf:iK ac=true->Fr nm)
include hev hh
theorem d8u {it:Operand}(ho:o.op= .entry it)(hg:goF h (d6d it ev nm)=some (ls,ac)):Pu P E ρ W (execOp re o) ac:=by
 obtain⟨id,off,hv,hg⟩:=tO hg
 obtain⟨hoff,hg⟩:=aP hg
 have hoff:=d9s hoff
 obtain⟨ob,ls',hob,hg,_⟩:=dL hg
 have hx:=hev it
 rw[hv]at hx
 obtain⟨l,hl,hr⟩:=hx
 cases ob with
 |it m g=>
  obtain⟨ob2,ls2,hob2,hg2,_⟩:=dL (show goF h (.ask m λo=>enO o g)=_ from hg)
  obtain⟨lg,lm,q1,q2,q3,q4⟩:=(hh.get hob hl).1
  have go:∀{ents:Array MapEntry} {clock:Nat} {e:MapEntry} {k:List Int} {ag:Nat} {v:V},W.heap[lm.b]?=some (.map ents clock)->lg.o=clock->e∈ents.toList->e.born=lg.b->e.key=aJ (cU ag) k->k.length=(cU ag).n->RV E ρ v e.val->(ents.toList.map (·.born)).Nodup->(∀e∈ents.toList,e.born<clock)->ac= .ret (.t [eN ag k,v])->Pu P E ρ W (execOp re o) ac:=by
   intro ents clock e k ag v hb hc he hbn hk hkl hrv hnd hlt hac
   rcases q4 with⟨rfl,_⟩|⟨_,hit,since,seen,hit2⟩
   ·rw[hl]at q1;cases q1
    have:=hlt e he
    omega
   ·refine .of hac (u:= .tuple #[e.key,e.val]) ?_ ⟨_,rfl,e.key,_,rfl,by rw[hk];exact yQ hkl,e.val,_,rfl,hrv,rfl⟩
    rw[hit2]at hit
    have hgi:(getObj l.b).run P W= .ok (.mapIter (some lm.b) since (seen.push lg.b) lg.o) W:=by simp only[getObj,Sem.run,hit]
    have hfb:=b1m he hbn hnd
    have hoo:l.o+off=0:=by omega
    have hcc:(clock !=lg.o)=false:=by rw[hc];simp
    simp only[execOp,ho,Instr.entry,hr,hoo,d9t,hgi,d9q,Array.back?_push,aH hb,hcc,e2l,e3g,hfb,d9u]
  cases ob2 with
  |m ag es op=>
   obtain⟨p,e2,hg3⟩:=gL (show goF h (ifS op .no λp=>ifS p.2 .no λk=>bif gH g p.1 then ifS (find k es) .no λv=>rv (.t [eN ag k,v])else .no)=_ from hg2)
   obtain⟨k,e3,hg4⟩:=gL hg3
   obtain⟨hid,hg5⟩:=aP hg4
   have hid:=bI.1 hid
   obtain⟨v,hfd,hg6⟩:=gL hg5
   obtain⟨g',k'⟩:=p
   have hid:g=g':=hid
   have e3:k'=some k:=e3
   subst hid;subst e3;subst e2
   obtain⟨ents,clock,hb,hm,hop⟩:=(hh.get hob2 q2).1
   obtain⟨lg',hlg',hmp,hk⟩:=hop g (some k) rfl
   rw[q1]at hlg';cases hlg'
   obtain⟨hc,en,hen,hbn,hkn,hlen⟩:=hk k rfl
   obtain⟨k2,v2,r1,r2,r3,r4⟩:=hm.ent en hen
   have:=fF r2 hlen (r3.symm.trans hkn)
   subst this
   have hvv:=mP hm.kd (eR hfd) r1
   subst hvv
   exact go hb hc hen hbn hkn hlen r4 hm.nd hm.lt (aZ hg6)
  |dl ag k v th g'=>
   obtain⟨hb0,hg3⟩:=aP (show goF h (bif gH g g'&&th then rv (.t [eN ag k,v])else .no)=_ from hg2)
   obtain⟨hid,hth⟩:=sU hb0
   have hid:=bI.1 hid
   subst hid;subst hth
   obtain⟨lg',ents,clock,h1,h2,h3,h4,i,e,h5,h6,h7,h8,es0,e0,h9,h10⟩:=(hh.get hob2 q2).1
   rw[q1]at h1;cases h1
   have he:e∈ents.toList:=e1j (by rw[e0s];exact h5)
   exact go h10 h3 he h6 h7 h4 h8 h9.nd h9.lt (aZ hg3)
  |_=>exact aT hg2
 |_=>exact aT hg
end
end Go.Kx
set_option linter.unusedVariables false
set_option linter.unusedSimpArgs false
namespace Go.Kx
open Go
open Go.Px (KT aJ KeyOk EqT eL)
variable {P:Program} {E:Vl} {ρ:Rh} {Ow:Nat->Prop} {Fr:Id->Prop} {nm:Id} {h:Hf} {W:World} {ls:List Id} {ac:Ac}
theorem Pu.made {s:Sem Next}(hh:HR E Ow ρ h Fr W)(hp:Pu P E ρ W s ac):cT P E Ow ρ Fr nm h W s ac.v (apH nm ac h) (iK ac):=by
 obtain⟨v,u,rfl,h1,h2⟩:=hp
 exact cT.pure hh h1 h2
section
variable {ev:Operand->V} {re:Operand->Value} (hev:∀x,RV E ρ (ev x) (re x)) (o:Oper) (hh:HR E Ow ρ h Fr W) (hf:iK ac=true->Fr nm)
include hev hh hf
theorem c2d {b:Builtin}{args:Array Operand}{ts:Array Nat}(ho:o.op= .call {callee:= .builtin b,args,argTypes:=ts})(hg:goF h ((c2o P b ts.toList args.toList).f ev nm)=some (ls,ac)):cT P E Ow ρ Fr nm h W (execOp re o) ac.v (apH nm ac h) (iK ac):=by
 obtain⟨args⟩:=args
 obtain⟨ts⟩:=ts
 have hg:goF h ((c2o P b ts args).f ev nm)=some (ls,ac):=hg
 unfold c2o at hg
 split at hg
 ·split at hg
  ·rename_i x t p hp
   unfold arT at hp
   split at hp
   ·rename_i n e hu
    cases hp
    exact(b9a (nm:=nm) hev o hh (q:=0) ho (.inl ⟨n,e,hu,rfl⟩) hg).made hh
   ·cases hp
  ·split at hg
   ·rename_i e hu;exact(b9a (nm:=nm) hev o hh ho (.inr ⟨rfl,.inl ⟨rfl,e,hu⟩⟩) hg).made hh
   ·rename_i a b hu;exact(b9a (nm:=nm) hev o hh ho (.inr ⟨rfl,.inr (.inl ⟨rfl,a,b,hu⟩)⟩) hg).made hh
   ·rename_i hu;exact(b9a (nm:=nm) hev o hh ho (.inr ⟨rfl,.inr (.inr ⟨rfl,hu⟩)⟩) hg).made hh
   ·exact aT hg
 ·obtain⟨e,hs,hg⟩:=aO hg
  exact(d4g (nm:=nm) hev o ho hs hg).made hh
 ·rename_i x y t t2 _
  obtain⟨e,hs,hg⟩:=aO hg
  obtain⟨k,hk,hg⟩:=aO hg
  obtain⟨mx,hm,hg⟩:=aO hg
  obtain⟨z,hz,hg⟩:=aO hg
  obtain⟨d,hd,hg⟩:=aO hg
  cases hk0:Nat.blt 0 k with
  |false=>rw[hk0]at hg;exact aT hg
  |true=>
   rw[hk0]at hg
   have hk0:0<k:=aL.1 hk0
   cases hi:rI P t2 with
   |true=>rw[hi]at hg;exact c8i hev o hh hf ho hs hk hm hz hd hk0 (.inl ⟨hi,rfl⟩) hg
   |false=>rw[hi]at hg;exact c8i hev o hh hf ho hs hk hm hz hd hk0 (.inr ⟨hi,rfl⟩) hg
 ·obtain⟨e,hs,hg⟩:=aO hg
  obtain⟨k,hk,hg⟩:=aO hg
  exact c8j hev o hh ho hs hk hg
 ·obtain⟨e,hs,hg⟩:=aO hg
  obtain⟨z,hz,hg⟩:=aO hg
  exact d3o hev o hh ho hs hz hg
 ·obtain⟨ag,hk,hg⟩:=aO hg
  exact d3p hev o hh ho hk hg
 ·exact(d7h (nm:=nm) hev o true ho rfl hg).made hh
 ·exact(d7h (nm:=nm) hev o false ho rfl hg).made hh
 ·exact aT hg
theorem c4j (hg:goF h ((pU P o.op).f ev nm)=some (ls,ac)):cT P E Ow ρ Fr nm h W (execOp re o) ac.v (apH nm ac h) (iK ac):=by
 generalize ho:o.op=op at hg
 unfold pU at hg
 split at hg
 ·exact(d7g (nm:=nm) hev o (.inl ho) hg).made hh
 ·exact(d7g (nm:=nm) hev o (.inr ho) hg).made hh
 ·exact(c9g (nm:=nm) hev o ho hg).made hh
 ·obtain⟨z,hz,hg⟩:=aO hg;exact d3s (ev:=ev) o hh hf ho hz hg
 ·exact d3m hev o hh hf ho hg
 ·obtain⟨z,hz,hg⟩:=aO hg
  split at hg
  ·rename_i fs hu
   cases hs:c5l P fs.toList with
   |false=>rw[hs]at hg;exact aT hg
   |true=>
    rw[hs]at hg
    obtain⟨l,hl,hg⟩:=aO (show goF h ((ors (plS P fs.toList _) λl=>⟨a3z z l⟩).f ev nm)=_ from hg)
    exact(c9e (nm:=nm) hev o ho hz hu hs hl hg).made hh
  ·rename_i hu
   obtain⟨k,hk,hg⟩:=aO hg
   exact(c9d (nm:=nm) hev o ho hz hu hk hg).made hh
  ·exact aT hg
 ·rename_i t len ps
  obtain⟨e,hs,hg⟩:=aO hg
  obtain⟨k,hk,hg⟩:=aO hg
  obtain⟨z,hz,hg⟩:=aO hg
  cases hb:(Nat.ble (len*k) 1048576&&Nat.blt 0 k)with
  |false=>rw[hb]at hg;exact aT hg
  |true=>
   rw[hb]at hg
   obtain⟨h1,h2⟩:=sU hb
   exact d3n hev o hh hf ho hs hk hz (aL.1 h1) (aL.1 h2) hg
 ·obtain⟨n,hn,hg⟩:=aO hg;exact(d7f (nm:=nm) hev o hh ho hn hg).made hh
 ·obtain⟨n,hn,hg⟩:=aO hg;exact d8q hev o hh ho hn hg
 ·exact(d9b (nm:=nm) hev o ho hg).made hh
 ·exact(d4f (nm:=nm) hev o ho hg).made hh
 ·split at hg
  ·exact(d4l (nm:=nm) hev o ho hg).made hh
  ·exact(d4k (nm:=nm) hev o ho hg).made hh
  ·exact aT hg
 ·obtain⟨d,hs,hg⟩:=aO hg
  split at hg
  ·rename_i ht;exact(d8t (nm:=nm) hev o ho hs ht hg).made hh
  ·exact aT hg
 ·exact(d8x (nm:=nm) hev o ho hg).made hh
 ·obtain⟨ag,hk,hg⟩:=aO hg;exact c8l (ev:=ev) o hh hf ho hg
 ·obtain⟨e,hs,hg⟩:=aO hg
  obtain⟨mx,hm,hg⟩:=aO hg
  obtain⟨z,hz,hg⟩:=aO hg
  cases hb:Nat.blt 0 (nQ z)with
  |false=>rw[hb]at hg;exact aT hg
  |true=>
   rw[hb]at hg
   have hb:0<nQ z:=aL.1 hb
   rw[gE]at hb
   exact d3r hev o hh hf ho hs hm hz hb hg
 ·split at hg
  ·rename_i e hu
   obtain⟨k,hk,hg⟩:=aO hg
   split at hg
   ·exact aT hg
   ·rename_i hne
    exact(d9c (nm:=nm) hev o ho (by unfold slT;rw[hu]) hk (λq=>Option.eq_none_iff_forall_ne_some.2 λy e=>hne y q e) hg).made hh
  ·rename_i hu
   obtain⟨k,hk,hg⟩:=aO hg
   split at hg
   ·exact(d4m (nm:=nm) hev o ho hu hk hg).made hh
   ·exact aT hg
  ·exact aT hg
 ·obtain⟨f,hfl,hg⟩:=aO hg
  obtain⟨n,hn,hg⟩:=aO hg
  cases hb:Nat.beq n 0 with
  |true=>rw[hb]at hg;exact aT hg
  |false=>rw[hb]at hg;exact(d8v (nm:=nm) hev o ho hfl hn (λe=>by rw[e]at hb;cases hb) hg).made hh
 ·obtain⟨f,hfl,hg⟩:=aO hg
  obtain⟨n,hn,hg⟩:=aO hg
  exact(d8w (nm:=nm) hev o ho hfl hn hg).made hh
 ·split at hg
  ·rename_i hu
   obtain⟨k,hk,hg⟩:=aO hg
   exact(d8y (nm:=nm) hev o ho hu hk hg).made hh
  ·rename_i hu
   obtain⟨k,hk,hg⟩:=aO hg
   exact(d4i (nm:=nm) hev o ho hu hk hg).made hh
  ·exact aT hg
 ·split at hg
  ·rename_i hu
   obtain⟨k,hk,hg⟩:=aO hg
   obtain⟨n,hn,hg⟩:=aO hg
   exact(d8z (nm:=nm) hev o ho hu hk hn hg).made hh
  ·rename_i hu;exact(d4j (nm:=nm) hev o ho hu hg).made hh
  ·exact aT hg
 ·obtain⟨ag,hk,hg⟩:=aO hg
  obtain⟨e,he,hg⟩:=aO hg
  obtain⟨z,hz,hg⟩:=aO hg
  exact(c9f (nm:=nm) hev o hh ho hk he hz hg).made hh
 ·obtain⟨ag,hk,hg⟩:=aO hg;exact c8m hev o hh (.inl ho) hk hg
 ·obtain⟨ag,hk,hg⟩:=aO hg;exact c8m hev o hh (.inr ho) hk hg
 ·obtain⟨ag,hk,hg⟩:=aO hg
  obtain⟨e,he,hg⟩:=aO hg
  obtain⟨z,hz,hg⟩:=aO hg
  exact c8k hev o hh hf ho hk he hz hg
 ·exact d3q hev o hh ho hg
 ·exact(d4h (nm:=nm) hev o ho hg).made hh
 ·obtain⟨ag,hk,hg⟩:=aO hg
  obtain⟨kT,eT,hu,_⟩:=rK hk
  exact d8p hev o hh hf ho hu hg
 ·exact(d8u (nm:=nm) hev o hh ho hg).made hh
 ·split at hg
  ·rename_i hu;exact(d9a (nm:=nm) hev o ho hu hg).made hh
  ·exact aT hg
 ·split at hg
  ·rename_i hu;exact(d9d (nm:=nm) hev o ho hu hg).made hh
  ·exact aT hg
 ·rename_i c
  obtain⟨cal,args,ts⟩:=c
  split at hg
  ·rename_i b hc
   have hc:cal= .builtin b:=hc
   subst hc
   exact c2d hev o hh hf ho hg
  ·exact aT hg
 ·exact aT hg
end
end Go.Kx
set_option linter.unusedVariables false
namespace Go.Kx
open Go
def Fw (ro:Option Nat):Fence:={Fence.wide with round:=ro}
structure RT (E:Vl)(ρ:Rh)(n:Nat)(τ:Nat->V)(tmps:Array Value):Prop where
  size:tmps.size=n
  get:∀t,RV E ρ (τ t) (tmps.getD t undef)
def lW (τ:Nat->V)(d:Option Nat)(v:V):Nat->V:=λt=>if d=some t then v else τ t
def tmF (tm:Tm):Nat->V:=λt=>rdT t tm
def evF (τ:Nat->V):Operand->V
  | .tmp p=>τ p
  | .const v=>ofV v
  | .global _=> .un
  | .func f=> .f f [] []
theorem tW (tm:Tm):evO tm=evF (tmF tm):=funext λx=>by cases x<;>rfl
section
variable {E:Vl} {ρ ρ':Rh} {n:Nat} {τ:Nat->V} {tmps:Array Value}
theorem RT.mono (h:RT E ρ n τ tmps)(hl:Le ρ ρ'):RT E ρ' n τ tmps:=⟨h.size,λt=>(h.get t).le hl⟩
theorem RS.rt {tm:Tm}(h:RS E ρ n tm tmps):RT E ρ n (tmF tm) tmps:=⟨h.size,λt=>by
 by_cases ht:t<512
 ·exact h.get t ht
 ·show RV E ρ (rdT t tm) _
  rw[a5z (by omega)];trivial⟩
theorem RT.rs {tm:Tm}(h:RT E ρ n (tmF tm) tmps)(hn:n<=512):RS E ρ n tm tmps:=⟨h.size,hn,λt _=>h.get t⟩
theorem RT.put {a:Act}(h:RT E ρ n τ a.tmps){d:Option Nat}(hd:∀t,d=some t->t<n){v:V}{u:Value}(hv:RV E ρ v u):RT E ρ n (lW τ d v) (a.put d u).tmps:=by
 cases d with
 |none=>exact⟨h.size,λt=>by unfold lW;rw[d9z (by simp)];exact h.get t⟩
 |some d=>
  have hlt:d<a.tmps.size:=by rw[h.size];exact hd d rfl
  refine⟨by show(a.tmps.setIfInBounds d u).size=n;rw[e2i,h.size],λt=>?_⟩
  show RV E ρ (lW τ (some d) v t) ((a.tmps.setIfInBounds d u).getD t undef)
  unfold lW
  by_cases e:d=t
  ·subst e
   rw[e0c rfl]
   simpa[Array.getD,hlt]using hv
  ·rw[d9z (λq=>e (e4p q))]
   have h1:=h.get t
   rw[d9x]at h1⊢
   rw[e3t e];exact h1
theorem RT.ev {a:Act}(h:RT E ρ n τ a.tmps)(x:Operand):RV E ρ (evF τ x) (a.eval x):=by
 cases x with
 |tmp t=>exact h.get t
 |const v=>exact zK v
 |global g=>trivial
 |func f=>exact⟨#[],#[],rfl,rfl,rfl⟩
end
structure SR (E:Vl)(Ow:Nat->Prop)(ρ:Rh)(n:Nat)(τ:Nat->V)(h:Hf)(Fr:Id->Prop)(a:Act)(W:World):Prop where
  rt:RT E ρ n τ a.tmps
  hr:HR E Ow ρ h Fr W
  df:∃Ds:List Nat,a.defers=Ds.map Px.mark/\Ds.Nodup/\∀D,D∈Ds->¬Ow D/\W.heap[D]?=some (.deferred (some []))
def Rg (lo hi:Nat)(id:Id):Prop:=lo<=id.num/\id.num<hi
structure Nm (ρ ρ':Rh)(lo hi:Nat):Prop where
  le:Le ρ ρ'
  out:∀id,¬Rg lo hi id->ρ' id=ρ id
theorem Nm.refl (ρ:Rh)(lo hi:Nat):Nm ρ ρ lo hi:=⟨e7n _,λ_ _=>rfl⟩
theorem Nm.trans {a b c:Rh}{lo hi lo1 hi1 lo2 hi2:Nat}(h:Nm a b lo1 hi1)(k:Nm b c lo2 hi2)(h1:lo<=lo1/\hi1<=hi)(h2:lo<=lo2/\hi2<=hi):Nm a c lo hi:=
 ⟨h.le.trans k.le,λid hid=>(k.out id λq=>hid ⟨by have:=q.1;omega,by have:=q.2;omega⟩).trans (h.out id λq=>hid ⟨by have:=q.1;omega,by have:=q.2;omega⟩)⟩
theorem Gr.mono {Ow Ow':Nat->Prop}{W W':World}(h:Gr Ow' W W')(hs:∀b,Ow' b->Ow b):Gr Ow W W':=⟨h.os,h.tape,h.output,h.size,λb hb ho=>h.block b hb λq=>ho (hs b q)⟩
def Dm (Ow:Nat->Prop)(a a':Act):Prop:=∀d,d∈a'.defers->d∈a.defers\/∃D,d=Px.mark D/\Ow D
theorem Dm.of_eq {Ow:Nat->Prop}{a a':Act}(h:a'.defers=a.defers):Dm Ow a a':=λd hd=> .inl (h▸hd)
theorem Dm.trans {Ow Ow1:Nat->Prop}{a b c:Act}(h:Dm Ow a b)(k:Dm Ow1 b c)(hs:∀b,Ow1 b->Ow b):Dm Ow a c:=λd hd=>(k d hd).elim (h d) λ⟨D,q1,q2⟩=> .inr ⟨D,q1,hs D q2⟩
theorem Dm.put (Ow:Nat->Prop)(a:Act)(d:Option Tmp)(v:Value):Dm Ow a (a.put d v):=Dm.of_eq (by cases d<;>rfl)
def Po (E:Vl)(Ow:Nat->Prop)(ρ:Rh)(Fr:Id->Prop)(W:World)(n lo hi:Nat)(τ':Nat->V)(h':Hf)(a a':Act)(W':World):Prop:=
  ∃(Ow':Nat->Prop) (ρ':Rh),(∀b,Ow' b->Ow b)/\Nm ρ ρ' lo hi/\SR E Ow' ρ' n τ' h' (λid=>Fr id/\¬Rg lo hi id) a' W'/\Gr Ow W W'/\Dm Ow a a'
def RoK (ro:Option Id)(ρ:Rh)(l:Option Nat):Prop:=match ro with
  |none=>l=none
  |some r=>∃q,ρ r=some q/\l=some q.b
theorem RoK.le {ro:Option Id}{ρ ρ':Rh}{l:Option Nat}(h:RoK ro ρ l)(hl:Le ρ ρ'):RoK ro ρ' l:=by
 cases ro with
 |none=>exact h
 |some r=>obtain⟨q,h1,h2⟩:=h;exact⟨q,hl _ _ h1,h2⟩
theorem SR.less {E:Vl}{Ow:Nat->Prop}{ρ:Rh}{n:Nat}{τ:Nat->V}{h:Hf}{Fr Fr':Id->Prop}{a:Act}{W:World}(hs:SR E Ow ρ n τ h Fr a W)(hf:∀j,Fr' j->Fr j):SR E Ow ρ n τ h Fr' a W:=⟨hs.rt,hs.hr.less hf,hs.df⟩
theorem mL {Ow:Nat->Prop}{W W':World}{l:List Deferred}(h:∃Ds:List Nat,l=Ds.map Px.mark/\Ds.Nodup/\∀D,D∈Ds->¬Ow D/\W.heap[D]?=some (.deferred (some []))){Ow':Nat->Prop}(hs:∀b,Ow' b->Ow b)(hg:Gr Ow W W'):
  ∃Ds:List Nat,l=Ds.map Px.mark/\Ds.Nodup/\∀D,D∈Ds->¬Ow' D/\W'.heap[D]?=some (.deferred (some [])):=by
 obtain⟨Ds,h1,h2,h3⟩:=h
 refine⟨Ds,h1,h2,λD hD=>⟨λq=>(h3 D hD).1 (hs D q),?_⟩⟩
 have h4:=(h3 D hD).2
 rw[hg.block D (d9w.1 h4).1 (h3 D hD).1];exact h4
def kY (ol:List Oper)(o:Oper)(τ:Nat->V):Option Bool:=match o.guard with
  |none=>some true
  |some (j,w)=>match ol[j]? with
    |some oj=>match oj.dst with
      |some d=>match τ d with
        | .b b=>some (b==w)
        | .t []=>some false
        |_=>none
      |none=>none
    |none=>none
theorem a3v {E:Vl}{ρ:Rh}{n:Nat}{τ:Nat->V}{tmps:Array Value}(h:RT E ρ n τ tmps){ops:Array Oper}{o:Oper}{b:Bool}(hw:kY ops.toList o τ=some b):Region.wanted o (yielded ops tmps)=b:=by
 unfold kY at hw
 unfold Region.wanted
 split at hw
 ·rename_i hg;rw[hg];cases hw;rfl
 ·rename_i j w hg
  rw[hg]
  simp only
  split at hw
  ·rename_i oj hj
   rw[e0s]at hj
   split at hw
   ·rename_i d hd
    have hr:=h.get d
    split at hw
    ·rename_i b' hb
     rw[hb]at hr
     have hr:tmps.getD d undef= .bool b':=hr
     have hv:tmps[d]?=some (.bool b'):=by
      rw[d9x]at hr
      cases hx:tmps[d]? with
      |none=>rw[hx]at hr;cases hr
      |some u=>rw[hx]at hr;exact e2r some hr
     have hy:yielded ops tmps j=some b':=by
      unfold yielded
      rw[hj]
      simp only[Option.bind_some,hd,hv]
     rw[hy];cases hw
     cases b'<;>cases w<;>rfl
    ·rename_i hb
     rw[hb]at hr
     obtain⟨us,hr,hus⟩:=hr
     cases hw
     have hy:yielded ops tmps j=none:=by
      unfold yielded
      rw[hj]
      simp only[Option.bind_some,hd]
      rw[d9x]at hr
      cases hx:tmps[d]? with
      |none=>rfl
      |some u=>rw[hx]at hr;rw[show u= .tuple us from hr]
     rw[hy];rfl
    ·cases hw
   ·cases hw
  ·cases hw
def c6y (P:Program)(EK:Vl->Prop)(n:Nat)(ro:Option Id)(ops:Array Oper)(i lo hi:Nat)(τ:Nat->V)(h:Hf)(τ':Nat->V)(h':Hf):Prop:=
  ∀(E:Vl) (Ow:Nat->Prop) (ρ:Rh) (Fr:Id->Prop) (l:Option Nat) (k:Nat) (a:Act) (W:World) (K:Act->World->Prop) (Q:Exit->Act->World->Prop),EK E->RoK ro ρ l->(∀id,Rg lo hi id->Fr id)->(∃sp,Fr sp/\¬Rg lo hi sp)->SR E Ow ρ n τ h Fr a W->
    (∀a' W',Po E Ow ρ Fr W n lo hi τ' h' a a' W'->K a' W')->wpOpIn (Fw l) k P ops Q i K a W
section
variable {P:Program} {E:Vl} {Ow:Nat->Prop} {ρ:Rh} {n:Nat} {τ:Nat->V} {h:Hf} {Fr:Id->Prop} {a:Act} {W:World} {ops:Array Oper} {i:Nat} {o:Oper} {l:Option Nat} {k:Nat} {K:Act->World->Prop} {Q:Exit->Act->World->Prop}
theorem SR.made {W':World}{ρ':Rh}{h':Hf}{Fr':Id->Prop}{d:Option Nat}{v:V}{u:Value}(hs:SR E Ow ρ n τ h Fr a W)(hd:∀t,d=some t->t<n)(hl:Le ρ ρ')(hv:RV E ρ' v u)(hh:HR E Ow ρ' h' Fr' W')(hg:Gr Ow W W'):SR E Ow ρ' n (lW τ d v) h' Fr' (a.put d u) W':=by
 refine⟨(hs.rt.mono hl).put hd hv,hh,?_⟩
 have e:(a.put d u).defers=a.defers:=by cases d<;>rfl
 rw[e]
 exact mL hs.df (λ_ q=>q) hg
theorem c8s {lo hi:Nat}(hi':ops[i]?=some o)(hd:∀t,o.dst=some t->t<n)(hw:kY ops.toList o τ=some true){nm:Id}{ls:List Id}{ac:Ac}(hg:goF h ((pU P o.op).f (evF τ) nm)=some (ls,ac))(hr:iK ac=true->lo<=nm.num/\nm.num<hi/\Fr nm)(hs:SR E Ow ρ n τ h Fr a W)
  (hk:∀a' W',Po E Ow ρ Fr W n lo hi (lW τ o.dst ac.v) (apH nm ac h) a a' W'->K a' W'):wpOpIn (Fw l) k P ops Q i K a W:=by
 unfold wpOpIn
 rw[hi']
 simp only
 rw[a3v hs.rt hw]
 simp only[e4b]
 obtain⟨ρ',W',u,hr',hl,hout,hv,hh,hgr,hsame⟩:=c4j (Fr:=Fr) hs.rt.ev o hs.hr (λq=>(hr q).2.2) hg
 have hnd:∀c,o.op≠ .defer c:=by
  intro c e
  rw[e]at hg
  exact aT hg
 refine⟨λ_ _=>trivial,?_⟩
 have hfin:K (a.put o.dst u) W':=by
  refine hk _ _ ?_
  cases hb:iK ac with
  |true=>
   obtain⟨h1,h2,h3⟩:=hr hb
   refine⟨Ow,ρ',λ_ q=>q,⟨hl,λid hid=>hout id λe=>hid (by subst e;exact⟨h1,h2⟩)⟩,?_,hgr,Dm.put _ _ _ _⟩
   exact(hs.made hd hl hv hh hgr).less λj hj=>⟨hj.1,λe=>hj.2 (by subst e;exact⟨h1,h2⟩)⟩
  |false=>
   have:=hsame hb
   subst this
   refine⟨Ow,ρ',λ_ q=>q,Nm.refl _ _ _,?_,hgr,Dm.put _ _ _ _⟩
   exact(hs.made (Fr':=Fr) hd hl hv ⟨hh.obj,hh.inj,hs.hr.fr,hh.up⟩ hgr).less λj hj=>hj.1
 show o.uponIn (Fw l) k P a K Q ((o.semAt l a.eval).run P W)
 rw[e3x _ _ _ hnd]
 rcases hr' with hr'|⟨hr',rfl⟩
 ·rw[hr'];exact hfin
 ·rw[hr'];exact hfin
theorem d0a {lo hi:Nat}(ho:ops[i]?=some o)(hd:∀t,o.dst=some t->t<n)(hw:kY ops.toList o τ=some false)(hs:SR E Ow ρ n τ h Fr a W)
  (hk:∀a' W',Po E Ow ρ Fr W n lo hi (lW τ o.dst (.t [])) h a a' W'->K a' W'):wpOpIn (Fw l) k P ops Q i K a W:=by
 unfold wpOpIn
 rw[ho]
 simp only
 rw[a3v hs.rt hw]
 simp only[e2l,e3g]
 refine⟨λ_ _=>trivial,hk _ _ ⟨Ow,ρ,λ_ q=>q,Nm.refl _ _ _,?_,Gr.refl _ _,Dm.put _ _ _ _⟩⟩
 exact(hs.made (v:= .t []) (u:=undef) hd (e7n _) ⟨#[],rfl,rfl⟩ hs.hr (Gr.refl _ _)).less λ_ hj=>hj.1
end
theorem c3v {t:Nat}{l:List Operand}(h:Operand.tmp t∈l):t∈tmS l:=by
 induction l with
 |nil=>cases h
 |cons x l ih=>
  rcases e0b.1 h with rfl|h1
  ·exact d9y ..
  ·have:=ih h1
   cases x<;>first|exact d9v _ this|exact this
theorem iW {ol:List Oper}{o:Oper}{τ τ2:Nat->V}(h:∀t,t∈gdS ol o->τ2 t=τ t):kY ol o τ2=kY ol o τ:=by
 unfold kY gdS at*
 cases hg:o.guard with
 |none=>rfl
 |some p=>
  obtain⟨j,w⟩:=p
  rw[hg]at h
  simp only at h⊢
  cases hj:ol[j]? with
  |none=>rfl
  |some oj=>
   rw[hj]at h
   simp only at h⊢
   cases hd:oj.dst with
   |none=>rfl
   |some d=>rw[hd]at h;simp only;rw[h d (by simp)]
theorem yD {l:List Operand}{τ τ2:Nat->V}(h:∀t,t∈tmS l->τ2 t=τ t):∀y,y∈l->evF τ2 y=evF τ y:=by
 intro y hy
 cases y with
 |tmp t=>exact h t (c3v hy)
 |_=>rfl
abbrev S2:=(Nat->V)×Hf
structure It where
  i:Nat
  o:Oper
  lo:Nat
  hi:Nat
  rd:Id->Bool
  wr:Id->Bool
  v:V
  g:Hf
def It.ap (x:It)(s:S2):S2:=(lW s.1 x.o.dst x.v,λid=>bif x.wr id then x.g id else s.2 id)
def Agr (ol:List Oper)(x:It)(s s2:S2):Prop:=(∀t,t∈rdS ol x.o->s2.1 t=s.1 t)/\∀id,(x.rd id=true\/x.wr id=true)->s2.2 id=s.2 id
def acw (nm:Id):Ac->Id->Bool
  | .ret _,_=>false
  | .set _ i _,j=>decide (j=i)
  | .new _ _,j=>decide (j=nm)
  | .mov _ i _,j=>decide (j=nm)||decide (j=i)
  | .gst _ i _,j=>decide (j=i)
  | .rng _ _ i _,j=>decide (j=i)||decide (j=nm)
theorem a1m {nm:Id}{ac:Ac}{h:Hf}{id:Id}(hw:acw nm ac id=false):apH nm ac h id=h id:=by
 cases ac with
 |ret v=>rfl
 |set v i o=>simp only[acw,e4q]at hw;exact d9z hw
 |new v o=>simp only[acw,e4q]at hw;exact d9z hw
 |mov v i o=>simp only[acw,Bool.or_eq_false_iff,e4q]at hw;exact(d9z hw.1).trans (d9z hw.2)
 |gst v i o=>simp only[acw,e4q]at hw;exact d9z hw
 |rng v o i o'=>simp only[acw,Bool.or_eq_false_iff,e4q]at hw;exact(d9z hw.1).trans (d9z hw.2)
theorem b6j {nm:Id}{ac:Ac}{h h2:Hf}{id:Id}(hw:acw nm ac id=true):apH nm ac h id=apH nm ac h2 id:=by
 cases ac with
 |ret v=>cases hw
 |set v i o=>simp only[acw,e2a]at hw;exact(e0c hw).trans (e0c hw).symm
 |new v o=>simp only[acw,e2a]at hw;exact(e0c hw).trans (e0c hw).symm
 |mov v i o=>
  simp only[acw,e3d,e2a]at hw
  show upH (upH h i none) nm (some o) id=upH (upH h2 i none) nm (some o) id
  unfold upH
  split
  ·rfl
  ·rename_i e;rw[e0c (hw.resolve_left e),e0c (hw.resolve_left e)]
 |gst v i o=>simp only[acw,e2a]at hw;exact(e0c hw).trans (e0c hw).symm
 |rng v o i o'=>
  simp only[acw,e3d,e2a]at hw
  show upH (upH h nm (some o)) i (some o') id=upH (upH h2 nm (some o)) i (some o') id
  unfold upH
  split
  ·rfl
  ·rename_i e;rw[e0c (hw.resolve_left e),e0c (hw.resolve_left e)]
section
variable (P:Program) (EK:Vl->Prop) (n:Nat) (ro:Option Id) (ops:Array Oper)
inductive Stp (x:It) (s:S2):Prop
  |nc (nm:Id) (ls:List Id) (ac:Ac) (hd:∀t,x.o.dst=some t->t<n) (hw:kY ops.toList x.o s.1=some true) (h1:iK ac=true->x.lo<=nm.num/\nm.num<x.hi) (hg:goF s.2 ((pU P x.o.op).f (evF s.1) nm)=some (ls,ac)) (hv:x.v=ac.v)
      (hr:∀id,id∈ls->x.rd id=true) (hwr:∀id,x.wr id=acw nm ac id) (hgg:∀id,x.wr id=true->x.g id=apH nm ac s.2 id):Stp x s
  |sk (hd:∀t,x.o.dst=some t->t<n) (hw:kY ops.toList x.o s.1=some false) (hv:x.v= .t []) (hwr:∀id,x.wr id=false):Stp x s
  |cl (hc:isC x.o=true) (h:∀s2,Agr ops.toList x s s2->c6y P EK n ro ops x.i x.lo x.hi s2.1 s2.2 (x.ap s2).1 (x.ap s2).2):Stp x s
end
section
variable {P:Program} {EK:Vl->Prop} {n:Nat} {ro:Option Id} {ops:Array Oper}
theorem Stp.tr {x:It}{s:S2}(hx:Stp P EK n ro ops x s)(hi:ops[x.i]?=some x.o):c6y P EK n ro ops x.i x.lo x.hi s.1 s.2 (x.ap s).1 (x.ap s).2:=by
 cases hx with
 |nc nm ls ac hd hw h1 hg hv hr hwr hgg=>
  intro E Ow ρ Fr l k a W K Q hE hro hfr _ hs hk
  have e:(x.ap s).2=apH nm ac s.2:=funext λid=>by
   show(bif x.wr id then x.g id else s.2 id)=_
   cases hb:x.wr id with
   |true=>exact hgg id hb
   |false=>rw[hwr]at hb;exact(a1m hb).symm
  refine c8s hi hd hw hg (λq=>⟨(h1 q).1,(h1 q).2,hfr nm (h1 q)⟩) hs λa' W' hp=>hk a' W' ?_
  rw[e]
  show Po E Ow ρ Fr W n _ _ (lW s.1 x.o.dst x.v) _ a a' W'
  rw[hv];exact hp
 |sk hd hw hv hwr=>
  intro E Ow ρ Fr l k a W K Q hE hro hfr _ hs hk
  have e:(x.ap s).2=s.2:=funext λid=>by
   show(bif x.wr id then x.g id else s.2 id)=_
   rw[hwr];rfl
  refine d0a (lo:=x.lo) (hi:=x.hi) hi hd hw hs λa' W' hp=>hk a' W' ?_
  rw[e]
  show Po E Ow ρ Fr W n _ _ (lW s.1 x.o.dst x.v) _ a a' W'
  rw[hv];exact hp
 |cl hc h=>exact h s ⟨λ_ _=>rfl,λ_ _=>rfl⟩
def OkL (P:Program)(EK:Vl->Prop)(n:Nat)(ro:Option Id)(ops:Array Oper):List It->S2->Prop
  |[],_=>True
  |x::l,s=>Stp P EK n ro ops x s/\OkL P EK n ro ops l (x.ap s)
def apL:List It->S2->S2
  |[],s=>s
  |x::l,s=>apL l (x.ap s)
def Cm (P:Program)(EK:Vl->Prop)(n:Nat)(ro:Option Id)(ops:Array Oper)(e x:It):Prop:=∀s,Stp P EK n ro ops e s->Stp P EK n ro ops x (e.ap s)->Stp P EK n ro ops x s/\Stp P EK n ro ops e (x.ap s)/\x.ap (e.ap s)=e.ap (x.ap s)
theorem tQ {x:It}:∀{p q:List It} {s:S2},(∀e,e∈p->Cm P EK n ro ops e x)->OkL P EK n ro ops (p++x::q) s->OkL P EK n ro ops (x::(p++q)) s/\apL (x::(p++q)) s=apL (p++x::q) s
 |[],q,s,_,h=>⟨h,rfl⟩
 |e::p,q,s,hp,h=>by
  obtain⟨h1,h2⟩:=h
  obtain⟨⟨h3,h4⟩,h5⟩:=tQ (λy hy=>hp y (d9v _ hy)) h2
  obtain⟨k1,k2,k3⟩:=hp e (d9y ..) s h1 h3
  refine⟨⟨k1,k2,?_⟩,?_⟩
  ·show OkL P EK n ro ops (p++q) (e.ap (x.ap s));rw[<-k3];exact h4
  ·show apL (p++q) (e.ap (x.ap s))=apL (p++x::q) (e.ap s);rw[<-k3];exact h5
inductive Rch (ops:Array Oper):Nat->Nat->Prop
  |one {i:Nat} {o:Oper} {e:Go.Edge}:ops[i]?=some o->e∈o.after->Region.binds .any e=true->Rch ops i e.on
  |step {i j:Nat} {o:Oper} {e:Go.Edge}:ops[i]?=some o->e∈o.after->Region.binds .any e=true->Rch ops e.on j->Rch ops i j
def b5u:List Nat->List It->Prop
  |_,[]=>True
  |d,x::l=>(∀e,e∈x.o.after->Region.binds .any e=true->e.on∈d)/\b5u (x.i::d) l
theorem b5u.mono:∀{l:List It} {d d':List Nat},(∀i,i∈d->i∈d')->b5u d l->b5u d' l
 |[],_,_,_,_=>trivial
 |x::l,d,d',hs,⟨h1,h2⟩=>⟨λe he hb=>hs _ (h1 e he hb),h2.mono λi hi=>by
  rcases e0b.1 hi with rfl|hi
  ·exact d9y ..
  ·exact d9v _ (hs i hi)⟩
theorem b5u.out {x:It}:∀{p q:List It} {d:List Nat},b5u d (p++x::q)->b5u (x.i::d) (p++q)
 |[],q,d,⟨_,h⟩=>h
 |y::p,q,d,⟨h1,h2⟩=>⟨λe he hb=>d9v _ (h1 e he hb),(b5u.out h2).mono λi hi=>by
  simp only[e0b]at hi⊢
  rcases hi with h|h|h
  ·exact .inr (.inl h)
  ·exact .inl h
  ·exact .inr (.inr h)⟩
structure Rc (E:Vl)(n lo hi:Nat)(ops:Array Oper)(Ow0:Nat->Prop)(ρ0:Rh)(Fr0:Id->Prop)(W0:World)(a0:Act)(aQ:Array Bool)(done:List Nat)(l:List It)(s:S2)(a:Act)(W:World):Prop where
  size:aQ.size=ops.size
  ld:∀k,k<ops.size->(aQ.getD k true=true↔k∈done)
  dl:∀k,k∈done->k<ops.size
  dn:∀k,k<ops.size->(k∈done↔k∉l.map (·.i))
  op:∀x,x∈l->ops[x.i]?=some x.o
  nd:(l.map (·.i)).Nodup
  cl:∀k o,k∈done->ops[k]?=some o->∀e,e∈o.after->Region.binds .any e=true->e.on∈done
  tp:b5u done l
  rg:l.Pairwise (λe x=>∀id,Rg e.lo e.hi id->¬Rg x.lo x.hi id)
  bd:∀x,x∈l->lo<=x.lo/\x.hi<=hi
  sr:∃(Ow:Nat->Prop) (ρ:Rh) (Fr:Id->Prop),(∀b,Ow b->Ow0 b)/\Nm ρ0 ρ lo hi/\Gr Ow0 W0 W/\(∀x,x∈l->∀id,Rg x.lo x.hi id->Fr id)/\(∀id,Fr0 id->¬Rg lo hi id->Fr id)/\SR E Ow ρ n s.1 s.2 Fr a W/\Dm Ow0 a0 a
section
variable {E:Vl} {lo hi:Nat} {Ow0:Nat->Prop} {ρ0:Rh} {Fr0:Id->Prop} {W0:World} {a0:Act} {aQ:Array Bool} {done:List Nat} {l:List It} {s:S2} {a:Act} {W:World}
theorem Rc.end (h:Rc E n lo hi ops Ow0 ρ0 Fr0 W0 a0 aQ done l s a W)(hr:Region.ready .any ops aQ=[]):l=[]:=by
 cases l with
 |nil=>rfl
 |cons x l=>
  exfalso
  have hi:ops[x.i]?=some x.o:=h.op x (d9y ..)
  have hisz:=(d9w.1 hi).1
  have:x.i∈Region.ready .any ops aQ:=by
   rw[e7z]
   refine⟨?_,x.o,hi,λe he hb=>?_⟩
   ·rw[<-e5e,h.ld x.i hisz,h.dn x.i hisz];simp
   ·have hd:=h.tp.1 e he hb
    have hk:=h.dl _ hd
    have:=(h.ld e.on hk).2 hd
    simp only[Array.getD,h.size,hk,e8c]at this⊢
    exact this
  rw[hr]at this;cases this
theorem qL {ro':Option Nat}{k:Nat}{Q:Exit->Act->World->Prop}{sE:S2}(hE:EK E)(hro:RoK ro ρ0 ro'){sp:Id}(hsp:Fr0 sp)(hsp':¬Rg lo hi sp)(hq:∀a' W',Po E Ow0 ρ0 Fr0 W0 n lo hi sE.1 sE.2 a0 a' W'->Q .normal a' W'):
  ∀(bH:Nat) (aQ:Array Bool) (done:List Nat) (l:List It) (s:S2) (a:Act) (W:World),l.length<=bH->Rc E n lo hi ops Ow0 ρ0 Fr0 W0 a0 aQ done l s a W->l.Pairwise (λe x=>Rch ops x.i e.i\/Cm P EK n ro ops e x)->
   OkL P EK n ro ops l s->apL l s=sE->wpAnyIn (Fw ro') k P .any ops Q bH aQ a W:=by
 have key:∀(aQ:Array Bool) (done:List Nat) (l:List It) (s:S2) (a:Act) (W:World),Rc E n lo hi ops Ow0 ρ0 Fr0 W0 a0 aQ done l s a W->apL l s=sE->Region.ready .any ops aQ=[]->Q .normal a W:=by
  intro aQ done l s a W hc hap hr
  obtain rfl:=hc.end hr
  cases hap
  obtain⟨Ow,ρ,Fr,h1,h2,h3,h4,h5,h6,h7⟩:=hc.sr
  exact hq a W ⟨Ow,ρ,h1,h2,h6.less λj hj=>h5 j hj.1 hj.2,h3,h7⟩
 intro bH
 induction bH with
 |zero=>
  intro aQ done l s a W hlen hc hpw hok hap
  obtain rfl:l=[]:=e3e.1 (by omega)
  have hready:Region.ready .any ops aQ=[]:=by
   refine e6j.2 λi hi=>?_
   obtain⟨h1,o,h2,_⟩:=e7z.1 hi
   have hisz:=(d9w.1 h2).1
   have:=(hc.ld i hisz).2 ((hc.dn i hisz).2 (by simp))
   rw[h1]at this;cases this
  exact⟨hready,key aQ done [] s a W hc hap hready⟩
 |succ bH ih=>
  intro aQ done l s a W hlen hc hpw hok hap
  refine⟨key aQ done l s a W hc hap,λi hi=>?_⟩
  obtain⟨h1,o,h2,h3⟩:=e7z.1 hi
  have hisz:=(d9w.1 h2).1
  have hnd:i∉done:=λh=>by have:=(hc.ld i hisz).2 h;rw[h1]at this;cases this
  have hil:i∈l.map (·.i):=by
   apply e3q
   intro h;exact hnd ((hc.dn i hisz).2 h)
  obtain⟨x,hmem,rfl⟩:=e0l.1 hil
  obtain⟨p,q,rfl⟩:=e5w hmem
  have ho:x.o=o:=by have:=hc.op _ hmem;rw[h2]at this;exact(e4p this).symm
  subst ho
  have hdeps:∀e,e∈x.o.after->Region.binds .any e=true->e.on∈done:=by
   intro e he hb
   have h4:=h3 e he hb
   by_cases hk:e.on<ops.size
   ·rw[<-hc.ld e.on hk]
    simp only[Array.getD,hc.size,hk,e8c]at h4⊢
    exact h4
   ·simp only[Array.getD,hc.size,hk,dif_neg,not_false_eq_true]at h4;cases h4
  have hrchd:∀{k j},Rch ops k j->k∈done->j∈done:=by
   intro k j h
   induction h with
   |one h1 h2 h3=>exactλhk=>hc.cl _ _ hk h1 _ h2 h3
   |step h1 h2 h3 _ ih=>exactλhk=>ih (hc.cl _ _ hk h1 _ h2 h3)
  have hrch:∀{j},Rch ops x.i j->j∈done:=by
   intro j h
   cases h with
   |one h4 h5 h6=>rw[h2]at h4;cases h4;exact hdeps _ h5 h6
   |step h4 h5 h6 h7=>rw[h2]at h4;cases h4;exact hrchd h7 (hdeps _ h5 h6)
  have hpx:∀e,e∈p->(Rch ops x.i e.i\/Cm P EK n ro ops e x):=λe he=>(e3s.1 hpw).2.2 e he x (d9y ..)
  obtain⟨⟨hx,hok'⟩,hap'⟩:=tQ (λe he=>by
   refine(hpx e he).resolve_left λhr=>?_
   have hes:=(d9w.1 (hc.op e (e0p _ he))).1
   exact(hc.dn e.i hes).1 (hrch hr) (e0l.2 ⟨e,e0p _ he,rfl⟩)) hok
  obtain⟨Ow,ρ,Fr,g1,g2,g3,g4,g5,g6,g7⟩:=hc.sr
  have hbx:=hc.bd x hmem
  refine hx.tr h2 E Ow ρ Fr ro' k a W _ Q hE (hro.le g2.le) (g4 x hmem) ⟨sp,g5 sp hsp hsp',λq=>hsp' ⟨by have:=q.1;omega,by have:=q.2;omega⟩⟩ g6 λa' W' hp=>?_
  obtain⟨Ow',ρ',k1,k2,k3,k4,k5⟩:=hp
  have hnodup:∀y,y∈p++q->y.i≠x.i:=by
   intro y hy e
   have hnd:=hc.nd
   rw[e1z,e0o,e6h]at hnd
   rcases e0x.1 hy with hy|hy
   ·exact hnd.2.2 _ (e0l.2 ⟨y,hy,rfl⟩) _ (d9y ..) e
   ·exact(e2b.1 hnd.2.1).1 (e0l.2 ⟨y,hy,e⟩)
  have hsub:∀y,y∈p++q->y∈p++x::q:=λy hy=>by
   rcases e0x.1 hy with hy|hy
   ·exact e0p _ hy
   ·exact e0n _ (d9v _ hy)
  have hsl:(p++q).Sublist (p++x::q):=e7i (e4x _) (e5o ..)
  have hrgx:∀y,y∈p++q->∀id,Rg y.lo y.hi id->¬Rg x.lo x.hi id:=by
   intro y hy id h7 h8
   have hrg:=e3s.1 hc.rg
   rcases e0x.1 hy with hy|hy
   ·exact hrg.2.2 y hy x (d9y ..) id h7 h8
   ·exact(e3m.1 hrg.2.1).1 y hy id h8 h7
  refine ih _ (x.i::done) (p++q) (x.ap s) a' W' ?_ ⟨by simpa using hc.size,λk hk=>?_,λk hk=>?_,λk hk=>?_,λy hy=>hc.op y (hsub y hy),hc.nd.sublist (hsl.map _),λk o2 hk h4 e he hb=>?_,hc.tp.out,hc.rg.sublist hsl,λy hy=>hc.bd y (hsub y hy),Ow',ρ',_,λb hb=>g1 b (k1 b hb),g2.trans k2 ⟨e0g _,e0g _⟩ hbx,g3.trans (k4.mono g1),λy hy id hid=>⟨g4 y (hsub y hy) id hid,hrgx y hy id hid⟩,λid h7 h8=>⟨g5 id h7 h8,λh9=>h8 ⟨by have:=h9.1;omega,by have:=h9.2;omega⟩⟩,k3,g7.trans k5 g1⟩ (hpw.sublist hsl) hok' (hap'.trans hap)
  ·simp only[e1f,e0r]at hlen⊢;omega
  ·by_cases e:k=x.i
   ·subst e
    simp only[e0b,true_or,iff_true]
    simp[Array.getD,hc.size,hk]
   ·rw[getD_set_ne true (λh=>e h.symm),hc.ld k hk];simp[e]
  ·rcases e0b.1 hk with rfl|hk
   ·exact hisz
   ·exact hc.dl k hk
  ·have:=hc.dn k hk
   simp only[e0b,e1z,e0o,e0x]at this⊢
   constructor
   ·rintro(rfl|h)
    ·rintro(h|h)
     ·obtain⟨y,hy,e⟩:=e0l.1 h;exact hnodup y (e0p _ hy) e
     ·obtain⟨y,hy,e⟩:=e0l.1 h;exact hnodup y (e0n _ hy) e
    ·have:=this.1 h
     rintro(h|h)
     ·exact this (.inl h)
     ·exact this (.inr (.inr h))
   ·intro h
    by_cases e:k=x.i
    ·exact .inl e
    ·refine .inr (this.2 ?_)
     rintro(h1|h1|h1)
     ·exact h (.inl h1)
     ·exact e h1
     ·exact h (.inr h1)
  ·rcases e0b.1 hk with rfl|hk
   ·rw[h2]at h4;cases h4;exact d9v _ (hdeps e he hb)
   ·exact d9v _ (hc.cl k o2 hk h4 e he hb)
end
end
set_option linter.unusedVariables false
section
variable {P:Program} {ev ev2:Ev} {nm:Id}
theorem aD {α:Type}{x:Option α}{f:α->Kf}(h:∀a,(f a).f ev2 nm=(f a).f ev nm):(ors x f).f ev2 nm=(ors x f).f ev nm:=by
 cases x with
 |none=>rfl
 |some a=>exact h a
theorem iG {K:List V->Rq}:∀(l:List (Nat×Nat×Operand)) (z:List V),(∀p,p∈l->ev2 p.2.2=ev p.2.2)->tC ev2 l z K=tC ev l z K
 |[],z,_=>rfl
 |p::l,z,h=>by
  show oH (ev2 p.2.2) (λm=>bif Nat.beq (nQ m) p.2.1 then a3d z p.1 m (λz=>tC ev2 l z K)else .no)=oH (ev p.2.2) (λm=>bif Nat.beq (nQ m) p.2.1 then a3d z p.1 m (λz=>tC ev l z K)else .no)
  rw[h p (d9y ..),show(λz=>tC ev2 l z K)=λz=>tC ev l z K from funext λz=>iG l z λq hq=>h q (d9v _ hq)]
theorem fB {d:Nat}{x:Option Operand}{K K2:Nat->Rq}(h:∀y,x=some y->ev2 y=ev y)(hk:∀n,K2 n=K n):bnd d x ev2 K2=bnd d x ev K:=by
 obtain rfl:K2=K:=funext hk
 cases x with
 |none=>rfl
 |some y=>show asN (ev2 y) K2=asN (ev y) K2;rw[h y rfl]
theorem a3f {k:Nat}:∀{l:List (Nat×Operand)} {p:Nat×Nat×Operand},p∈plA k l->∃i,(i,p.2.2)∈l
 |(i,x)::l,p,h=>by
  rcases e0b.1 h with rfl|h
  ·exact⟨i,d9y ..⟩
  ·obtain⟨j,hj⟩:=a3f h;exact⟨j,d9v _ hj⟩
theorem b3m {fs:List Field}:∀{l:List (Nat×Operand)} {r:List (Nat×Nat×Operand)} {p:Nat×Nat×Operand},plS P fs l=some r->p∈r->∃i,(i,p.2.2)∈l
 |[],r,p,h,hp=>by cases h;cases hp
 |(i,x)::l,r,p,h,hp=>by
  simp only[plS]at h
  split at h
  ·split at h
   ·rename_i n r' hn hr
    cases h
    rcases e0b.1 hp with rfl|hp
    ·exact⟨i,d9y ..⟩
    ·obtain⟨j,hj⟩:=b3m hr hp;exact⟨j,d9v _ hj⟩
   ·cases h
  ·cases h
theorem b0c {v:V}{K K2:Id->Nat->Nat->Nat->Nat->Rq}{z z2:Rq}(h:∀a b c d e,K2 a b c d e=K a b c d e)(hz:z2=z):asS v K2 z2=asS v K z:=by
 obtain rfl:K2=K:=funext λa=>funext λb=>funext λc=>funext λd=>funext λe=>h a b c d e
 rw[hz]
theorem b0b {v:V}{K K2:Id->Nat->Rq}(h:∀a b,K2 a b=K a b):asP v K2=asP v K:=by
 obtain rfl:K2=K:=funext λa=>funext λb=>h a b
 rfl
theorem a7p {b:Builtin}{ts:List Nat}{args:List Operand}(h:∀y,y∈args->ev2 y=ev y):(c2o P b ts args).f ev2 nm=(c2o P b ts args).f ev nm:=by
 unfold c2o
 split
 ·rename_i x t
  have hx:=h x (by simp)
  split
  ·rfl
  ·split<;>first|rfl|simp only[a0z,hx]
 ·rename_i x t
  have hx:=h x (by simp)
  refine aD λa=>?_
  simp only[c5x,hx]
 ·rename_i x y t t2
  have hx:=h x (by simp)
  have hy:=h y (by simp)
  refine aD λa=>aD λk=>aD λmx=>aD λz=>aD λd=>?_
  cases Nat.blt 0 k with
  |false=>rfl
  |true=>cases rI P t2<;>simp only[e0q,e2n,c0a,hx,hy]
 ·rename_i x y t _
  have hx:=h x (by simp)
  have hy:=h y (by simp)
  refine aD λa=>aD λk=>?_
  simp only[b5q,hx,hy]
 ·rename_i x t
  have hx:=h x (by simp)
  refine aD λa=>aD λk=>?_
  simp only[c5y,hx]
 ·rename_i m k t _
  have hx:=h m (by simp)
  have hy:=h k (by simp)
  refine aD λa=>?_
  simp only[c5z,hx,hy]
 ·rename_i _ x r
  have hx:=h x (by simp)
  have hr:r.map ev2=r.map ev:=e2s λy hy=>h y (d9v _ hy)
  simp only[d0z,hx,hr]
 ·rename_i _ x r
  have hx:=h x (by simp)
  have hr:r.map ev2=r.map ev:=e2s λy hy=>h y (d9v _ hy)
  simp only[d0z,hx,hr]
 ·rfl
theorem a7q {op:Op}(h:∀y,y∈op.operands.toList->ev2 y=ev y):(pU P op).f ev2 nm=(pU P op).f ev nm:=by
 unfold pU
 split
 ·rename_i x;have hx:=h x (by simp[Op.operands]);simp only[d0y,hx]
 ·rename_i x;have hx:=h x (by simp[Op.operands]);simp only[d0y,hx]
 ·rename_i c a b
  have h1:=h c (by simp[Op.operands]);have h2:=h a (by simp[Op.operands]);have h3:=h b (by simp[Op.operands])
  simp only[b5r,h1,h2,h3]
 ·exact aD λz=>rfl
 ·rename_i x;have hx:=h x (by simp[Op.operands]);simp only[c5w,hx]
 ·rename_i t ps
  have hp:∀p:Nat×Operand,p∈ps.toList->ev2 p.2=ev p.2:=λp hp=>h p.2 (by simp only[Op.operands];exact e0l.2 ⟨p,hp,rfl⟩)
  refine aD λz=>?_
  split
  ·rename_i fs _
   cases c5l P fs.toList with
   |false=>rfl
   |true=>
    show(ors (plS P fs.toList ps.toList) λl=>⟨a3z z l⟩).f ev2 nm=(ors (plS P fs.toList ps.toList) λl=>⟨a3z z l⟩).f ev nm
    cases hl:plS P fs.toList ps.toList with
    |none=>rfl
    |some l=>exact iG l z λp hpl=>let⟨i,hi⟩:=b3m hl hpl;hp (i,p.2.2) hi
  ·refine aD λk=>iG _ z λp hpl=>let⟨i,hi⟩:=a3f hpl;hp (i,p.2.2) hi
  ·rfl
 ·rename_i t len ps
  have hp:∀p:Nat×Operand,p∈ps.toList->ev2 p.2=ev p.2:=λp hp=>h p.2 (by simp only[Op.operands];exact e0l.2 ⟨p,hp,rfl⟩)
  refine aD λe=>aD λk=>aD λz=>?_
  cases(Nat.ble (len*k) 1048576&&Nat.blt 0 k)with
  |false=>rfl
  |true=>exact iG _ _ λp hpl=>let⟨i,hi⟩:=a3f hpl;hp (i,p.2.2) hi
 ·rename_i t a;have hx:=h a (by simp[Op.operands]);refine aD λn=>?_;simp only[d6i,hx]
 ·rename_i t a x
  have h1:=h a (by simp[Op.operands]);have h2:=h x (by simp[Op.operands])
  refine aD λn=>?_;simp only[d6m,h1,h2]
 ·rename_i x;have hx:=h x (by simp[Op.operands]);simp only[d1x,hx]
 ·rename_i op t x y _
  have h1:=h x (by simp[Op.operands]);have h2:=h y (by simp[Op.operands])
  simp only[c5v,h1,h2]
 ·rename_i op _ x
  have hx:=h x (by simp[Op.operands])
  split
  ·simp only[c6e,hx]
  ·simp only[c6d,hx]
  ·rfl
 ·rename_i s t x
  have hx:=h x (by simp[Op.operands])
  refine aD λd=>?_
  split
  ·simp only[d6c,hx]
  ·rfl
 ·rename_i g fs cs
  simp only[d6g]
  rw[e2s (f:=ev2) (g:=ev) (l:=fs.toList) λy hy=>h y (by simp only[Op.operands,e6l];exact e0p _ hy),e2s (f:=ev2) (g:=ev) (l:=cs.toList) λy hy=>h y (by simp only[Op.operands,e6l];exact e0n _ hy)]
 ·exact aD λag=>rfl
 ·rename_i t l c
  have h1:=h l (by simp[Op.operands]);have h2:=h c (by simp[Op.operands])
  refine aD λe=>aD λmx=>aD λz=>?_
  cases Nat.blt 0 (nQ z)<;>simp only[e0q,e2n,c6c,fR,h1,h2]
 ·rename_i t x lo hi mx
  have hx:=h x (by simp[Op.operands])
  have h1:∀y,lo=some y->ev2 y=ev y:=λy e=>h y (by simp[Op.operands,e])
  have h2:∀y,hi=some y->ev2 y=ev y:=λy e=>h y (by simp[Op.operands,e])
  have h3:∀y,mx=some y->ev2 y=ev y:=λy e=>h y (by simp[Op.operands,e])
  split
  ·refine aD λk=>?_
   split
   ·rfl
   ·simp only[d6l,hx]
    refine b0c (λid off len cap ex=>fB h1 λl=>fB h2 λh'=>?_) (fB h1 λl=>fB h2 λh'=>fB h3 λm=>rfl)
    cases mx with
    |none=>rfl
    |some y=>
     show asN (ev2 y) _=asN (ev y) _
     rw[h3 y rfl]
  ·refine aD λk=>?_
   split
   ·simp only[c6f,hx]
    exact b0b λid off=>fB h1 λl=>fB h2 λh'=>rfl
   ·rfl
  ·rfl
 ·rename_i s x i
  have hx:=h x (by simp[Op.operands])
  refine aD λf=>aD λn=>?_
  cases Nat.beq n 0<;>simp only[e0q,e2n,d6e,fR,hx]
 ·rename_i s x i
  have hx:=h x (by simp[Op.operands])
  refine aD λf=>aD λn=>?_
  simp only[d6f,hx]
 ·rename_i t x i
  have h1:=h x (by simp[Op.operands]);have h2:=h i (by simp[Op.operands])
  split
  ·refine aD λk=>?_;simp only[c6w,h1,h2]
  ·refine aD λk=>?_;simp only[c6w,h1,h2]
  ·rfl
 ·rename_i t x i
  have h1:=h x (by simp[Op.operands]);have h2:=h i (by simp[Op.operands])
  split
  ·refine aD λk=>aD λn=>?_;simp only[d6h,h1,h2]
  ·simp only[c6b,h1,h2]
  ·rfl
 ·rename_i t x k co
  have h1:=h x (by simp[Op.operands]);have h2:=h k (by simp[Op.operands])
  refine aD λag=>aD λe=>aD λz=>?_
  simp only[pA,h1,h2]
 ·rename_i t m k v
  have h1:=h m (by simp[Op.operands]);have h2:=h k (by simp[Op.operands]);have h3:=h v (by simp[Op.operands])
  refine aD λag=>?_;simp only[b5s,h1,h2,h3]
 ·rename_i t m k v
  have h1:=h m (by simp[Op.operands]);have h2:=h k (by simp[Op.operands]);have h3:=h v (by simp[Op.operands])
  refine aD λag=>?_;simp only[b5s,h1,h2,h3]
 ·rename_i t m k
  have h1:=h m (by simp[Op.operands]);have h2:=h k (by simp[Op.operands])
  refine aD λag=>aD λe=>aD λz=>?_
  simp only[a7b,h1,h2]
 ·rename_i m s v
  have h1:=h m (by simp[Op.operands]);have h2:=h s (by simp[Op.operands]);have h3:=h v (by simp[Op.operands])
  simp only[c6a,h1,h2,h3]
 ·rename_i x i;have hx:=h x (by simp[Op.operands]);simp only[c0b,hx]
 ·rename_i t x
  have hx:=h x (by simp[Op.operands])
  refine aD λ_=>?_;simp only[d6k,hx]
 ·rename_i x;have hx:=h x (by simp[Op.operands]);simp only[d6d,hx]
 ·rename_i t x
  have hx:=h x (by simp[Op.operands])
  split
  ·simp only[d6j,hx]
  ·rfl
 ·rename_i x _ t
  have hx:=h x (by simp[Op.operands])
  split
  ·simp only[d1y,hx]
  ·rfl
 ·rename_i c
  split
  ·exact a7p λy hy=>h y (by simp only[Op.operands,Call.operands,e6l];exact e0n _ hy)
  ·rfl
 ·rfl
end
set_option linter.unusedVariables false
section
variable {P:Program} {EK:Vl->Prop} {n:Nat} {ro:Option Id} {ops:Array Oper}
theorem a6f {o:Oper}{ol:List Oper}{τ τ2:Nat->V}{nm:Id}(h:∀t,t∈rdS ol o->τ2 t=τ t):(pU P o.op).f (evF τ2) nm=(pU P o.op).f (evF τ) nm:=
 a7q (yD λt ht=>h t (e0p _ ht))
theorem Stp.agr {x:It}{s s2:S2}(hx:Stp P EK n ro ops x s)(ha:Agr ops.toList x s s2):Stp P EK n ro ops x s2:=by
 have hwant:kY ops.toList x.o s2.1=kY ops.toList x.o s.1:=iW λt ht=>ha.1 t (e0n _ ht)
 cases hx with
 |nc nm ls ac hd hw h1 hg hv hr hwr hgg=>
  refine .nc nm ls ac hd (hwant.trans hw) h1 ?_ hv hr hwr λid hid=>(hgg id hid).trans (b6j (by rw[<-hwr];exact hid))
  rw[a6f ha.1]
  exact b2a hg λid hid=>ha.2 id (.inl (hr id hid))
 |sk hd hw hv hwr=>exact .sk hd (hwant.trans hw) hv hwr
 |cl hc h=>exact .cl hc λs3 ha3=>h s3 ⟨λt ht=>(ha3.1 t ht).trans (ha.1 t ht),λid hid=>(ha3.2 id hid).trans (ha.2 id hid)⟩
def Aps (ol:List Oper)(a b:Oper):Prop:=(∀t,a.dst=some t->t∉rdS ol b)/\(∀t,b.dst=some t->t∉rdS ol a)/\∀t,a.dst=some t->b.dst≠some t
theorem cO {τ:Nat->V}{d:Option Nat}{v:V}{t:Nat}(h:d≠some t):lW τ d v t=τ t:=d9z h
theorem wR {τ:Nat->V}{d e:Option Nat}{v w:V}(h:∀t,d=some t->e≠some t):lW (lW τ d v) e w=lW (lW τ e w) d v:=by
 funext t
 unfold lW
 by_cases h1:d=some t
 ·rw[e0c h1,d9z (h t h1),e0c h1]
 ·rw[d9z h1,d9z h1]
theorem Aps.agr {e x:It}(ha:Aps ops.toList e.o x.o)(s:S2):∀t,t∈rdS ops.toList x.o->s.1 t=(e.ap s).1 t:=λt ht=>(cO λq=>ha.1 t q ht).symm
theorem Aps.agr2 {e x:It}(ha:Aps ops.toList e.o x.o)(s:S2):∀t,t∈rdS ops.toList e.o->(x.ap s).1 t=s.1 t:=λt ht=>cO λq=>ha.2.1 t q ht
theorem kA {e:It}{s:S2}{id:Id}(h:e.wr id=false):(e.ap s).2 id=s.2 id:=by
 show(bif e.wr id then e.g id else s.2 id)=_
 rw[h];rfl
theorem Cm.of_dis {e x:It}(ha:Aps ops.toList e.o x.o)(h1:∀id,e.wr id=true->x.rd id=false/\x.wr id=false)(h2:∀id,x.wr id=true->e.rd id=false):Cm P EK n ro ops e x:=by
 have h3:∀id,(x.rd id=true\/x.wr id=true)->e.wr id=false:=λid hid=>by
  cases hb:e.wr id with
  |false=>rfl
  |true=>obtain⟨q1,q2⟩:=h1 id hb;rw[q1,q2]at hid;simp at hid
 have h4:∀id,(e.rd id=true\/e.wr id=true)->x.wr id=false:=λid hid=>by
  cases hb:x.wr id with
  |false=>rfl
  |true=>
   rcases hid with q|q
   ·rw[h2 id hb]at q;cases q
   ·rw[(h1 id q).2]at hb;cases hb
 intro s he hx
 refine⟨hx.agr ⟨ha.agr s,λid hid=>(kA (h3 id hid)).symm⟩,he.agr ⟨ha.agr2 s,λid hid=>kA (h4 id hid)⟩,Prod.ext (wR ha.2.2) (funext λid=>?_)⟩
 show(bif x.wr id then x.g id else bif e.wr id then e.g id else s.2 id)=bif e.wr id then e.g id else bif x.wr id then x.g id else s.2 id
 cases hb:x.wr id with
 |false=>rfl
 |true=>rw[h3 id (.inr hb)];rfl
theorem b0a {h:Hf}{ag:Nat}{v:V}{K:List Int->Rq}{r:List Id×Ac}(hg:goF h (asK ag v K)=some r):∃l:List Int,(∀K':List Int->Rq,asK ag v K'=K' l)/\goF h (K l)=some r:=by
 cases ag with
 |zero=>
  obtain⟨k,m,ev,hg2⟩:=tN (show goF h (asI v λk n=>bif keq k .i64 then K [n]else .no)=some r from hg)
  subst ev
  obtain⟨hk,hg⟩:=aP hg2
  refine⟨[m],λK'=>?_,hg⟩
  show(bif keq k .i64 then K' [m]else .no)=_
  rw[hk];rfl
 |succ m=>
  obtain⟨cs,ev,hg2⟩:=a4k (show goF h (asA v λcs=>ifS (kL cs) .no λl=>bif Nat.beq (Nat.succ (nQ l)) (m+1)then K l else .no)=some r from hg)
  subst ev
  obtain⟨l,hl,hg⟩:=gL hg2
  obtain⟨hm,hg⟩:=aP hg
  refine⟨l,λK'=>?_,hg⟩
  show(ifS (kL cs) .no λl=>bif Nat.beq (Nat.succ (nQ l)) (m+1)then K' l else .no)=_
  rw[hl]
  show(bif Nat.beq (Nat.succ (nQ l)) (m+1)then K' l else .no)=_
  rw[hm];rfl
theorem vR {k k':List Int}{v:V}:∀{es:Es},find k (upd k' v es)=if k=k' then some v else find k es
 |[]=>by
  show(bif kq k k' then some v else none)=_
  rw[fG]
  by_cases e:k=k'
  ·rw[e1r e,e0c e];rfl
  ·rw[e1o e,d9z e];rfl
 |e::l=>by
  rw[qE]
  have hc:∀(p:List Int×V) (m:Es),find k (p::m)=if k=p.1 then some p.2 else find k m:=λp m=>by
   show(bif kq k p.1 then some p.2 else find k m)=_
   rw[fG]
   by_cases q:k=p.1
   ·rw[e1r q,e0c q];rfl
   ·rw[e1o q,d9z q];rfl
  by_cases q:k'=e.1
  ·rw[e0c q,hc,hc]
   by_cases r:k=k'
   ·simp only[e0c r]
   ·simp only[d9z r];rw[d9z (λz=>r (z.trans q.symm))]
  ·rw[d9z q,hc,hc,vR]
   by_cases r:k=e.1
   ·simp only[e0c r];rw[d9z (λz=>q (z.symm.trans r))]
   ·simp only[d9z r]
theorem b8e {h:Hf}{t:Nat}{m k:Operand}{ev:Ev}{nm:Id}{ls:List Id}{ac:Ac}(hg:goF h ((pU P (.lookup t m k false)).f ev nm)=some (ls,ac)):
  ∃(ag e:Nat) (z:Value) (l:List Int) (id:Id) (es:Es) (op:Option (Id×Option (List Int))),xN P t=some ag/\elT P t=some e/\zvO P e=some z/\h id=some (.m ag es op)/\ls=[id]/\ac= .ret ((find l es).getD (ofV z))/\
   ∀(h2:Hf) (es2:Es) (op2:Option (Id×Option (List Int))),h2 id=some (.m ag es2 op2)->goF h2 ((pU P (.lookup t m k false)).f ev nm)=some ([id],.ret ((find l es2).getD (ofV z))):=by
 have hg:goF h ((ors (xN P t) λag=>ors (elT P t) λe=>ors (zvO P e) λz=>⟨pA ag (ofV z) m k false⟩).f ev nm)=some (ls,ac):=hg
 obtain⟨ag,h1,hg⟩:=aO hg
 obtain⟨e,h2,hg⟩:=aO hg
 obtain⟨z,h3,hg⟩:=aO hg
 have hcmp:∀hp,goF hp ((pU P (.lookup t m k false)).f ev nm)=goF hp (pA ag (ofV z) m k false ev nm):=λhp=>by
  show goF hp ((ors (xN P t) λag=>ors (elT P t) λe=>ors (zvO P e) λz=>⟨pA ag (ofV z) m k false⟩).f ev nm)=_
  rw[h1]
  show goF hp ((ors (elT P t) λe=>ors (zvO P e) λz=>⟨pA ag (ofV z) m k false⟩).f ev nm)=_
  rw[h2]
  show goF hp ((ors (zvO P e) λz=>⟨pA ag (ofV z) m k false⟩).f ev nm)=_
  rw[h3];rfl
 obtain⟨l,hl,hg⟩:=b0a (show goF h (asK ag (ev k) λk=>b5v (ev m) λid=> .ask id λo=>asM o λag' es _=>bif Nat.beq ag ag' then ifS (find k es) (lkz (ofV z) false) λv=>lks v false else .no)=some (ls,ac)from hg)
 obtain⟨id,hid,hg⟩:=iC hg
 obtain⟨ob,ls',hob,hg,e1⟩:=dL hg
 obtain⟨ag',es,op,e2,hg8⟩:=qM hg
 obtain⟨hag,hg9⟩:=aP hg8
 have hag:=d9s hag
 subst hag
 subst e2
 have hgo:∀(hp:Hf) (es2:Es),goF hp (ifS (find l es2) (lkz (ofV z) false) λv=>lks v false)=some ([],.ret ((find l es2).getD (ofV z))):=λhp es2=>by cases find l es2<;>rfl
 rw[hgo]at hg9
 cases hg9
 refine⟨ag,e,z,l,id,es,op,h1,h2,h3,hob,e1,rfl,λhp es2 op2 he=>?_⟩
 rw[hcmp]
 show goF hp (asK ag (ev k) λk=>b5v (ev m) λid=> .ask id λo=>asM o λag' es _=>bif Nat.beq ag ag' then ifS (find k es) (lkz (ofV z) false) λv=>lks v false else .no)=_
 rw[hl,hid]
 show goF hp (.ask id λo=>asM o λag' es _=>bif Nat.beq ag ag' then ifS (find l es) (lkz (ofV z) false) λv=>lks v false else .no)=_
 have e3:goF hp (asM (.m ag es2 op2) λag' es _=>bif Nat.beq ag ag' then ifS (find l es) (lkz (ofV z) false) λv=>lks v false else .no)=some ([],.ret ((find l es2).getD (ofV z))):=by
  show goF hp (bif Nat.beq ag ag then ifS (find l es2) (lkz (ofV z) false) λv=>lks v false else .no)=_
  rw[e3k]
  exact hgo hp es2
 simp only[goF,he,e3,e1y]
theorem b8j {h:Hf}{t:Nat}{m k:Operand}{ev:Ev}{nm:Id}{ls:List Id}{ac:Ac}(hg:goF h ((pU P (.mapEntry t m k)).f ev nm)=some (ls,ac)):
  ∃(ag e:Nat) (z:Value) (l:List Int) (id:Id) (es es2:Es) (op op2:Option (Id×Option (List Int))) (v:V),xN P t=some ag/\elT P t=some e/\zvO P e=some z/\h id=some (.m ag es op)/\ac= .gst v id (.m ag es2 op2)/\∀l',(find l' es2).getD (ofV z)=(find l' es).getD (ofV z):=by
 have hg:goF h ((ors (xN P t) λag=>ors (elT P t) λe=>ors (zvO P e) λz=>⟨a7b ag (ofV z) m k⟩).f ev nm)=some (ls,ac):=hg
 obtain⟨ag,h1,hg⟩:=aO hg
 obtain⟨e,h2,hg⟩:=aO hg
 obtain⟨z,h3,hg⟩:=aO hg
 obtain⟨id,hid,hg⟩:=iC hg
 obtain⟨l,hl,hg⟩:=b0a hg
 obtain⟨ob,ls',hob,hg,e1⟩:=dL hg
 obtain⟨ag',es,op,e2,hg8⟩:=qM hg
 obtain⟨hag,hg9⟩:=aP hg8
 have hag:=d9s hag
 subst hag
 subst e2
 cases hf:find l es with
 |none=>
  rw[hf]at hg9
  cases hg9
  refine⟨ag,e,z,l,id,es,_,op,_,_,h1,h2,h3,hob,rfl,λl'=>?_⟩
  rw[vR]
  by_cases q:l'=l
  ·subst q;rw[e0c rfl,hf];rfl
  ·rw[d9z q]
 |some v=>
  rw[hf]at hg9
  cases hg9
  exact⟨ag,e,z,l,id,es,es,op,_,_,h1,h2,h3,hob,rfl,λ_=>rfl⟩
theorem Cm.of_lk {e x:It}(ha:Aps ops.toList e.o x.o)(hl:lkP e.o x.o=true):Cm P EK n ro ops e x:=by
 unfold lkP at hl
 split at hl
 ·rename_i t m k t' m' k' he hx
  have ht:=d9s hl
  subst ht
  have hce:isC e.o=true->False:=λq=>by unfold isC uE at q;rw[he]at q;cases q
  have hcx:isC x.o=true->False:=λq=>by unfold isC uE at q;rw[hx]at q;cases q
  intro s hse hsx
  cases hse with
  |cl hc _=>exact(hce hc).elim
  |sk hd hw hv hwr=>
   have h3:∀id,e.wr id=false:=hwr
   refine⟨hsx.agr ⟨ha.agr s,λid hid=>(kA (h3 id)).symm⟩,.sk hd ((iW λt ht=>ha.agr2 s t (e0n _ ht)).trans hw) hv hwr,Prod.ext (wR ha.2.2) (funext λid=>?_)⟩
   show(bif x.wr id then x.g id else bif e.wr id then e.g id else s.2 id)=bif e.wr id then e.g id else bif x.wr id then x.g id else s.2 id
   rw[h3];rfl
  |nc nm ls ac hd hw h1 hg hv hr hwr hgg=>
   rw[he]at hg
   obtain⟨ag,el,z,l,id,es,op,q1,q2,q3,q4,q5,q6,q7⟩:=b8e hg
   subst q5;subst q6
   have h3:∀id,e.wr id=false:=λid=>by rw[hwr];rfl
   have hsx':=hsx.agr (s2:=s) ⟨ha.agr s,λid hid=>(kA (h3 id)).symm⟩
   refine⟨hsx',?_,Prod.ext (wR ha.2.2) (funext λid=>?_)⟩
   ·refine .nc nm [id] _ hd ((iW λt ht=>ha.agr2 s t (e0n _ ht)).trans hw) h1 ?_ hv hr hwr λid hid=>by rw[h3]at hid;cases hid
    rw[a6f (ha.agr2 s),he]
    cases hsx' with
    |cl hc _=>exact(hcx hc).elim
    |sk hd2 hw2 hv2 hwr2=>
     exact q7 _ es op ((kA (hwr2 id)).trans q4)
    |nc nm2 ls2 ac2 hd2 hw2 k1 hg2 hv2 hr2 hwr2 hgg2=>
     rw[hx]at hg2
     obtain⟨ag2,el2,z2,l2,id2,es2,es3,op2,op3,v2,p1,p2,p3,p4,p5,p6⟩:=b8j hg2
     rw[q1]at p1;cases p1
     rw[q2]at p2;cases p2
     rw[q3]at p3;cases p3
     subst p5
     by_cases hid:id=id2
     ·subst hid
      rw[q4]at p4;cases p4
      rw[<-p6 l]
      refine q7 _ es3 op3 ?_
      have hww:x.wr id=true:=by rw[hwr2];simp[acw]
      show(bif x.wr id then x.g id else s.2 id)=_
      rw[hww]
      show x.g id=_
      rw[hgg2 id hww]
      exact e0c rfl
     ·exact q7 _ es op ((kA (by rw[hwr2];simp only[acw,e4q];exact hid)).trans q4)
   ·show(bif x.wr id then x.g id else bif e.wr id then e.g id else s.2 id)=bif e.wr id then e.g id else bif x.wr id then x.g id else s.2 id
    rw[h3];rfl
 ·cases hl
end
end Go.Kx
end
