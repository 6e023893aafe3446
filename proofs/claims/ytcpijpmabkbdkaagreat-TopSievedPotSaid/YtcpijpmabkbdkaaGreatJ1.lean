/- Texts of this proof, joined. No statement of the seat is proved here. -/
import Derived.WalkKit
import Derived.RangeFuncIn
import Derived.OrdersIn
import Derived.Scope
import Derived.Laws.StructEq
import Derived.RangeFuncRecord
import Derived.MapKept
import Derived.Maps.RangeRun
set_option linter.unusedVariables false
set_option linter.unusedSimpArgs false
set_option maxRecDepth 100000
set_option maxHeartbeats 64000000
noncomputable section
abbrev d9q:=@Go.Result.andThen_ok
abbrev d9r:=@List.getD_eq_getElem?_getD
abbrev d9s:=@Nat.eq_of_beq_eq_true
abbrev d9t:=@Go.Sem.run_bind
abbrev d9u:=@Go.Sem.run_pure
abbrev d9v:=@List.mem_cons_of_mem
abbrev d9w:=@Array.getElem?_eq_some_iff
abbrev d9x:=@Array.getD_eq_getD_getElem?
abbrev d9y:=@List.mem_cons_self
abbrev d9z:=@if_neg
abbrev e0a:=@Option.some.injEq
abbrev e0b:=@List.mem_cons
abbrev e0c:=@if_pos
abbrev e0d:=@Bool.and_eq_true
abbrev e0e:=@List.getElem?_eq_getElem
abbrev e0f:=@Nat.zero_add
abbrev e0g:=@Nat.le_refl
abbrev e0i:=@Prod.mk.injEq
abbrev e0j:=@List.getElem?_map
abbrev e0k:=@Go.run_underlying
abbrev e0l:=@List.mem_map
abbrev e0m:=@List.not_mem_nil
abbrev e0n:=@List.mem_append_right
abbrev e0o:=@List.map_cons
abbrev e0p:=@List.mem_append_left
abbrev e0q:=@cond_true
abbrev e0r:=@List.length_cons
abbrev e0s:=@Array.getElem?_toList
abbrev e0t:=@List.getElem?_toArray
abbrev e0u:=@Option.map_eq_some_iff
abbrev e0v:=@Nat.mul_le_mul_right
abbrev e0w:=@List.getElem?_cons_zero
abbrev e0x:=@List.mem_append
abbrev e0y:=@Array.getElem?_eq_getElem
abbrev e0z:=@List.length_map
abbrev e1a:=@List.mem_flatMap
abbrev e1b:=@Int.toNat_natCast
abbrev e1c:=@Array.length_toList
abbrev e1d:=@List.all_eq_true
abbrev e1e:=@List.mem_range
abbrev e1f:=@List.length_append
abbrev e1g:=@Nat.lt_of_lt_of_le
abbrev e1h:=@Nat.le_of_eq
abbrev e1j:=@List.mem_of_getElem?
abbrev e1k:=@List.mem_singleton
abbrev e1l:=@List.getElem?_eq_some_iff
abbrev e1m:=@List.getElem?_append_right
abbrev e1n:=@Nat.le_of_ble_eq_true
abbrev e1o:=@decide_eq_false
abbrev e1p:=@Array.mem_toList_iff
abbrev e1r:=@decide_eq_true
abbrev e1s:=@Nat.add_mul
abbrev e1u:=@List.getElem?_append_left
abbrev e1w:=@List.getElem?_eq_none
abbrev e1x:=@Go.World.putObj_heap_other
abbrev e1y:=@Option.map_some
abbrev e1z:=@List.map_append
abbrev e2a:=@decide_eq_true_iff
abbrev e2b:=@List.nodup_cons
abbrev e2c:=@List.getElem?_cons_succ
abbrev e2g:=@List.getElem?_of_mem
abbrev e2h:=@Nat.le_trans
abbrev e2i:=@Array.size_setIfInBounds
abbrev e2j:=@Nat.add_zero
abbrev e2l:=@Bool.false_eq_true
abbrev e2n:=@cond_false
abbrev e2o:=@List.length_range
abbrev e2p:=@List.length_drop
abbrev e2q:=@List.length_eq_one_iff
abbrev e2r:=@congrArg
abbrev e2s:=@List.map_congr_left
abbrev e2t:=@Go.World.putObj_size
abbrev e2u:=@of_decide_eq_true
abbrev e2v:=@Option.getD_some
abbrev e2w:=@Array.toList_inj
abbrev e2y:=@Bool.eq_iff_iff
abbrev e2z:=@Go.World.putObj_heap_same
abbrev e3b:=@Int.toNat_of_nonneg
abbrev e3c:=@List.map_nil
abbrev e3d:=@Bool.or_eq_true
abbrev e3e:=@List.length_eq_zero_iff
abbrev e3f:=@Go.heap_alloc_old
abbrev e3g:=@if_false
abbrev e3h:=@List.map_toArray
abbrev e3i:=@Nat.not_lt_zero
abbrev e3j:=@Nat.add_assoc
abbrev e3k:=@Nat.beq_refl
abbrev e3l:=@List.getElem?_inj
abbrev e3m:=@List.pairwise_cons
abbrev e3n:=@List.length_singleton
abbrev e3o:=@Array.mapM_eq_mapM_toList
abbrev e3p:=@List.getElem?_range
abbrev e3q:=@Classical.byContradiction
abbrev e3r:=@List.drop_eq_nil_of_le
abbrev e3s:=@List.pairwise_append
abbrev e3t:=@Array.getElem?_setIfInBounds_ne
abbrev e3u:=@List.ext_getElem?
abbrev e3w:=@List.getElem_of_mem
abbrev e3x:=@Go.Oper.semAt_eq
abbrev e3y:=@List.size_toArray
abbrev e3z:=@Decidable.byContradiction
abbrev e4a:=@List.take_of_length_le
abbrev e4b:=@if_true
abbrev e4c:=@Nat.ble_eq_true_of_le
abbrev e4d:=@List.range_succ
abbrev e4e:=@List.mem_iff_getElem?
abbrev e4f:=@Array.toList_map
abbrev e4g:=@Go.World.size_alloc
abbrev e4h:=@decide_eq_true_eq
abbrev e4i:=@List.getElem?_take
abbrev e4j:=@List.filter_append
abbrev e4k:=@List.nodup_nil
abbrev e4l:=@List.length_take
abbrev e4m:=@Option.map_none
abbrev e4n:=@List.getElem?_drop
abbrev e4o:=@not_not_intro
abbrev e4p:=@Option.some.inj
abbrev e4q:=@decide_eq_false_iff_not
abbrev e4r:=@Nat.lt_or_ge
abbrev e4s:=@Array.getElem?_append_left
abbrev e4t:=@Nat.zero_le
abbrev e4u:=@Int.le_refl
abbrev e4v:=@List.foldl_append
abbrev e4w:=@List.getElem?_set
abbrev e4x:=@List.Sublist.refl
abbrev e4z:=@Bool.not_true
abbrev e5a:=@Array.getElem?_setIfInBounds_self_of_lt
abbrev e5b:=@List.mem_eraseIdx_iff_getElem?
abbrev e5c:=@List.cons.injEq
abbrev e5d:=@List.any_eq_true
abbrev e5e:=@Bool.not_eq_true
abbrev e5f:=@List.mem_of_mem_take
abbrev e5g:=@Nat.lt_irrefl
abbrev e5h:=@Go.run_storeCells_at
abbrev e5i:=@Bool.not_eq_true'
abbrev e5j:=@List.foldl_cons
abbrev e5k:=@Array.getElem?_append_right
abbrev e5l:=@List.filterMap_cons
abbrev e5m:=@Go.callsIn_of_wp_marks
abbrev e5n:=@Array.getElem?_eq_none
abbrev e5o:=@List.sublist_cons_self
abbrev e5p:=@Go.RowKit.Below.refl
abbrev e5q:=@List.take_length
abbrev e5r:=@Nat.le_add_right
abbrev e5s:=@List.getElem_mem
abbrev e5t:=@decide_eq_decide
abbrev e5u:=@List.filter_cons
abbrev e5v:=@Go.setRow_other
abbrev e5w:=@List.append_of_mem
abbrev e5x:=@List.contains_iff_mem
abbrev e5y:=@List.drop_eq_getElem_cons
abbrev e5z:=@Decidable.of_not_not
abbrev e6a:=@Array.toArray_toList
abbrev e6b:=@List.range_eq_range'
abbrev e6c:=@Go.World.alloc_heap_new
abbrev e6d:=@Go.wpIn_seq
abbrev e6e:=@List.forall_mem_cons
abbrev e6f:=@Array.size_append
abbrev e6g:=@List.append_assoc
abbrev e6h:=@List.nodup_append
abbrev e6i:=@Iff.rfl
abbrev e6j:=@List.eq_nil_iff_forall_not_mem
abbrev e6l:=@Array.toList_append
abbrev e6m:=@Array.mem_filter
abbrev e6n:=@Go.wpIn_region_list
abbrev e6o:=@Nat.mul_le_mul
abbrev e6p:=@List.mapM_cons
abbrev e6q:=@Array.contains_iff_mem
abbrev e6r:=@Array.foldl_toList
abbrev e6s:=@Array.getElem?_map
abbrev e6t:=@Go.setRow_heap
abbrev e6u:=@List.eraseIdx_sublist
abbrev e6v:=@List.mem_filter
abbrev e6w:=@Int.add_zero
abbrev e6x:=@Array.toList_eraseIdx
abbrev e6z:=@List.flatMap_cons
abbrev e7a:=@Array.toList_push
abbrev e7b:=@Array.getElem?_range
abbrev e7c:=@List.extract_eq_take_drop
abbrev e7d:=@Go.wpIn_mono
abbrev e7e:=@List.getD_cons_succ
abbrev e7f:=@List.getD_cons_zero
abbrev e7g:=@Go.Sem.run_map
abbrev e7h:=@Go.run_firstCells_some
abbrev e7i:=@List.Sublist.append
abbrev e7j:=@Go.fenced_calm
abbrev e7k:=@Nat.sub_zero
abbrev e7l:=@List.map_map
abbrev e7m:=@Go.callsIn_wide
abbrev e7o:=@List.append_nil
abbrev e7r:=@Nat.two_pow_pos
abbrev e7s:=@Nat.mul_one
abbrev e7t:=@List.foldl_nil
abbrev e7v:=@Nat.add_comm
abbrev e7w:=@Nat.sub_self
abbrev e7x:=@Nat.mul_comm
abbrev e7y:=@Nat.zero_mul
abbrev e7z:=@Go.mem_ready
abbrev e8c:=@dif_pos
namespace Go.Px
open Go Go.RowKit
structure KT where
  ag:Bool
  n:Nat
  va:Bool
def zg (a:Int):Nat:=if 0<=a then 2*a.toNat else 2*(-a).toNat-1
def cod (a b:Int):Int:=(((zg a+zg b)*(zg a+zg b)+zg a:Nat):Int)
theorem c1r {a b:Int}(h:zg a=zg b):a=b:=by
 unfold zg at h
 split at h<;>split at h<;>omega
theorem d0d {a b c d:Nat}(h:(a+b)*(a+b)+a=(c+d)*(c+d)+c):a=c/\b=d:=by
 have key:∀{a b c d:Nat},a+b<c+d->(a+b)*(a+b)+a<(c+d)*(c+d)+c:=by
  intro a b c d h
  have h1:(a+b+1)*(a+b+1)<=(c+d)*(c+d):=e6o h h
  rw[Nat.mul_add,e1s]at h1
  omega
 rcases Nat.lt_trichotomy (a+b) (c+d)with h1|h1|h1
 ·have:=key h1;omega
 ·rw[h1]at h;omega
 ·have:=key h1;omega
theorem b0w {a b c d:Int}(h:cod a b=cod c d):a=c/\b=d:=by
 unfold cod at h
 obtain⟨h1,h2⟩:=d0d (Int.ofNat_inj.1 h)
 exact⟨c1r h1,c1r h2⟩
open Classical in
def dc1 (x:Int):Int:=if h:∃a b,x=cod a b then h.choose else 0
open Classical in
def dc2 (x:Int):Int:=if h:∃b a,x=cod a b then h.choose else 0
theorem qU (a b:Int):dc1 (cod a b)=a:=by
 have h:∃a' b',cod a b=cod a' b':=⟨a,b,rfl⟩
 unfold dc1
 rw[e8c h]
 obtain⟨b',hb⟩:=h.choose_spec
 exact(b0w hb).1.symm
theorem vM (a b:Int):dc2 (cod a b)=b:=by
 have h:∃b' a',cod a b=cod a' b':=⟨b,a,rfl⟩
 unfold dc2
 rw[e8c h]
 obtain⟨b',hb⟩:=h.choose_spec
 exact(b0w hb).2.symm
theorem b7d:dc1 0=0:=qU 0 0
theorem b7e:dc2 0=0:=vM 0 0
def eL (l:List Int):Value:= .agg (l.map (Value.int .i64)).toArray
def aJ (kt:KT)(l:List Int):Value:=match kt.ag with
  |true=>eL l
  |false=> .int .i64 (l.headD 0)
def jW (kt:KT)(x:Int):Value:=match kt.va with
  |true=>eL [dc1 x,dc2 x]
  |false=> .int .i64 x
structure MapOk (kt:KT)(m:List Int->Option Int)(es:Array MapEntry)(clock:Nat):Prop where
  wf:kt.ag=false->kt.n=1
  ent:∀e∈es.toList,∃k x,k.length=kt.n/\e.key=aJ kt k/\e.val=jW kt x/\m k=some x
  all:∀k x,m k=some x->k.length=kt.n/\∃e∈es.toList,e.key=aJ kt k
  nd:(es.toList.map (·.born)).Nodup
  lt:∀e∈es.toList,e.born<clock
  kn:(es.toList.map (·.key)).Nodup
inductive DV:Type
  |v (x:Value)
  |top
  |ag (n:Nat) (f:Nat->DV)
  |tp (n:Nat) (f:Nat->DV)
  |sl (t:Bool) (k n:Nat) (f:Nat->DV)
  |pt (x:DV) (off:Nat)
  |fn (g n m:Nat) (f c:Nat->DV)
  |mp (kt:KT) (m:List Int->Option Int)
instance:Inhabited DV:=⟨.top⟩
def one (S:Nat->Prop)(W:World)(p:Value->Prop)(b o:Nat):Prop:=S b/\∃u,W.cell? ⟨b,o,none⟩=some u/\p u/\u.oneCell'=true
def RR (S : Nat → Prop) (W : World) : DV → (Value → Prop) × (Nat → Nat → Prop)
  | .v x => (fun u => u = x, one S W fun u => u = x)
  | .top => (fun _ => True, fun _ _ => True)
  | .ag n f => (fun u => ∃ cs : Array Value, u = .agg cs ∧ cs.size = n ∧ ∀ j, j < n → (RR S W (f j)).1 (cs.getD j undef) ∧ (cs.getD j undef).oneCell' = true,
      fun b o => ∀ j, j < n → one S W (RR S W (f j)).1 b (o + j))
  | .tp n f => let p := fun u => ∃ cs : Array Value, u = .tuple cs ∧ cs.size = n ∧ ∀ j, j < n → (RR S W (f j)).1 (cs.getD j undef)
      (p, one S W p)
  | .sl t k n f => let p := fun u => ∃ (a : Option Addr) (cap : Nat), u = .slice a n cap ∧ n ≤ cap ∧ (t = true → cap = n) ∧ (a = none → cap = 0) ∧
        ∀ x, a = some x → ∀ i, i < n → x.spot = none ∧ (RR S W (f i)).2 x.block (x.off + i * k)
      (p, one S W p)
  | .pt x off => let p := fun u => ∃ b o, u = .pointer (some ⟨b, o + off, none⟩) ∧ (RR S W x).2 b o
      (p, one S W p)
  | .fn g n m f c => let p := fun u => ∃ fs cs : Array Value, u = .func (.func g) fs cs ∧ fs.size = n ∧ cs.size = m ∧ (∀ j, j < n → (RR S W (f j)).1 (fs.getD j undef)) ∧ ∀ j, j < m → (RR S W (c j)).1 (cs.getD j undef)
      (p, one S W p)
  | .mp kt m => let p := fun u => ∃ r es clock, u = .map (some r) ∧ S r ∧ W.heap[r]? = some (.map es clock) ∧ MapOk kt m es clock
      (p, one S W p)
def Rep (S:Nat->Prop)(W:World)(x:DV)(u:Value):Prop:=(RR S W x).1 u
def b6e (S:Nat->Prop)(W:World)(x:DV)(b o:Nat):Prop:=(RR S W x).2 b o
def fA (S:Nat->Prop)(W W':World):Prop:=∀b,S b->W'.heap[b]?=W.heap[b]?
theorem iP {S S':Nat->Prop}{W W':World}{p q:Value->Prop}(hS:∀b,S b->S' b)(hk:fA S W W')(hp:∀u,p u->q u){b o:Nat}(h:one S W p b o):one S' W' q b o:=by
 obtain⟨hb,u,hu,hpu,h1⟩:=h
 exact⟨hS b hb,u,(World.cell?_of_block (w:=W) (w':=W') (a:=⟨b,o,none⟩) (hk b hb)).trans hu,hp u hpu,h1⟩
theorem c1v {S S':Nat->Prop}{W W':World}(hS:∀b,S b->S' b)(hk:fA S W W')(x:DV):
  (∀u,(RR S W x).1 u->(RR S' W' x).1 u)/\(∀b o,(RR S W x).2 b o->(RR S' W' x).2 b o):=by
 induction x with
 |v x=>exact⟨λu h=>h,λb o h=>iP hS hk (λ_ h=>h) h⟩
 |top=>exact⟨λ_ h=>h,λ_ _ h=>h⟩
 |ag n f ih=>
  refine⟨?_,λb o h j hj=>iP hS hk (ih j).1 (h j hj)⟩
  rintro u ⟨cs,rfl,hs,hc⟩
  exact⟨cs,rfl,hs,λj hj=>⟨(ih j).1 _ (hc j hj).1,(hc j hj).2⟩⟩
 |tp n f ih=>
  have h1:∀u,(RR S W (.tp n f)).1 u->(RR S' W' (.tp n f)).1 u:=by
   rintro u ⟨cs,rfl,hs,hc⟩
   exact⟨cs,rfl,hs,λj hj=>(ih j).1 _ (hc j hj)⟩
  exact⟨h1,λb o h=>iP hS hk h1 h⟩
 |sl t k n f ih=>
  have h1:∀u,(RR S W (.sl t k n f)).1 u->(RR S' W' (.sl t k n f)).1 u:=by
   rintro u ⟨a,cap,rfl,hs,ht,hn,hc⟩
   exact⟨a,cap,rfl,hs,ht,hn,λx hx i hi=>⟨(hc x hx i hi).1,(ih i).2 _ _ (hc x hx i hi).2⟩⟩
  exact⟨h1,λb o h=>iP hS hk h1 h⟩
 |pt x off ih=>
  have h1:∀u,(RR S W (.pt x off)).1 u->(RR S' W' (.pt x off)).1 u:=by
   rintro u ⟨b,o,rfl,h⟩
   exact⟨b,o,rfl,ih.2 _ _ h⟩
  exact⟨h1,λb o h=>iP hS hk h1 h⟩
 |fn g n m f c ih1 ih2=>
  have h1:∀u,(RR S W (.fn g n m f c)).1 u->(RR S' W' (.fn g n m f c)).1 u:=by
   rintro u ⟨fs,cs,rfl,hs,hs',hf,hc⟩
   exact⟨fs,cs,rfl,hs,hs',λj hj=>(ih1 j).1 _ (hf j hj),λj hj=>(ih2 j).1 _ (hc j hj)⟩
  exact⟨h1,λb o h=>iP hS hk h1 h⟩
 |mp kt m=>
  have h1:∀u,(RR S W (.mp kt m)).1 u->(RR S' W' (.mp kt m)).1 u:=by
   rintro u ⟨r,es,clock,rfl,hr,he,ho⟩
   exact⟨r,es,clock,rfl,hS r hr,(hk r hr).trans he,ho⟩
  exact⟨h1,λb o h=>iP hS hk h1 h⟩
theorem Rep.mono {S S':Nat->Prop}{W W':World}(hS:∀b,S b->S' b)(hk:fA S W W'){x:DV}{u:Value}(h:Rep S W x u):Rep S' W' x u:=(c1v hS hk x).1 u h
def Imp (x y:DV):Prop:=∀S W,(∀u,Rep S W x u->Rep S W y u)/\(∀b o,b6e S W x b o->b6e S W y b o)
theorem lP {S:Nat->Prop}{W:World}{p q:Value->Prop}(hp:∀u,p u->q u){b o:Nat}(h:one S W p b o):one S W q b o:=by
 obtain⟨hb,u,hu,hpu,h1⟩:=h
 exact⟨hb,u,hu,hp u hpu,h1⟩
theorem Imp.refl (x:DV):Imp x x:=λ_ _=>⟨λ_ h=>h,λ_ _ h=>h⟩
abbrev _root_.e6y:=@Imp.refl
theorem Imp.of_eq {x y:DV}(h:x=y):Imp x y:=h▸e6y x
abbrev _root_.e7u:=@Imp.of_eq
theorem Imp.top (x:DV):Imp x .top:=λ_ _=>⟨λ_ _=>trivial,λ_ _ _=>trivial⟩
theorem Imp.ag {n m:Nat}{f g:Nat->DV}(hn:n=m)(h:∀j,j<n->Imp (f j) (g j)):Imp (.ag n f) (.ag m g):=by
 subst hn
 intro S W
 refine⟨?_,λb o hb j hj=>lP (h j hj S W).1 (hb j hj)⟩
 rintro u ⟨cs,rfl,hs,hc⟩
 exact⟨cs,rfl,hs,λj hj=>⟨(h j hj S W).1 _ (hc j hj).1,(hc j hj).2⟩⟩
theorem Imp.tp {n m:Nat}{f g:Nat->DV}(hn:n=m)(h:∀j,j<n->Imp (f j) (g j)):Imp (.tp n f) (.tp m g):=by
 subst hn
 intro S W
 have h1:∀u,Rep S W (.tp n f) u->Rep S W (.tp n g) u:=by
  rintro u ⟨cs,rfl,hs,hc⟩
  exact⟨cs,rfl,hs,λj hj=>(h j hj S W).1 _ (hc j hj)⟩
 exact⟨h1,λb o hb=>lP h1 hb⟩
theorem Imp.sl {t t':Bool}{k n m:Nat}{f g:Nat->DV}(ht:t'=true->t=true)(hn:n=m)(h:∀j,j<n->Imp (f j) (g j)):Imp (.sl t k n f) (.sl t' k m g):=by
 subst hn
 intro S W
 have h1:∀u,Rep S W (.sl t k n f) u->Rep S W (.sl t' k n g) u:=by
  rintro u ⟨a,cap,rfl,hs,hc,hn,hx⟩
  exact⟨a,cap,rfl,hs,λe=>hc (ht e),hn,λx e i hi=>⟨(hx x e i hi).1,(h i hi S W).2 _ _ (hx x e i hi).2⟩⟩
 exact⟨h1,λb o hb=>lP h1 hb⟩
theorem Imp.sl0 {t t':Bool}{k k':Nat}{f g:Nat->DV}(ht:t'=true->t=true):Imp (.sl t k 0 f) (.sl t' k' 0 g):=by
 intro S W
 have h1:∀u,Rep S W (.sl t k 0 f) u->Rep S W (.sl t' k' 0 g) u:=by
  rintro u ⟨a,cap,rfl,hs,hc,hn,hx⟩
  exact⟨a,cap,rfl,hs,λe=>hc (ht e),hn,λx e i hi=>absurd hi (e3i i)⟩
 exact⟨h1,λb o hb=>lP h1 hb⟩
theorem Imp.nil {t:Bool}{k:Nat}{f:Nat->DV}:Imp (.v (.slice none 0 0)) (.sl t k 0 f):=by
 intro S W
 have h1:∀u,Rep S W (.v (.slice none 0 0)) u->Rep S W (.sl t k 0 f) u:=by
  rintro u rfl
  exact⟨none,0,rfl,e0g _,λ_=>rfl,λ_=>rfl,λx e=>by cases e⟩
 exact⟨h1,λb o hb=>lP h1 hb⟩
theorem Imp.pt {x y:DV}{o o':Nat}(ho:o=o')(h:Imp x y):Imp (.pt x o) (.pt y o'):=by
 subst ho
 intro S W
 have h1:∀u,Rep S W (.pt x o) u->Rep S W (.pt y o) u:=by
  rintro u ⟨b,p,rfl,hx⟩
  exact⟨b,p,rfl,(h S W).2 _ _ hx⟩
 exact⟨h1,λb o hb=>lP h1 hb⟩
theorem Imp.fn {g n m:Nat}{f c f' c':Nat->DV}(hf:∀j,j<n->Imp (f j) (f' j))(hc:∀j,j<m->Imp (c j) (c' j)):Imp (.fn g n m f c) (.fn g n m f' c'):=by
 intro S W
 have h1:∀u,Rep S W (.fn g n m f c) u->Rep S W (.fn g n m f' c') u:=by
  rintro u ⟨fs,cs,rfl,hs,hs',h1,h2⟩
  exact⟨fs,cs,rfl,hs,hs',λj hj=>(hf j hj S W).1 _ (h1 j hj),λj hj=>(hc j hj S W).1 _ (h2 j hj)⟩
 exact⟨h1,λb o hb=>lP h1 hb⟩
theorem Imp.mp {kt:KT}{m m':List Int->Option Int}(h:∀k,m k=m' k):Imp (.mp kt m) (.mp kt m'):=e7u (by rw[show m=m' from funext h])
def fQ {α:Type}(k:Nat)(enc:α->DV)(d:α)(xs:List α):DV:= .sl false k xs.length λi=>enc (xs.getD i d)
def st (l:List DV):DV:= .ag l.length λj=>l.getD j .top
def tpl (l:List DV):DV:= .tp l.length λj=>l.getD j .top
def int (x:Int):DV:= .v (.int .i64 x)
def bool (b:Bool):DV:= .v (.bool b)
def ints (xs:List Int):DV:=fQ 1 int 0 xs
def d6p (S:Nat->Prop)(w:World)(res:DV)(e:Ending)(w':World):Prop:=
  ∃v S',e= .returned v/\Rep S' w' res v/\(∀b,S b->S' b)/\(∀b,S' b->S b\/(w.heap.size<=b/\b<w'.heap.size))/\Below w.heap.size w w'
def gI (S:Nat->Prop)(w:World):List DV->List Value->Prop
  |[],[]=>True
  |x::xs,u::us=>Rep S w x u/\gI S w xs us
  |_,_=>False
def Ent (P:Program)(f:Nat):Prop:=∀args w,(callFunc f args).run P w= .ok (.enter f args) w
def Fn (P:Program)(f:Nat)(args:List DV)(res:DV):Prop:=
  Ent P f/\∀(S:Nat->Prop) (w:World) (vals:List Value),(∀b,S b->b<w.heap.size)->gI S w args vals->Calls P f vals.toArray w (d6p S w res)
theorem gI.mono {S S':Nat->Prop}{W W':World}(hS:∀b,S b->S' b)(hk:fA S W W'):∀{xs:List DV} {us:List Value},gI S W xs us->gI S' W' xs us
 |[],[],_=>trivial
 |_::_,_::_,h=>⟨h.1.mono hS hk,gI.mono hS hk h.2⟩
def c6i:List DV->List DV->Prop
  |[],[]=>True
  |x::xs,y::ys=>Imp x y/\c6i xs ys
  |_,_=>False
theorem gI.imp {S:Nat->Prop}{w:World}:∀{xs ys:List DV} {us:List Value},c6i xs ys->gI S w xs us->gI S w ys us
 |[],[],[],_,_=>trivial
 |_::_,_::_,_::_,h,k=>⟨(h.1 S w).1 _ k.1,gI.imp h.2 k.2⟩
theorem Fn.imp {P:Program}{f:Nat}{args args':List DV}{res res':DV}(h:Fn P f args res)(ha:c6i args' args)(hr:Imp res res'):Fn P f args' res':=
 ⟨h.1,λS w vals hS hv=>(h.2 S w vals hS (gI.imp ha hv)).mono λ_ w' ⟨v,S',he,hR,h1,h2,h3⟩=>⟨v,S',he,(hr S' w').1 _ hR,h1,h2,h3⟩⟩
def DV.flat:DV->Bool
  | .v _=>true
  | .top=>true
  | .ag n f=>(List.range n).all λj=>(f j).flat
  | .tp n f=>(List.range n).all λj=>(f j).flat
  |_=>false
inductive AV:Type
  |d (x:DV)
  |ref (id off:Nat)
  |el (id k i off:Nat)
  |ms (id k off n:Nat)
  |ag (n:Nat) (f:Nat->AV)
  |fn (g n m:Nat) (f c:Nat->AV)
  |mp (id:Nat)
  |tp (n:Nat) (f:Nat->AV)
  |sub (id k i:Nat)
  |stp (id:Nat)
instance:Inhabited AV:=⟨.d .top⟩
inductive Res:Type
  |cs (mt:Bool) (n:Nat) (f:Nat->AV)
  |row (mt:Bool) (T k n:Nat) (f:Nat->DV)
  |mp (mt:Bool) (kt:KT) (m:List Int->Option Int)
  |it (mt:Bool) (kt:KT) (m:List Int->Option Int) (seen:List (List Int)) (cur:Option (List Int×Int))
  |me (mt:Bool) (kt:KT) (m:List Int->Option Int) (l:List Int) (g:Nat)
structure St where
  n:Nat
  next:Nat
  tm:Nat->AV
  hp:Nat->Option Res
  gh:Option Nat
inductive Loc
  |un|nil|at(b:Nat)
structure Env where
  S:Nat->Prop
  ρ:Nat->Loc
  D:List Nat
structure Stp (own:Nat->Prop)(W W':World):Prop where
  os:W'.os=W.os
  tape:W'.tape=W.tape
  output:W'.output=W.output
  size:W.heap.size<=W'.heap.size
  block:∀k,k<W.heap.size->¬own k->W'.heap[k]?=W.heap[k]?
  sh:∀(b:Nat) (c:Array Value) (T:TypeId),W.heap[b]?=some (Obj.cells c T (0,0))->∃c':Array Value,W'.heap[b]?=some (Obj.cells c' T (0,0))/\c'.size=c.size
structure Base where
  ow:Nat->Prop
  S0:Nat->Prop
  ρ0:Nat->Loc
  G:World->Prop
  hG:∀W W',G W->Stp ow W W'->G W'
  how:∀W,G W->∀b,W.heap.size<=b->ow b
def aK (E:Env)(W:World):AV->Value->Prop
  | .d x,u=>Rep E.S W x u
  | .ref id off,u=>∃b,E.ρ id= .at b/\u= .pointer (some ⟨b,off,none⟩)
  | .el id k i off,u=>∃b,E.ρ id= .at b/\u= .pointer (some ⟨b,i*k+off,none⟩)
  | .ms id k off n,u=>(E.ρ id= .nil/\n=0/\u= .slice none 0 0)\/
      ∃b o cap c T,E.ρ id= .at b/\u= .slice (some ⟨b,o,none⟩) n cap/\n<=cap/\cap<=maxLen/\W.heap[b]?=some (.cells c T (0,0))/\((o=off*k/\(off+cap)*k<=c.size)\/(n=0/\cap=0))
  | .ag n f,u=>∃cs:Array Value,u= .agg cs/\cs.size=n/\∀j,j<n->aK E W (f j) (cs.getD j undef)/\(cs.getD j undef).oneCell'=true
  | .fn g n m f c,u=>∃fs cs:Array Value,u= .func (.func g) fs cs/\fs.size=n/\cs.size=m/\(∀j,j<n->aK E W (f j) (fs.getD j undef))/\∀j,j<m->aK E W (c j) (cs.getD j undef)
  | .mp id,u=>∃b,E.ρ id= .at b/\u= .map (some b)
  | .tp n f,u=>∃cs:Array Value,u= .tuple cs/\cs.size=n/\∀j,j<n->aK E W (f j) (cs.getD j undef)
  | .sub id k i,u=>∃b,E.ρ id= .at b/\u= .slice (some ⟨b,i*k,none⟩) k k
  | .stp id,u=>∃b:Nat,E.ρ id= .at b/\u= .int .i64 b
def pD (S:Nat->Prop)(W:World)(k:Nat)(x:DV)(c:Nat->Value):Prop:=
  match x with
  | .ag n f=>n=k/\∀j,j<n->Rep S W (f j) (c j)
  | .top=>True
  |x=>k=1/\Rep S W x (c 0)
def Own (B:Base)(E:Env)(mt:Bool)(b:Nat):Prop:=if mt then¬E.S b/\B.ow b else E.S b
def jV (m:List Int->Option Int)(l:List Int)(x:Int):List Int->Option Int:=λj=>if j=l then some x else m j
def SatR (B:Base)(E:Env)(W:World)(id:Nat):Res->Prop
  | .cs mt n f=>∃b c T,E.ρ id= .at b/\W.heap[b]?=some (.cells c T (0,0))/\c.size=n/\Own B E mt b/\∀j,j<n->aK E W (f j) (c.getD j undef)/\(c.getD j undef).oneCell'=true
  | .row mt T k n f=>(E.ρ id= .nil/\n=0)\/
      ∃b c,E.ρ id= .at b/\W.heap[b]?=some (.cells c T (0,0))/\n*k<=c.size/\Own B E mt b/\∀i,i<n->pD E.S W k (f i) (λj=>c.getD (i*k+j) undef)/\∀j,j<k->(c.getD (i*k+j) undef).oneCell'=true
  | .mp mt kt m=>∃b es clock,E.ρ id= .at b/\W.heap[b]?=some (.map es clock)/\Own B E mt b/\MapOk kt m es clock
  | .it mt kt m seen cur=>∃(b r:Nat) (es:Array MapEntry) (clock:Nat) (sn:Array Nat),E.ρ id= .at b/\W.heap[b]?=some (.mapIter (some r) clock sn clock)/\Own B E mt b/\E.S r/\W.heap[r]?=some (.map es clock)/\MapOk kt m es clock/\
      (∀e∈es.toList,e.born∈sn↔∃k∈seen,k.length=kt.n/\e.key=aJ kt k)/\
      ∀k x,cur=some (k,x)->k.length=kt.n/\∃(e:MapEntry) (sn':Array Nat),sn=sn'.push e.born/\e∈es.toList/\e.key=aJ kt k/\e.val=jW kt x
  | .me mt kt m l g=>∃b es clock,E.ρ id= .at b/\W.heap[b]?=some (.map es clock)/\Own B E mt b/\MapOk kt (jV m l ((m l).getD 0)) es clock/\l.length=kt.n/\∃e∈es.toList,e.key=aJ kt l/\E.ρ g= .at e.born
def mark (D:Nat):Deferred:={target:= .collected D,args:= #[]}
structure Sat (B:Base)(Fr:Nat->Prop)(E:Env)(st:St)(a:Act)(W:World):Prop where
  size:a.tmps.size=st.n
  tm:∀i,i<st.n->aK E W (st.tm i) (a.tmps.getD i undef)
  hp:∀id r,st.hp id=some r->SatR B E W id r
  dist:∀i j b,st.hp i≠none->st.hp j≠none->E.ρ i= .at b->E.ρ j= .at b->i=j
  fr:∀id,Fr id->E.ρ id= .un
  sub:∀b,B.S0 b->E.S b
  sup:∀b,E.S b->B.S0 b\/(B.ow b/\b<W.heap.size)
  s0:∀b,B.S0 b->¬B.ow b/\b<W.heap.size
  df:a.defers=E.D.map mark
  dn:E.D.Nodup
  dd:∀D,D∈E.D->B.ow D/\¬E.S D/\W.heap[D]?=some (.deferred (some []))
  g:B.G W
  r0:∀id,B.ρ0 id≠ .un->E.ρ id=B.ρ0 id
theorem Stp.refl (own:Nat->Prop)(W:World):Stp own W W:=⟨rfl,rfl,rfl,e0g _,λ_ _ _=>rfl,λ_ c _ h=>⟨c,h,rfl⟩⟩
theorem Stp.trans {own:Nat->Prop}{A W C:World}(h:Stp own A W)(k:Stp own W C):Stp own A C:=
 ⟨k.os.trans h.os,k.tape.trans h.tape,k.output.trans h.output,e2h h.size k.size,λi hi ho=>(k.block i (e1g hi h.size) ho).trans (h.block i hi ho),λb c T hb=>by
  obtain⟨c1,h1,h2⟩:=h.sh b c T hb
  obtain⟨c2,h3,h4⟩:=k.sh b c1 T h1
  exact⟨c2,h3,h4.trans h2⟩⟩
theorem Stp.of_below {own:Nat->Prop}{W W':World}(h:Below W.heap.size W W'):Stp own W W':=⟨h.os,h.tape,h.output,h.size,λk hk _=>h.block k hk,λb c _ hb=>⟨c,(h.block b (d9w.1 hb).1).trans hb,rfl⟩⟩
structure Ev (E:Env)(W:World)(E':Env)(W':World):Prop where
  s:∀b,E.S b->E'.S b
  k:fA E.S W W'
  r:∀id,E.ρ id≠ .un->E'.ρ id=E.ρ id
  sh:∀(b:Nat) (c:Array Value) (T:TypeId),W.heap[b]?=some (Obj.cells c T (0,0))->∃c':Array Value,W'.heap[b]?=some (Obj.cells c' T (0,0))/\c'.size=c.size
theorem Ev.refl (E:Env)(W:World):Ev E W E W:=⟨λ_ h=>h,λ_ _=>rfl,λ_ _=>rfl,λ_ c _ h=>⟨c,h,rfl⟩⟩
theorem aK.ev {E E':Env}{W W':World}(h:Ev E W E' W'):∀{x:AV} {u:Value},aK E W x u->aK E' W' x u:=by
 intro x
 induction x with
 |d x=>exactλhx=>Rep.mono h.s h.k hx
 |ref id off=>rintro u ⟨b,hb,rfl⟩;exact⟨b,(h.r id (by rw[hb];simp)).trans hb,rfl⟩
 |el id k i off=>rintro u ⟨b,hb,rfl⟩;exact⟨b,(h.r id (by rw[hb];simp)).trans hb,rfl⟩
 |ms id k off n=>
  rintro u (⟨hb,hn,rfl⟩|⟨b,o,cap,c,T,hb,rfl,hn,hm,hc,hs⟩)
  ·exact .inl ⟨(h.r id (by rw[hb];simp)).trans hb,hn,rfl⟩
  ·obtain⟨c',hc',hs'⟩:=h.sh b c T hc
   exact .inr ⟨b,o,cap,c',T,(h.r id (by rw[hb];simp)).trans hb,rfl,hn,hm,hc',by rw[hs'];exact hs⟩
 |ag n f ih=>rintro u ⟨cs,rfl,hs,hc⟩;exact⟨cs,rfl,hs,λj hj=>⟨ih j (hc j hj).1,(hc j hj).2⟩⟩
 |fn g n m f c ih1 ih2=>rintro u ⟨fs,cs,rfl,h1,h2,h3,h4⟩;exact⟨fs,cs,rfl,h1,h2,λj hj=>ih1 j (h3 j hj),λj hj=>ih2 j (h4 j hj)⟩
 |mp id=>rintro u ⟨b,hb,rfl⟩;exact⟨b,(h.r id (by rw[hb];simp)).trans hb,rfl⟩
 |tp n f ih=>rintro u ⟨cs,rfl,hs,hc⟩;exact⟨cs,rfl,hs,λj hj=>ih j (hc j hj)⟩
 |sub id k i=>rintro u ⟨b,hb,rfl⟩;exact⟨b,(h.r id (by rw[hb];simp)).trans hb,rfl⟩
 |stp id=>rintro u ⟨b,hb,rfl⟩;exact⟨b,(h.r id (by rw[hb];simp)).trans hb,rfl⟩
theorem pD.ev {E E':Env}{W W':World}(h:Ev E W E' W'){k:Nat}{x:DV}{c:Nat->Value}(hc:pD E.S W k x c):pD E'.S W' k x c:=by
 unfold pD at*
 split
 ·rename_i n f
  exact⟨hc.1,λj hj=>Rep.mono h.s h.k (hc.2 j hj)⟩
 ·trivial
 ·rename_i x h1 h2
  revert hc
  split
  ·rename_i n f;exact absurd rfl (h1 n f)
  ·exact absurd rfl h2
  ·exactλhc=>⟨hc.1,Rep.mono h.s h.k hc.2⟩
theorem SatR.ev {B:Base}{E E':Env}{W W':World}(h:Ev E W E' W'){id:Nat}{r:Res}(hr:SatR B E W id r)
  (hb:∀b,E.ρ id= .at b->W'.heap[b]?=W.heap[b]?) (ho:∀b,E.ρ id= .at b->b<W.heap.size->¬E.S b->¬E'.S b):SatR B E' W' id r:=by
 cases r with
 |cs mt n f=>
  obtain⟨b,c,T,h1,h2,h3,h4,h5⟩:=hr
  refine⟨b,c,T,(h.r id (by rw[h1];simp)).trans h1,(hb b h1).trans h2,h3,?_,λj hj=>⟨(h5 j hj).1.ev h,(h5 j hj).2⟩⟩
  unfold Own at*
  split
  ·rename_i hm;rw[e0c hm]at h4;exact⟨ho b h1 (d9w.1 h2).1 h4.1,h4.2⟩
  ·rename_i hm;rw[d9z hm]at h4;exact h.s b h4
 |row mt T k n f=>
  rcases hr with⟨h1,h2⟩|⟨b,c,h1,h2,h3,h4,h5⟩
  ·exact .inl ⟨(h.r id (by rw[h1];simp)).trans h1,h2⟩
  ·refine .inr ⟨b,c,(h.r id (by rw[h1];simp)).trans h1,(hb b h1).trans h2,h3,?_,λi hi=>⟨(h5 i hi).1.ev h,(h5 i hi).2⟩⟩
   unfold Own at*
   split
   ·rename_i hm;rw[e0c hm]at h4;exact⟨ho b h1 (d9w.1 h2).1 h4.1,h4.2⟩
   ·rename_i hm;rw[d9z hm]at h4;exact h.s b h4
 |mp mt kt m=>
  obtain⟨b,es,clock,h1,h2,h4,h5⟩:=hr
  refine⟨b,es,clock,(h.r id (by rw[h1];simp)).trans h1,(hb b h1).trans h2,?_,h5⟩
  unfold Own at*
  split
  ·rename_i hm;rw[e0c hm]at h4;exact⟨ho b h1 (d9w.1 h2).1 h4.1,h4.2⟩
  ·rename_i hm;rw[d9z hm]at h4;exact h.s b h4
 |me mt kt m l born=>
  obtain⟨b,es,clock,h1,h2,h4,h5,h6,e,h7,h8,h9⟩:=hr
  refine⟨b,es,clock,(h.r id (by rw[h1];simp)).trans h1,(hb b h1).trans h2,?_,h5,h6,e,h7,h8,(h.r _ (by rw[h9];simp)).trans h9⟩
  unfold Own at*
  split
  ·rename_i hm;rw[e0c hm]at h4;exact⟨ho b h1 (d9w.1 h2).1 h4.1,h4.2⟩
  ·rename_i hm;rw[d9z hm]at h4;exact h.s b h4
 |it mt kt m seen cur=>
  obtain⟨b,r,es,clock,sn,h1,h2,h4,h5,h6,h7⟩:=hr
  refine⟨b,r,es,clock,sn,(h.r id (by rw[h1];simp)).trans h1,(hb b h1).trans h2,?_,h.s r h5,(h.k r h5).trans h6,h7⟩
  unfold Own at*
  split
  ·rename_i hm;rw[e0c hm]at h4;exact⟨ho b h1 (d9w.1 h2).1 h4.1,h4.2⟩
  ·rename_i hm;rw[d9z hm]at h4;exact h.s b h4
theorem Ev.r0 {B:Base}{E E':Env}{W W':World}(h:Ev E W E' W')(h0:∀id,B.ρ0 id≠ .un->E.ρ id=B.ρ0 id):∀id,B.ρ0 id≠ .un->E'.ρ id=B.ρ0 id:=
 λid hid=>(h.r id (by rw[h0 id hid];exact hid)).trans (h0 id hid)
def St.put (st:St)(dst:Option Nat)(x:AV):St:=
  match dst with
  |some d=>St.rec (motive:=λ_=>St) (λn nx tm hp gh=>⟨n,nx,λj=>bif Nat.beq j d then x else tm j,hp,gh⟩) st
  |none=>st
theorem Sat.put {B:Base}{Fr:Nat->Prop}{E:Env}{st:St}{a:Act}{W:World}(h:Sat B Fr E st a W)(dst:Option Nat){x:AV}{u:Value}(hx:aK E W x u):
  Sat B Fr E (st.put dst x) (a.put dst u) W:=by
 cases dst with
 |none=>exact h
 |some d=>
  refine⟨?_,?_,h.hp,h.dist,h.fr,h.sub,h.sup,h.s0,h.df,h.dn,h.dd,h.g,h.r0⟩
  ·show(a.tmps.setIfInBounds d u).size=st.n
   rw[e2i];exact h.size
  ·intro i hi
   have hi':i<a.tmps.size:=by rw[h.size];exact hi
   show aK E W (bif Nat.beq i d then x else st.tm i) ((a.tmps.setIfInBounds d u).getD i undef)
   by_cases e:i=d
   ·subst e
    have:(a.tmps.setIfInBounds i u).getD i undef=u:=by simp[Array.getD,hi']
    rw[this,show Nat.beq i i=true from e3k i];exact hx
   ·have e2:(a.tmps.setIfInBounds d u).getD i undef=a.tmps.getD i undef:=by
     simp only[d9x]
     rw[e3t (λh=>e h.symm)]
    have e3:Nat.beq i d=false:=by cases hb:Nat.beq i d with
     |false=>rfl
     |true=>exact absurd (d9s hb) e
    rw[e2,e3];exact h.tm i hi
theorem Sat.go {B:Base}{Fr:Nat->Prop}{E E':Env}{st:St}{a:Act}{W W':World}(h:Sat B Fr E st a W)(he:Ev E W E' W')
   (hb:∀id b,st.hp id≠none->E.ρ id= .at b->W'.heap[b]?=W.heap[b]?) (ho:∀id b,st.hp id≠none->E.ρ id= .at b->b<W.heap.size->¬E.S b->¬E'.S b)
   (hr:∀id,E'.ρ id=E.ρ id) (hsup:∀b,E'.S b->B.S0 b\/(B.ow b/\b<W'.heap.size)) (hD:E'.D=E.D)
   (hdd:∀D,D∈E.D->W'.heap[D]?=W.heap[D]?/\¬E'.S D) (hst:Stp B.ow W W'):Sat B Fr E' st a W':=
 ⟨h.size,λi hi=>(h.tm i hi).ev he,λid r hid=>(h.hp id r hid).ev he (λb=>hb id b (by rw[hid];simp)) (λb=>ho id b (by rw[hid];simp)),
  λi j b hi hj h1 h2=>h.dist i j b hi hj (by rw[<-hr];exact h1) (by rw[<-hr];exact h2),λid hid=>by rw[hr];exact h.fr id hid,λb hb'=>he.s b (h.sub b hb'),hsup,λb hb'=>⟨(h.s0 b hb').1,e1g (h.s0 b hb').2 hst.size⟩,
  by rw[hD];exact h.df,by rw[hD];exact h.dn,λD hD'=>by
   rw[hD]at hD'
   obtain⟨h1,h2,h3⟩:=h.dd D hD'
   exact⟨h1,(hdd D hD').2,(hdd D hD').1.trans h3⟩,B.hG W W' h.g hst,λid hid=>(hr id).trans (h.r0 id hid)⟩
theorem Ev.below {E:Env}{W W':World}(hS:∀b,E.S b->b<W.heap.size)(hb:Below W.heap.size W W'):Ev E W E W':=
 ⟨λ_ h=>h,λb h=>hb.block b (hS b h),λ_ _=>rfl,λb c _ h=>⟨c,(hb.block b (d9w.1 h).1).trans h,rfl⟩⟩
theorem Sat.S_lt {B:Base}{Fr:Nat->Prop}{E:Env}{st:St}{a:Act}{W:World}(h:Sat B Fr E st a W):∀b,E.S b->b<W.heap.size:=by
 intro b hb
 rcases h.sup b hb with h1|h1
 ·exact(h.s0 b h1).2
 ·exact h1.2
theorem Sat.at_lt {B:Base}{Fr:Nat->Prop}{E:Env}{st:St}{a:Act}{W:World}(h:Sat B Fr E st a W){id b:Nat}(hi:st.hp id≠none)(hb:E.ρ id= .at b):b<W.heap.size:=by
 cases hr:st.hp id with
 |none=>exact absurd hr hi
 |some r=>
  have:=h.hp id r hr
  cases r with
  |cs mt n f=>obtain⟨b',c,T,h1,h2,_⟩:=this;rw[hb]at h1;cases h1;exact(d9w.1 h2).1
  |row mt T k n f=>
   rcases this with⟨h1,_⟩|⟨b',c,h1,h2,_⟩
   ·rw[hb]at h1;cases h1
   ·rw[hb]at h1;cases h1;exact(d9w.1 h2).1
  |mp mt kt m=>obtain⟨b',es,c,h1,h2,_⟩:=this;rw[hb]at h1;cases h1;exact(d9w.1 h2).1
  |it mt kt m seen cur=>obtain⟨b',r,es,c,sn,h1,h2,_⟩:=this;rw[hb]at h1;cases h1;exact(d9w.1 h2).1
  |me mt kt m l born=>obtain⟨b',es,c,h1,h2,_⟩:=this;rw[hb]at h1;cases h1;exact(d9w.1 h2).1
theorem Sat.below {B:Base}{Fr:Nat->Prop}{E:Env}{st:St}{a:Act}{W W':World}(h:Sat B Fr E st a W)(hb:Below W.heap.size W W'):Sat B Fr E st a W':=
 h.go (Ev.below h.S_lt hb) (λ_ b hi hr=>hb.block b (h.at_lt hi hr)) (λ_ _ _ _ _ hn=>hn) (λ_=>rfl)
  (λb hS=>(h.sup b hS).imp id λx=>⟨x.1,e1g x.2 hb.size⟩) rfl
  (λD hD=>⟨hb.block D (d9w.1 (h.dd D hD).2.2).1,(h.dd D hD).2.1⟩) (.of_below hb)
theorem Sat.drew {B:Base}{Fr:Nat->Prop}{E:Env}{st:St}{a:Act}{W:World}(h:Sat B Fr E st a W):Sat B Fr E st a W.drew:=h.below (e5p _ W).drew
theorem keyV_inj {kt:KT}(hw:kt.ag=false->kt.n=1){k k':List Int}(h1:k.length=kt.n)(h2:k'.length=kt.n)(h:aJ kt k=aJ kt k'):k=k':=by
 unfold aJ at h
 cases hg:kt.ag with
 |true=>
  rw[hg]at h
  simp only[eL,Value.agg.injEq]at h
  have:=e2r Array.toList h
  simp only[List.map_inj_right (f:=Value.int .i64) (λa b e=>by cases e;rfl)]at this
  exact this
 |false=>
  rw[hg]at h
  have hn:=hw hg
  rw[hn]at h1 h2
  obtain⟨x,rfl⟩:=e2q.1 h1
  obtain⟨y,rfl⟩:=e2q.1 h2
  simp at h
  rw[h]
structure EqT (P:Program)(t n:Nat):Prop where
  gd:P.eqGuardType P.depth t=false
  eq:∀(l l':List Int) w,l.length=n->l'.length=n->(Op.equalIn 10000 t (eL l) (eL l')).run P w= .ok (decide (l=l')) w
structure KeyOk (P:Program)(kT:Nat)(kt:KT):Prop where
  wf:kt.ag=false->kt.n=1
  chk:∀(em:Bool) (k:List Int) w,k.length=kt.n->(Instr.checkKey em 10000 kT (aJ kt k)).run P w= .ok () w
  fnd:∀(k:List Int) (es:List MapEntry) w,k.length=kt.n->(∀e∈es,∃k':List Int,k'.length=kt.n/\e.key=aJ kt k')->
    ((Instr.findKey kT (aJ kt k) es).run P w= .ok none w/\∀e∈es,e.key≠aJ kt k)\/
    ∃(j:Nat) (e:MapEntry),(Instr.findKey kT (aJ kt k) es).run P w= .ok (some (j,e.val)) w/\es[j]?=some e/\e.key=aJ kt k
def d1e (P:Program)(t:Nat)(kt:KT):Prop:=
  ∃kT eT,P.underlying t=some (.map kT eT)/\KeyOk P kT kt/\∀w,(zeroValue eT).run P w= .ok (jW kt 0) w
structure TI where
  d:TypeDesc
  z:Value
  size:Nat
  bytes:Nat
  qe:Option Nat
  mp:Option KT
def TI.agg (ti:TI):Bool:=match ti.d with| .struct _| .array _ _=>true|_=>false
structure TOk (P:Program)(ti:TI)(t:Nat):Prop where
  u:P.underlying t=some ti.d
  i:(P.info? t).map (λi=>(i.zero,i.size,i.bytes))=some (some ti.z,ti.size,ti.bytes)
  zs:ti.z.cells.size=ti.size
  z1:∀u∈ti.z.cells,u.oneCell'=true
  z0:ti.agg=false->ti.size=1/\ti.z.oneCell'=true
  qe:∀n,ti.qe=some n->EqT P t n
  mp:∀kt,ti.mp=some kt->d1e P t kt
def bQ (P:Program)(T:Nat->Option TI):Prop:=∀t ti,T t=some ti->TOk P ti t
section runs
variable {P:Program} {ti:TI} {t:Nat}
theorem TOk.info (h:TOk P ti t):∃i,P.info? t=some i/\i.zero=some ti.z/\i.size=ti.size/\i.bytes=ti.bytes:=by
 have:=h.i
 cases hi:P.info? t with
 |none=>rw[hi]at this;cases this
 |some i=>
  rw[hi]at this
  simp only[e1y,e0a,e0i]at this
  exact⟨i,rfl,this.1,this.2.1,this.2.2⟩
theorem TOk.und (h:TOk P ti t)(w:World):(underlying t).run P w= .ok ti.d w:=e0k h.u w
theorem TOk.sizeOf (h:TOk P ti t)(w:World):(sizeOf t).run P w= .ok ti.size w:=by
 obtain⟨i,hi,_,hs,_⟩:=h.info
 simp[Go.sizeOf,typeInfo,hi,hs]
theorem TOk.zeroValue (h:TOk P ti t)(w:World):(zeroValue t).run P w= .ok ti.z w:=by
 obtain⟨i,hi,hz,_,_⟩:=h.info
 simp[Go.zeroValue,Go.typeInfo,hi,hz]
theorem TOk.isAgg (h:TOk P ti t)(w:World):(isAgg t).run P w= .ok ti.agg w:=by
 simp only[Go.isAgg,d9t,h.und,d9q,TI.agg]
 split<;>rename_i h1<;>simp_all
end runs
def cv (v:Value):AV:=
  match v with
  | .agg cs=>bif cs.toList.all Value.oneCell' then .d (.ag cs.size λj=> .v (cs.getD j undef))else .d .top
  |x=> .d (.v x)
def St.ev (st:St):Operand->AV
  | .tmp t=>bif Nat.blt t st.n then st.tm t else .d .top
  | .const v=>cv v
  | .global _=> .d .top
  | .func f=> .d (.fn f 0 0 (λ_=> .top) (λ_=> .top))
theorem aG {a b:Nat}:Nat.blt a b=true↔a<b:=by
 constructor
 ·intro h;exact e1n h
 ·intro h;exact e4c h
theorem aK.cv {E:Env}{W:World}(v:Value):aK E W (cv v) v:=by
 unfold Px.cv
 split
 ·rename_i cs
  cases hc:cs.toList.all Value.oneCell' with
  |false=>exact trivial
  |true=>
   refine⟨cs,rfl,rfl,λj hj=>⟨rfl,?_⟩⟩
   have:=e1d.1 hc cs[j] (by simp)
   rw[d9x,e0y hj]
   simpa using this
 ·rename_i x h
  show Rep E.S W (.v v) v
  rfl
theorem Sat.ev {B:Base}{Fr:Nat->Prop}{E:Env}{st:St}{a:Act}{W:World}(h:Sat B Fr E st a W)(x:Operand):aK E W (st.ev x) (a.eval x):=by
 cases x with
 |tmp t=>
  show aK E W (bif Nat.blt t st.n then st.tm t else .d .top) (a.tmps.getD t undef)
  cases hb:Nat.blt t st.n with
  |false=>exact trivial
  |true=>exact h.tm t (aG.1 hb)
 |const v=>exact aK.cv v
 |global g=>exact trivial
 |func f=>exact⟨#[],#[],rfl,rfl,rfl,λj hj=>absurd hj (e3i j),λj hj=>absurd hj (e3i j)⟩
def a3u:Value->Bool
  | .agg _| .tuple _=>false
  |_=>true
def a7n:AV->Bool
  | .d (.v x)=>a3u x
  | .d (.sl ..)| .d (.pt ..)| .d (.fn ..)| .d (.mp ..)=>true
  | .d _=>false
  | .ag ..=>false
  | .tp ..=>false
  |_=>true
theorem aK.one {E:Env}{W:World}{x:AV}{u:Value}(h:aK E W x u)(h1:a7n x=true):u.oneCell'=true:=by
 cases x with
 |d x=>
  cases x with
  |v x=>cases(show u=x from h);cases u<;>first|rfl|exact h1
  |top=>cases h1
  |ag n f=>cases h1
  |tp n f=>cases h1
  |sl t k n f=>obtain⟨a,cap,rfl,_⟩:=h;rfl
  |pt x o=>obtain⟨b,o,rfl,_⟩:=h;rfl
  |fn g n m f c=>obtain⟨a,b,rfl,_⟩:=h;rfl
  |mp kt m=>obtain⟨r,es,c,rfl,_⟩:=h;rfl
 |ref id off=>obtain⟨b,_,rfl⟩:=h;rfl
 |el id k i off=>obtain⟨b,_,rfl⟩:=h;rfl
 |ms id k off n=>
  rcases h with⟨_,_,rfl⟩|⟨b,o,cap,c,T,_,rfl,_⟩<;>rfl
 |ag n f=>cases h1
 |fn g n m f c=>obtain⟨a,b,rfl,_⟩:=h;rfl
 |mp id=>obtain⟨b,_,rfl⟩:=h;rfl
 |tp n f=>cases h1
 |sub id k i=>obtain⟨b,_,rfl⟩:=h;rfl
 |stp id=>obtain⟨b,_,rfl⟩:=h;rfl
def inR:IntKind->Int->Prop
  | .i8,x=> -128<=x/\x<=127
  | .i16,x=> -32768<=x/\x<=32767
  | .i32,x=> -2147483648<=x/\x<=2147483647
  | .i64,x=> -9223372036854775808<=x/\x<=9223372036854775807
  | .u8,x=>0<=x/\x<=255
  | .u16,x=>0<=x/\x<=65535
  | .u32,x=>0<=x/\x<=4294967295
  | .u64,x=>0<=x/\x<=18446744073709551615
theorem jX {k:IntKind}{x:Int}(h:inR k x):k.wrap x=x:=by
 cases k<;>simp only[inR]at h<;>simp only[IntKind.wrap,IntKind.bits,IntKind.signed]<;>simp<;>omega
def d1k (k:IntKind)(x y:Int):Int:=k.wrap ((BitVec.ofInt k.bits x &&& BitVec.ofInt k.bits y).toNat:Int)
def bor (k:IntKind)(x y:Int):Int:=k.wrap ((BitVec.ofInt k.bits x ||| BitVec.ofInt k.bits y).toNat:Int)
def c7c (k:IntKind)(x y:Int):Int:=k.wrap ((BitVec.ofInt k.bits x &&& ~~~ BitVec.ofInt k.bits y).toNat:Int)
def b2g (op:BinOp)(k:IntKind)(x y:Int):Option (Prop×Value):=
  match op with
  | .add=>some (inR k (x+y),.int k (x+y))
  | .sub=>some (inR k (x-y),.int k (x-y))
  | .mul=>some (inR k (x*y),.int k (x*y))
  | .quo=>some (0<=x/\0<y/\inR k x,.int k (x/y))
  | .rem=>some (0<=x/\0<y,.int k (x %y))
  | .and=>some (True,.int k (d1k k x y))
  | .or=>some (True,.int k (bor k x y))
  | .andNot=>some (True,.int k (c7c k x y))
  | .eql=>some (True,.bool (decide (x=y)))
  | .neq=>some (True,.bool (decide (x≠y)))
  | .lss=>some (True,.bool (decide (x<y)))
  | .leq=>some (True,.bool (decide (x<=y)))
  | .gtr=>some (True,.bool (decide (y<x)))
  | .geq=>some (True,.bool (decide (y<=x)))
  |_=>none
def wX (op:BinOp)(k:IntKind)(x y:Int):Option (Prop×Value):=
  match op with
  | .shl=>some (0<=y/\y<k.bits/\inR k (x*2^y.toNat),.int k (x*2^y.toNat))
  | .shr=>some (0<=y/\y<k.bits,.int k (x/2^y.toNat))
  |_=>none
def IntKind.eq:IntKind->IntKind->Bool
  | .i8,.i8| .i16,.i16| .i32,.i32| .i64,.i64| .u8,.u8| .u16,.u16| .u32,.u32| .u64,.u64=>true
  |_,_=>false
theorem IntKind.eq_of {j k:IntKind}(h:IntKind.eq j k=true):j=k:=by cases j<;>cases k<;>first|rfl|cases h
abbrev _root_.e6k:=@IntKind.eq_of
def a2n:BinOp->Bool
  | .shl| .shr=>true
  |_=>false
def isI (x:AV):Prop:=∃z,x= .d (.v (.int .i64 z))
def b5w (x:AV):Int:=match x with
  | .d (.v (.int _ z))=>z
  |_=>0
def d2i (op:BinOp)(n:Nat)(f g:Nat->AV):Option (Prop×Value):=
  match op with
  | .eql=>some (∀j,j<n->isI (f j)/\isI (g j),.bool (decide (∀j,j<n->b5w (f j)=b5w (g j))))
  | .neq=>some (∀j,j<n->isI (f j)/\isI (g j),.bool (!decide (∀j,j<n->b5w (f j)=b5w (g j))))
  |_=>none
def c6j:AV->Option (Nat×(Nat->AV))
  | .ag n f=>some (n,f)
  | .d (.ag n f)=>some (n,λj=> .d (f j))
  |_=>none
def c6l (T:Nat->Option TI)(op:BinOp)(t:Nat)(x y:AV):Option (Prop×Value):=
  match x,y with
  | .d (.v (.int j x)),.d (.v (.int k y))=>bif a2n op then wX op j x y else(bif IntKind.eq j k then b2g op j x y else none)
  | .d (.v (.bool x)),.d (.v (.bool y))=>
    match T t with
    |some {d:= .bool,..}=>match op with
      | .eql=>some (True,.bool (x==y))
      | .neq=>some (True,.bool (x !=y))
      |_=>none
    |_=>none
  | .d (.mp _ _),.d (.v (.map none))=>match T t with
    |some {d:= .map _ _,..}=>match op with
      | .eql=>some (True,.bool false)
      | .neq=>some (True,.bool true)
      |_=>none
    |_=>none
  |x,y=>match c6j x,c6j y,T t with
    |some (n,f),some (m,g),some {qe:=some q,..}=>bif Nat.beq n q&&Nat.beq m q then d2i op n f g else none
    |_,_,_=>none
theorem a8e {P:Program}{W:World}{op:BinOp}{k:IntKind}{x y:Int}{c:Prop}{v:Value}(hs:a2n op=false)(h:b2g op k x y=some (c,v))(hc:c)(t:Nat):
  (binOp op t (.int k x) (.int k y)).run P W= .ok v W:=by
 unfold b2g at h
 split at h<;>first|(simp only[e0a,e0i]at h;obtain⟨rfl,rfl⟩:=h)|cases h
 all_goals simp only[binOp,Op.intArith,Op.intDiv,Op.intBits,Op.intCmp,d1k,bor,c7c,ne_eq,not_true,e3g,d9u]
 ·rw[jX hc]
 ·rw[jX hc]
 ·rw[jX hc]
 ·have hy:¬y=0:=by omega
  simp only[hy,e3g,d9u]
  have:x.tdiv y=x/y:=Int.tdiv_eq_ediv_of_nonneg hc.1
  rw[this,jX]
  have h1:x/y<=x:=Int.ediv_le_self _ hc.1
  have h2:0<=x/y:=Int.ediv_nonneg hc.1 (by omega)
  have h3:=hc.2.2
  cases k<;>simp only[inR]at h3⊢ <;>omega
 ·have hy:¬y=0:=by omega
  simp only[hy,e3g,d9u]
  rw[Int.tmod_eq_emod_of_nonneg hc.1]
 all_goals first
  |rfl
  |(congr 2;rw[e2y];simp;done)
theorem b7n (x:Int)(n:Nat):x.fdiv (2^n)=x/2^n:=Int.fdiv_eq_ediv_of_nonneg _ (Int.le_of_lt (Int.pow_pos (by decide)))
theorem a0d {P:Program}{W:World}{op:BinOp}{j k:IntKind}{x y:Int}{c:Prop}{v:Value}(h:wX op j x y=some (c,v))(hc:c)(t:Nat):
  (binOp op t (.int j x) (.int k y)).run P W= .ok v W:=by
 unfold wX at h
 split at h<;>first|(simp only[e0a,e0i]at h;obtain⟨rfl,rfl⟩:=h)|cases h
 ·have hy:¬y<0:=by omega
  have hm:min y.toNat j.bits=y.toNat:=by omega
  simp only[binOp,Op.shift,hy,e3g,hm,d9u]
  rw[jX hc.2.2]
 ·have hy:¬y<0:=by omega
  have hm:min y.toNat j.bits=y.toNat:=by omega
  simp only[binOp,Op.shift,hy,e3g,hm,d9u,b7n]
theorem vE {E:Env}{W:World}{x:AV}{u:Value}{n:Nat}{f:Nat->AV}(h:aK E W x u)(hx:c6j x=some (n,f)):∃cs:Array Value,u= .agg cs/\cs.size=n/\∀j,j<n->aK E W (f j) (cs.getD j undef):=by
 unfold c6j at hx
 split at hx
 ·cases hx;obtain⟨cs,rfl,h1,h2⟩:=h;exact⟨cs,rfl,h1,λj hj=>(h2 j hj).1⟩
 ·cases hx;obtain⟨cs,rfl,h1,h2⟩:=h;exact⟨cs,rfl,h1,λj hj=>(h2 j hj).1⟩
 ·cases hx
theorem vD {E:Env}{W:World}{cs:Array Value}{n:Nat}{f:Nat->AV}(hs:cs.size=n)(hc:∀j,j<n->aK E W (f j) (cs.getD j undef))(hi:∀j,j<n->isI (f j)):
  Value.agg cs=eL ((List.range n).map λj=>b5w (f j)):=by
 unfold eL
 congr 1
 apply Array.ext
 ·simp[hs]
 ·intro j h1 h2
  have hj:j<n:=hs▸h1
  obtain⟨z,hz⟩:=hi j hj
  have:=hc j hj
  rw[hz]at this
  have:cs.getD j undef= .int .i64 z:=this
  rw[d9x,e0y h1]at this
  simp only[e2v]at this
  simp[this,hz,b5w]
theorem b7i {P:Program}{E:Env}{W:World}{op:BinOp}{t n:Nat}(hq:EqT P t n){f g:Nat->AV}{cs ds:Array Value}(h1:cs.size=n)(h2:ds.size=n)(hf:∀j,j<n->aK E W (f j) (cs.getD j undef))(hg:∀j,j<n->aK E W (g j) (ds.getD j undef))
  {c:Prop} {v:Value} (h:d2i op n f g=some (c,v)) (hc:c) (x y:Operand):
  (eqGuard op t x y (.agg cs) (.agg ds)).run P W= .ok () W/\(binOp op t (.agg cs) (.agg ds)).run P W= .ok v W:=by
 have hiff:((List.range n).map λj=>b5w (f j))=((List.range n).map λj=>b5w (g j))↔∀j,j<n->b5w (f j)=b5w (g j):=by
  constructor
  ·intro h j hj
   have:=e2r (·[j]?) h
   simpa[hj]using this
  ·intro h
   exact e2s λj hj=>h j (e1e.1 hj)
 have hgd:∀op,(eqGuard op t x y (.agg cs) (.agg ds)).run P W= .ok () W:=λop=>run_eqGuard_agg W op t x y cs ds hq.gd
 refine⟨hgd op,?_⟩
 unfold d2i at h
 split at h
 ·cases h
  rw[run_eql_struct,vD h1 hf λj hj=>(hc j hj).1,vD h2 hg λj hj=>(hc j hj).2,hq.eq _ _ W (by simp) (by simp)]
  simp only[Result.andThen,hiff]
 ·cases h
  rw[run_neq_struct,vD h1 hf λj hj=>(hc j hj).1,vD h2 hg λj hj=>(hc j hj).2,hq.eq _ _ W (by simp) (by simp)]
  simp only[Result.andThen,hiff]
 ·cases h
def asI:AV->Option (IntKind×Int)
  | .d (.v (.int k x))=>some (k,x)
  |_=>none
def sX (x:DV)(j:Nat):DV:=match x with| .ag _ f=>f j|y=>y
def sW (x:AV)(j:Nat):AV:=match x with| .ag _ f=>f j| .d y=> .d (sX y j)|y=>y
def dY:AV->Option Nat
  | .ag n _=>some n
  | .d (.ag n _)=>some n
  |x=>bif a7n x then some 1 else none
def c7a:AV->Bool
  | .ag ..=>true
  | .d (.ag ..)=>true
  |_=>false
def b9c (ti:TI)(x:AV)(o:Nat):Option (Prop×AV):=
  bif c7a x then
    match dY x with
    |some n=>bif ti.agg then some (o+ti.size<=n,.ag ti.size λj=>sW x (j+o))else some (o<n,sW x o)
    |none=>none
  else none
def c2y (z:Nat->AV):List (Nat×Nat×AV)->(Nat->AV)
  |[]=>z
  |(o,s,x)::r=>c2y (λj=>bif (Nat.ble o j&&Nat.blt j (o+s))then sW x (j-o)else z j) r
def rB (T:Nat->Option TI)(ti:TI)(i:Nat):Option (Nat×TI):=
  match ti.d with
  | .struct fs=>match fs[i]? with
    |some f=>match T f.type with
      |some tf=>some (f.offset,tf)
      |none=>none
    |none=>none
  |_=>none
def mV (T:Nat->Option TI)(ti:TI)(ev:Operand->AV):List (Nat×Operand)->Option (List (Nat×Nat×AV))
  |[]=>some []
  |(i,x)::r=>match rB T ti i with
    |some (o,tf)=>match dY (ev x)with
      |some n=>bif Nat.beq n tf.size&&Nat.ble (o+n) ti.size then(mV T ti ev r).map ((o,n,ev x):: ·)else none
      |none=>none
    |none=>none
def pP (ev:Operand->AV):Option Operand->Option (Option Int)
  |none=>some none
  |some x=>match asI (ev x)with
    |some (_,i)=>some (some i)
    |none=>none
def slV (tt:Bool)(k n:Nat)(f:Nat->DV)(lo hi mx:Option Int):Option (Prop×AV):=
  match lo,hi,mx with
  |none,none,none=>some (True,.d (.sl tt k n f))
  |none,some h,none=>some (0<=h/\h<=n,.d (.sl false k h.toNat f))
  |some l,none,none=>some (0<=l/\l<=n,.d (.sl tt k (n-l.toNat) λi=>f (l.toNat+i)))
  |some l,some h,none=>some (0<=l/\l<=h/\h<=n,.d (.sl false k (h.toNat-l.toNat) λi=>f (l.toNat+i)))
  |none,some h,some m=>some (0<=h/\h<=n/\m=h,.d (.sl true k h.toNat f))
  |_,_,_=>none
def msV (id k off n:Nat)(lo hi mx:Option Int):Option (Prop×AV):=
  match lo,hi,mx with
  |none,none,none=>some (True,.ms id k off n)
  |none,some h,none=>some (0<=h/\h<=n,.ms id k off h.toNat)
  |some l,none,none=>some (0<=l/\l<=n,.ms id k (off+l.toNat) (n-l.toNat))
  |some l,some h,none=>some (0<=l/\l<=h/\h<=n,.ms id k (off+l.toNat) (h.toNat-l.toNat))
  |_,_,_=>none
def c8n (k:IntKind):Int->List AV->Option Int
  |x,[]=>some x
  |x,y::r=>match asI y with
    |some (j,y)=>bif IntKind.eq j k then c8n k (max x y) r else none
    |none=>none
def c8p (k:IntKind):Int->List AV->Option Int
  |x,[]=>some x
  |x,y::r=>match asI y with
    |some (j,y)=>bif IntKind.eq j k then c8p k (min x y) r else none
    |none=>none
def cI (T:Nat->Option TI)(b:Builtin)(args:List Operand)(ts:List Nat)(ev:Operand->AV):Option (Prop×AV):=
  match b with
  | .len=>match args,ts with
    |[x],[t]=>match T t with
      |some ti=>match ti.d with
        | .slice _=>match ev x with
          | .d (.sl _ _ n _)=>some (True,.d (.v (.int .i64 n)))
          | .ms _ _ _ n=>some (True,.d (.v (.int .i64 n)))
          | .d (.v (.slice _ n _))=>some (True,.d (.v (.int .i64 n)))
          |_=>none
        | .array n _=>some (True,.d (.v (.int .i64 n)))
        |_=>none
      |none=>none
    |_,_=>none
  | .max=>match args with
    |x::r=>match asI (ev x)with
      |some (k,x)=>(c8n k x (r.map ev)).map λm=>(True,.d (.v (.int k m)))
      |none=>none
    |[]=>none
  | .min=>match args with
    |x::r=>match asI (ev x)with
      |some (k,x)=>(c8p k x (r.map ev)).map λm=>(True,.d (.v (.int k m)))
      |none=>none
    |[]=>none
  |_=>none
def c3j:Value->Bool
  | .int .i64 0=>true
  |_=>false
def aW (T:Nat->Option TI)(op:Op)(ev:Operand->AV):Option (Prop×AV):=
  match op with
  | .move x=>some (True,ev x)
  | .assign x=>some (True,ev x)
  | .pick c a b=>match ev c with
    | .d (.v (.bool c))=>match c with
      |true=>some (True,ev a)
      |false=>some (True,ev b)
    |_=>none
  | .nilCheck x=>match ev x with
    | .ref id off=>some (True,.ref id off)
    | .el id k i off=>some (True,.el id k i off)
    | .d (.pt y o)=>some (True,.d (.pt y o))
    | .fn g n m f c=>some (True,.fn g n m f c)
    | .d (.fn g n m f c)=>some (True,.d (.fn g n m f c))
    |_=>none
  | .binOp op t x y _=>match c6l T op t (ev x) (ev y)with
    |some (c,v)=>some (c,.d (.v v))
    |none=>none
  | .unOp op _ x=>match op,ev x with
    | .not,.d (.v (.bool b))=>some (True,.d (.v (.bool !b)))
    | .neg,.d (.v (.int k x))=>some (inR k (0-x),.d (.v (.int k (0-x))))
    |_,_=>none
  | .convert s t x=>match T s,T t,ev x with
    |some _,some {d:= .int k,..},.d (.v (.int _ x))=>some (inR k x,.d (.v (.int k x)))
    |_,_,_=>none
  | .makeFunc (.func g) first captured=>some (True,.fn g first.size captured.size (λj=>ev (first.getD j (.const undef))) λj=>ev (captured.getD j (.const undef)))
  | .fieldAddr s x i=>match T s with
    |some ti=>match rB T ti i with
      |some (o,tf)=>bif Nat.beq tf.size 0 then none else match ev x with
        | .ref id off=>some (True,.ref id (off+o))
        | .el id k i off=>some (True,.el id k i (off+o))
        | .d (.pt y p)=>some (True,.d (.pt y (p+o)))
        |_=>none
      |none=>none
    |none=>none
  | .field s x i=>match T s with
    |some ti=>match rB T ti i with
      |some (o,tf)=>b9c tf (ev x) o
      |none=>none
    |none=>none
  | .indexAddr t x i=>match T t,asI (ev i)with
    |some ti,some (_,i)=>match ti.d with
      | .slice e=>match T e with
        |some te=>match ev x with
          | .d (.sl _ k n f)=>bif Nat.beq k te.size then some (0<=i/\i<n,.d (.pt (f i.toNat) 0))else none
          | .ms id k off n=>bif Nat.beq k te.size then some (0<=i/\i<n,.el id k (off+i.toNat) 0)else none
          |_=>none
        |none=>none
      | .array len e=>match T e with
        |some te=>match ev x with
          | .d (.pt y o)=>some (0<=i/\i<len,.d (.pt y (o+i.toNat*te.size)))
          | .el id k i0 0=>bif Nat.beq k te.size then some (0<=i/\i<len,.el id k (i0+i.toNat) 0)else some (0<=i/\i<len,.el id k i0 (i.toNat*te.size))
          |_=>none
        |none=>none
      |_=>none
    |_,_=>none
  | .index t x i=>match T t,asI (ev i)with
    |some ti,some (_,i)=>match ti.d with
      | .array len e=>match T e with
        |some te=>bif te.agg then none else bif Nat.beq te.size 1 then
            match b9c te (ev x) i.toNat with
            |some (c,y)=>some (0<=i/\i<len/\c,y)
            |none=>none
          else none
        |none=>none
      |_=>none
    |_,_=>none
  | .extract x i=>match ev x with
    | .d (.tp n f)=>some (i<n,.d (f i))
    | .tp n f=>some (i<n,f i)
    |_=>none
  | .slice t x lo hi mx=>match T t,pP ev lo,pP ev hi,pP ev mx with
    |some ti,some lo,some hi,some mx=>match ti.d with
      | .slice e=>match T e with
        |some te=>match ev x with
          | .d (.sl tt k n f)=>bif Nat.beq k te.size then slV tt k n f lo hi mx else none
          | .ms id k off n=>bif Nat.beq k te.size then msV id k off n lo hi mx else none
          |_=>none
        |none=>none
      |_=>none
    |_,_,_,_=>none
  | .build t parts=>match T t with
    |some ti=>match mV T ti ev parts.toList with
      |some l=>match ti.d with
        | .struct fs=>bif fs.toList.all λf=>(T f.type).isSome then some (True,.ag ti.size (c2y (λj=> .d (.v (ti.z.cells.getD j undef))) l))else none
        | .array _ e=>match T e,parts.toList with
          |some _,[]=>bif ti.z.cells.toList.all c3j then some (True,.d (.ag ti.size λ_=> .v (.int .i64 0)))else none
          |_,_=>none
        |_=>none
      |none=>none
    |none=>none
  | .call c=>match c.callee with
    | .builtin b=>cI T b c.args.toList c.argTypes.toList ev
    |_=>none
  |_=>none
section sound
variable {P:Program} {T:Nat->Option TI} (hT:bQ P T) {E:Env} {W:World} {ev:Operand->AV} {ρ:Operand->Value} (hev:∀x,aK E W (ev x) (ρ x))
theorem oF {x:AV}{u:Value}{k:IntKind}{i:Int}(h:aK E W x u)(hx:asI x=some (k,i)):u= .int k i:=by
 unfold asI at hx
 split at hx
 ·simp only[e0a,e0i]at hx
  obtain⟨rfl,rfl⟩:=hx
  exact h
 ·cases hx
theorem a4q {x:AV}{u:Value}{n:Nat}(h:aK E W x u)(ha:c7a x=true)(hn:dY x=some n):∃cs:Array Value,u= .agg cs/\cs.size=n/\∀j,j<n->aK E W (sW x j) (cs.getD j undef)/\(cs.getD j undef).oneCell'=true:=by
 cases x with
 |ag m f=>
  simp only[dY,e0a]at hn
  subst hn
  exact h
 |d y=>
  cases y with
  |ag m f=>
   simp only[dY,e0a]at hn
   subst hn
   exact h
  |_=>cases ha
 |_=>cases ha
theorem pS {x:AV}{u:Value}{n:Nat}(h:aK E W x u)(hn:dY x=some n):u.cells.size=n/\∀j,j<n->aK E W (sW x j) (u.cells.getD j undef)/\(u.cells.getD j undef).oneCell'=true:=by
 by_cases ha:c7a x=true
 ·obtain⟨cs,rfl,h1,h2⟩:=a4q h ha hn
  exact⟨h1,h2⟩
 ·have h0:(bif a7n x then some 1 else none)=some n:=by
   cases x with
   |ag m f=>exact absurd rfl ha
   |d y=>cases y with
    |ag m f=>exact absurd rfl ha
    |_=>exact hn
   |_=>exact hn
  cases h1:a7n x with
  |false=>rw[h1]at h0;cases h0
  |true=>
   rw[h1]at h0
   simp only[e0q,e0a]at h0
   subst h0
   have ho:=h.one h1
   have hc:u.cells= #[u]:=by cases u<;>first|rfl|cases ho
   rw[hc]
   refine⟨rfl,λj hj=>?_⟩
   obtain rfl:j=0:=by omega
   refine⟨?_,ho⟩
   have:sW x 0=x:=by
    cases x with
    |ag m f=>exact absurd rfl ha
    |d y=>cases y with
     |ag m f=>exact absurd rfl ha
     |_=>rfl
    |_=>rfl
   rw[this];exact h
theorem mS (hT:bQ P T){t:Nat}{ti:TI}(ht:T t=some ti){x:AV}{u:Value}{o:Nat}{c:Prop}{y:AV}(h:aK E W x u)(hp:b9c ti x o=some (c,y))(hc:c):
  ∃cs v,u= .agg cs/\(part t cs o).run P W= .ok v W/\aK E W y v:=by
 unfold b9c at hp
 cases ha:c7a x with
 |false=>rw[ha]at hp;cases hp
 |true=>
  rw[ha]at hp
  simp only[e0q]at hp
  cases hn:dY x with
  |none=>rw[hn]at hp;cases hp
  |some n=>
   rw[hn]at hp
   simp only[]at hp
   obtain⟨cs,rfl,hs,hcs⟩:=a4q h ha hn
   have hk:=hT t ti ht
   cases hg:ti.agg with
   |true=>
    rw[hg]at hp
    simp only[e0q,e0a,e0i]at hp
    obtain⟨rfl,rfl⟩:=hp
    refine⟨cs,.agg (cs.extract o (o+ti.size)),rfl,?_,?_⟩
    ·simp only[part,d9t,hk.isAgg,hg,d9q,e4b,hk.sizeOf,d9u]
    ·refine⟨_,rfl,by simp;omega,λj hj=>?_⟩
     have:(cs.extract o (o+ti.size)).getD j undef=cs.getD (j+o) undef:=by
      simp only[d9x,Array.getElem?_extract]
      rw[e0c (by omega),e7v]
     rw[this]
     exact hcs (j+o) (by omega)
   |false=>
    rw[hg]at hp
    simp only[e2n,e0a,e0i]at hp
    obtain⟨rfl,rfl⟩:=hp
    refine⟨cs,cs.getD o undef,rfl,?_,(hcs o hc).1⟩
    have:cs[o]?=some (cs.getD o undef):=by
     rw[d9x,e0y (by omega)];rfl
    simp only[part,d9t,hk.isAgg,hg,d9q,e2l,e3g,this,d9u]
end sound
def oN (m:Option Int)(d:Nat):Nat:=match m with|some i=>i.toNat|none=>d
def oI (m:Option Int)(d:Int):Int:=match m with|some i=>i|none=>d
section sound
variable {P:Program} {T:Nat->Option TI} {E:Env} {W:World} {ev:Operand->AV} {ρ:Operand->Value}
theorem nW (hev:∀x,aK E W (ev x) (ρ x)){x:Option Operand}{l:Option Int}(h:pP ev x=some l):
  (x=none/\l=none)\/∃y k i,x=some y/\l=some i/\ρ y= .int k i:=by
 cases x with
 |none=>simp only[pP,e0a]at h;exact .inl ⟨rfl,h.symm⟩
 |some y=>
  simp only[pP]at h
  cases ha:asI (ev y)with
  |none=>rw[ha]at h;cases h
  |some p=>
   obtain⟨k,i⟩:=p
   rw[ha]at h
   simp only[e0a]at h
   exact .inr ⟨y,k,i,rfl,h.symm,oF (hev y) ha⟩
theorem bZ {k:IntKind}{i:Int}{n:Nat}(c:BoundsCode)(h0:0<=i)(h1:i<=n):(Instr.sliceBound (.int k i) n c).run P W= .ok i.toNat W:=by
 simp[Instr.sliceBound,asIntOf,h0,h1]
theorem b2u {k:IntKind}:∀(r:List AV) (us:List Value) (x m:Int),r.length=us.length->(∀j,j<r.length->aK E W (r.getD j (.d .top)) (us.getD j undef))->c8n k x r=some m->
  (us.foldlM Builtin.max2 (.int k x)).run P W= .ok (.int k m) W
 |[],[],x,m,_,_,h=>by simp only[c8n,e0a]at h;subst h;rfl
 |y::r,u::us,x,m,hl,hr,h=>by
  simp only[c8n]at h
  cases ha:asI y with
  |none=>rw[ha]at h;cases h
  |some p=>
   obtain⟨j,i⟩:=p
   rw[ha]at h
   simp only[]at h
   cases hk:IntKind.eq j k with
   |false=>rw[hk]at h;cases h
   |true=>
    rw[hk]at h
    obtain rfl:=e6k hk
    have hu:u= .int j i:=oF (by simpa using hr 0 (by simp)) ha
    subst hu
    have ih:=b2u r us (max x i) m (by simpa using hl) (λj hj=>by simpa using hr (j+1) (by simpa using hj)) h
    rw[List.foldlM_cons,d9t]
    have:(Builtin.max2 (.int j x) (.int j i)).run P W= .ok (.int j (max x i)) W:=by
     simp only[Builtin.max2,d9u]
     congr 2
     rw[Int.max_def]
     split<;>split<;>omega
    rw[this]
    exact ih
theorem b2w {k:IntKind}:∀(r:List AV) (us:List Value) (x m:Int),r.length=us.length->(∀j,j<r.length->aK E W (r.getD j (.d .top)) (us.getD j undef))->c8p k x r=some m->
  (us.foldlM Builtin.min2 (.int k x)).run P W= .ok (.int k m) W
 |[],[],x,m,_,_,h=>by simp only[c8p,e0a]at h;subst h;rfl
 |y::r,u::us,x,m,hl,hr,h=>by
  simp only[c8p]at h
  cases ha:asI y with
  |none=>rw[ha]at h;cases h
  |some p=>
   obtain⟨j,i⟩:=p
   rw[ha]at h
   simp only[]at h
   cases hk:IntKind.eq j k with
   |false=>rw[hk]at h;cases h
   |true=>
    rw[hk]at h
    obtain rfl:=e6k hk
    have hu:u= .int j i:=oF (by simpa using hr 0 (by simp)) ha
    subst hu
    have ih:=b2w r us (min x i) m (by simpa using hl) (λj hj=>by simpa using hr (j+1) (by simpa using hj)) h
    rw[List.foldlM_cons,d9t]
    have:(Builtin.min2 (.int j x) (.int j i)).run P W= .ok (.int j (min x i)) W:=by
     simp only[Builtin.min2,d9u]
     congr 2
     rw[Int.min_def]
     split<;>split<;>omega
    rw[this]
    exact ih
theorem iH {ti:TI}{places:Nat->Option (Nat×Nat)}:∀(l:List (Nat×Operand)) (z:Nat->AV) (cells:Array Value) (al:List (Nat×Nat×AV)),bQ P T->(∀x,aK E W (ev x) (ρ x))->mV T ti ev l=some al->cells.size=ti.size->
  (∀i o tf,rB T ti i=some (o,tf)->places i=some (o,tf.size))->(∀j,j<ti.size->aK E W (z j) (cells.getD j undef)/\(cells.getD j undef).oneCell'=true)->
  ∃cs,Instr.fill places cells (l.map λ(i,x)=>(i,ρ x))=some cs/\cs.size=ti.size/\∀j,j<ti.size->aK E W (c2y z al j) (cs.getD j undef)/\(cs.getD j undef).oneCell'=true
 |[],z,cells,al,_,_,h,hs,_,hz=>by
  simp only[mV,e0a]at h
  subst h
  exact⟨cells,rfl,hs,hz⟩
 |(i,x)::l,z,cells,al,hT,hev,h,hs,hp,hz=>by
  simp only[mV]at h
  cases hf:rB T ti i with
  |none=>rw[hf]at h;cases h
  |some p=>
   obtain⟨o,tf⟩:=p
   rw[hf]at h
   simp only[]at h
   cases hn:dY (ev x)with
   |none=>rw[hn]at h;cases h
   |some n=>
    rw[hn]at h
    simp only[]at h
    cases hb:(Nat.beq n tf.size&&Nat.ble (o+n) ti.size)with
    |false=>rw[hb]at h;cases h
    |true=>
     rw[hb]at h
     simp only[e0q,e0u]at h
     obtain⟨al',hal,rfl⟩:=h
     rw[e0d]at hb
     have hb1:n=tf.size:=d9s hb.1
     have hb2:o+n<=ti.size:=e1n hb.2
     obtain⟨hcs,hcj⟩:=pS (hev x) hn
     have hpl:=hp i o tf hf
     simp only[e0o,Instr.fill,hpl]
     rw[d9z (by simp only[e3d,e4h,ne_eq,not_or,Classical.not_not];exact⟨hcs.trans hb1,by omega⟩)]
     have key:∀(us:List Value) (d:Nat) (cur:Array Value),o+d+us.length<=cur.size->((us.zipIdx d).foldl (λ(cs:Array Value) (c,j)=>cs.setIfInBounds (o+j) c) cur).size=cur.size/\
       ∀j,((us.zipIdx d).foldl (λ(cs:Array Value) (c,j)=>cs.setIfInBounds (o+j) c) cur).getD j undef=if o+d<=j/\j<o+d+us.length then us.getD (j-(o+d)) undef else cur.getD j undef:=by
      intro us
      induction us with
      |nil=>intro d cur _;exact⟨rfl,λj=>by rw[d9z (by simp),List.zipIdx_nil,e7t]⟩
      |cons u us ih=>
       intro d cur hle
       simp only[e0r]at hle
       rw[List.zipIdx_cons,e5j]
       obtain⟨i1,i2⟩:=ih (d+1) (cur.setIfInBounds (o+d) u) (by rw[e2i];omega)
       refine⟨by rw[i1,e2i],λj=>?_⟩
       rw[i2]
       by_cases h1:o+(d+1)<=j/\j<o+(d+1)+us.length
       ·rw[e0c h1,e0c (by simp only[e0r];omega)]
        obtain⟨e,he⟩:∃e,j-(o+d)=e+1:=⟨j-(o+d)-1,by omega⟩
        rw[he,e7e]
        congr 1;omega
       ·rw[d9z h1]
        by_cases h2:j=o+d
        ·subst h2
         rw[e0c (by simp only[e0r];omega),e7w,e7f]
         rw[d9x,e5a (by omega)];rfl
        ·rw[d9z (by simp only[e0r];omega)]
         rw[d9x,d9x,e3t (by omega)]
     have hz':=key (ρ x).cells.toList 0 cells (by rw[e1c,hcs,hs];omega)
     have hfold:(ρ x).cells.zipIdx.foldl (λ(cs:Array Value) (c,j)=>cs.setIfInBounds (o+j) c) cells=((ρ x).cells.toList.zipIdx 0).foldl (λ(cs:Array Value) (c,j)=>cs.setIfInBounds (o+j) c) cells:=by
      rw[<-e6r,Array.toList_zipIdx]
     rw[hfold]
     refine iH l _ _ al' hT hev hal (by rw[hz'.1,hs]) hp λj hj=>?_
     rw[hz'.2]
     simp only[e2j,e1c,hcs]
     by_cases hin:o<=j/\j<o+n
     ·rw[e0c hin]
      have e1:(Nat.ble o j&&Nat.blt j (o+n))=true:=by
       rw[e0d];exact⟨e4c hin.1,aG.2 hin.2⟩
      rw[e1]
      have e2:(ρ x).cells.toList.getD (j-o) undef=(ρ x).cells.getD (j-o) undef:=by
       rw[d9x,d9r,e0s]
      rw[e2]
      exact hcj (j-o) (by omega)
     ·rw[d9z hin]
      have e1:(Nat.ble o j&&Nat.blt j (o+n))=false:=by
       cases hx:(Nat.ble o j&&Nat.blt j (o+n))with
       |false=>rfl
       |true=>rw[e0d]at hx;exact absurd ⟨e1n hx.1,aG.1 hx.2⟩ hin
      rw[e1]
      exact hz j hj
theorem dQ {isS:Bool}{len cap:Nat}{lo hi mx:Option Operand}{l h m:Option Int}(hl:(lo=none/\l=none)\/∃y k i,lo=some y/\l=some i/\ρ y= .int k i)
  (hh:(hi=none/\h=none)\/∃y k i,hi=some y/\h=some i/\ρ y= .int k i) (hm:(mx=none/\m=none)\/∃y k i,mx=some y/\m=some i/\ρ y= .int k i)
  (h1:∀i,m=some i->0<=i/\i<=cap/\h≠none) (h2:∀i,h=some i->0<=i/\i<=oI m (cap:Int)) (h3:∀i,l=some i->0<=i/\i<=oI h (len:Int)):
  (Instr.sliceBounds isS len cap (lo.map ρ) (hi.map ρ) (mx.map ρ)).run P W=
    .ok ((oN l 0),(oN h len),(oN m cap)) W:=by
 rcases hl with⟨rfl,rfl⟩|⟨yl,kl,il,rfl,rfl,el⟩<;>rcases hh with⟨rfl,rfl⟩|⟨yh,kh,ih,rfl,rfl,eh⟩<;>rcases hm with⟨rfl,rfl⟩|⟨ym,km,im,rfl,rfl,em⟩
 all_goals try(exact absurd rfl (h1 _ rfl).2.2)
 all_goals simp only[Instr.sliceBounds,e4m,e1y,d9t,d9u,d9q]
 all_goals try simp only[em]
 all_goals try simp only[eh]
 all_goals try simp only[el]
 ·rfl
 ·rw[bZ _ (h2 _ rfl).1 (h2 _ rfl).2];rfl
 ·rw[bZ _ (h1 _ rfl).1 (h1 _ rfl).2.1,d9q,bZ _ (h2 _ rfl).1 (by have:=(h2 _ rfl).2;have:=(h1 _ rfl).1;simp only[oI]at*;omega)];rfl
 ·rw[bZ _ (h3 _ rfl).1 (h3 _ rfl).2];rfl
 ·rw[bZ _ (h2 _ rfl).1 (h2 _ rfl).2,d9q,bZ _ (h3 _ rfl).1 (by have:=(h3 _ rfl).2;have:=(h2 _ rfl).1;simp only[oI]at*;omega)];rfl
 ·rw[bZ _ (h1 _ rfl).1 (h1 _ rfl).2.1,d9q,bZ _ (h2 _ rfl).1 (by have:=(h2 _ rfl).2;have:=(h1 _ rfl).1;simp only[oI]at*;omega),d9q,
   bZ _ (h3 _ rfl).1 (by have:=(h3 _ rfl).2;have:=(h2 _ rfl).1;simp only[oI]at*;omega)];rfl
end sound
section sound
variable {P:Program} {T:Nat->Option TI} {E:Env} {W:World} {ev:Operand->AV} {ρ:Operand->Value}
def kW (P:Program)(E:Env)(W:World)(ρ:Operand->Value)(o:Oper)(x:AV):Prop:=∃v,(execOp ρ o).run P W= .ok (.value v) W/\aK E W x v
theorem c4p (hT:bQ P T)(hev:∀x,aK E W (ev x) (ρ x))(o:Oper){op:BinOp}{t:Nat}{x y:Operand}{t':Nat}(ho:o.op= .binOp op t x y t'){c:Prop}{v:Value}
  (h:c6l T op t (ev x) (ev y)=some (c,v)) (hc:c):kW P E W ρ o (.d (.v v)):=by
 have hx:=hev x
 have hy:=hev y
 refine⟨v,?_,rfl⟩
 unfold c6l at h
 split at h
 ·rename_i j i k i' e1 e2
  rw[e1]at hx;rw[e2]at hy
  have hx:ρ x= .int j i:=hx
  have hy:ρ y= .int k i':=hy
  have hb:(binOp op t (.int j i) (.int k i')).run P W= .ok v W:=by
   cases hs:a2n op with
   |true=>rw[hs]at h;exact a0d h hc t
   |false=>
    rw[hs]at h
    simp only[e2n]at h
    cases hk:IntKind.eq j k with
    |false=>rw[hk]at h;cases h
    |true=>rw[hk]at h;obtain rfl:=e6k hk;exact a8e hs h hc t
  have hg:(eqGuard op t x y (.int j i) (.int k i')).run P W= .ok () W:=by
   unfold eqGuard
   split<;>rfl
  simp only[execOp,ho,hx,hy,d9t,hg,d9q,hb,d9u]
 ·rename_i i i' e1 e2
  rw[e1]at hx;rw[e2]at hy
  have hx:ρ x= .bool i:=hx
  have hy:ρ y= .bool i':=hy
  split at h
  ·rename_i ti z s b e3
   have hk:=hT t _ e3
   have heq:(Op.equal t (.bool i) (.bool i')).run P W= .ok (i==i') W:=by
    rw[show Op.equal t (.bool i) (.bool i')=Op.equalIn (9999+1) t (.bool i) (.bool i')from rfl,Op.equalIn]
    simp only[d9t,hk.und,d9q,d9u]
   have hg:(eqGuard op t x y (.bool i) (.bool i')).run P W= .ok () W:=by
    unfold eqGuard
    split<;>rfl
   cases op<;>first|cases h|skip
   ·simp only[execOp,ho,hx,hy,d9t,hg,d9q,binOp,heq,d9u]
   ·simp only[execOp,ho,hx,hy,d9t,hg,d9q,binOp,heq,d9u];rfl
  ·cases h
 ·rename_i kt mm e1 e2
  rw[e1]at hx;rw[e2]at hy
  obtain⟨r,es,clock,hx,_⟩:=hx
  have hy:ρ y= .map none:=hy
  split at h
  ·rename_i ki ei z s b q mp e3
   have hk:=hT t _ e3
   have heq:(Op.equal t (.map (some r)) (.map none)).run P W= .ok false W:=by
    rw[show Op.equal t (.map (some r)) (.map none)=Op.equalIn (9999+1) t (.map (some r)) (.map none)from rfl,Op.equalIn]
    simp only[d9t,hk.und,d9q,d9u]
   have hg:(eqGuard op t x y (.map (some r)) (.map none)).run P W= .ok () W:=by
    unfold eqGuard
    split<;>rfl
   cases op<;>first|cases h|skip
   ·simp only[execOp,ho,hx,hy,d9t,hg,d9q,binOp,heq,d9u]
   ·simp only[execOp,ho,hx,hy,d9t,hg,d9q,binOp,heq,d9u];rfl
  ·cases h
 ·split at h
  ·rename_i n f m g ti z s b q mp e1 e2 e3
   cases hb:(Nat.beq n q&&Nat.beq m q)with
   |false=>rw[hb]at h;cases h
   |true=>
    rw[hb]at h
    simp only[e0d]at hb
    obtain rfl:=d9s hb.1
    obtain rfl:=d9s hb.2
    obtain⟨cs,h1,h2,h3⟩:=vE hx e1
    obtain⟨ds,h4,h5,h6⟩:=vE hy e2
    obtain⟨hg,hb⟩:=b7i ((hT t _ e3).qe _ rfl) h2 h5 h3 h6 h hc x y
    simp only[execOp,ho,h1,h4,d9t,hg,d9q,hb,d9u]
  ·cases h
theorem lQ (hT:bQ P T){s i o0:Nat}{ti tf:TI}(hs:T s=some ti)(hf:rB T ti i=some (o0,tf))(hz:Nat.beq tf.size 0=false)(b p:Nat):
  (Instr.fieldAt s (.pointer (some ⟨b,p,none⟩)) i).run P W= .ok (.pointer (some ⟨b,p+o0,none⟩)) W:=by
 unfold rB at hf
 split at hf
 ·rename_i fs hd
  split at hf
  ·rename_i f hfi
   split at hf
   ·rename_i tf' htf
    simp only[e0a,e0i]at hf
    obtain⟨rfl,rfl⟩:=hf
    have hk:=hT s ti hs
    have hkf:=hT _ _ htf
    have hz':¬tf'.size=0:=by
     intro e
     rw[e]at hz
     cases hz
    have hadd:(⟨b,p,none⟩:Addr).add f.offset=⟨b,p+f.offset,none⟩:=by unfold Addr.add;split<;>simp_all
    simp only[Instr.fieldAt,d9t,hk.und,hd,d9q,hfi,Instr.sureAddr,d9u,fieldPlace,hkf.sizeOf,hz',e3g,hadd]
   ·cases hf
  ·cases hf
 ·cases hf
theorem mW (hT:bQ P T){t e:Nat}{ti te:TI}(ht:T t=some ti)(hd:ti.d= .slice e)(hte:T e=some te){k:IntKind}{i:Int}{n cap b o:Nat}(h0:0<=i)(h1:i<n):
  (Instr.indexAt t (.slice (some ⟨b,o,none⟩) n cap) (.int k i)).run P W= .ok (.pointer (some ⟨b,o+i.toNat*te.size,none⟩)) W:=by
 have hk:=hT t ti ht
 have hke:=hT e te hte
 have hadd:(⟨b,o,none⟩:Addr).add (i.toNat*te.size)=⟨b,o+i.toNat*te.size,none⟩:=by unfold Addr.add;split<;>simp_all
 simp only[Instr.indexAt,asIntOf,d9t,d9u,d9q,hk.und,hd,Sem.run_ite,h0,h1,and_self,e4b,hke.sizeOf,hadd]
theorem iR (hT:bQ P T){t e len:Nat}{ti te:TI}(ht:T t=some ti)(hd:ti.d= .array len e)(hte:T e=some te){k:IntKind}{i:Int}{b o:Nat}(h0:0<=i)(h1:i<len):
  (Instr.indexAt t (.pointer (some ⟨b,o,none⟩)) (.int k i)).run P W= .ok (.pointer (some ⟨b,o+i.toNat*te.size,none⟩)) W:=by
 have hk:=hT t ti ht
 have hke:=hT e te hte
 have hadd:(⟨b,o,none⟩:Addr).add (i.toNat*te.size)=⟨b,o+i.toNat*te.size,none⟩:=by unfold Addr.add;split<;>simp_all
 simp only[Instr.indexAt,asIntOf,d9t,d9u,d9q,hk.und,hd,Instr.sureAddr,Sem.run_ite,h0,h1,and_self,e4b,hke.sizeOf,hadd]
theorem sH (hT:bQ P T)(hev:∀x,aK E W (ev x) (ρ x)){t e:Nat}{ti te:TI}(ht:T t=some ti)(hd:ti.d= .slice e)(hte:T e=some te){lo hi mx:Option Operand}{l h m:Option Int}
  (hl:pP ev lo=some l) (hh:pP ev hi=some h) (hm:pP ev mx=some m) {n cap:Nat} {ao:Option Addr}
  (h1:∀i,m=some i->0<=i/\i<=cap/\h≠none) (h2:∀i,h=some i->0<=i/\i<=oI m (cap:Int)) (h3:∀i,l=some i->0<=i/\i<=oI h (n:Int)):
  (Instr.sliceAt t (.slice ao n cap) (lo.map ρ) (hi.map ρ) (mx.map ρ)).run P W=
    .ok (.slice (if(oN m cap)=(oN l 0)then ao else ao.map (·.add ((oN l 0)*te.size)))
     ((oN h n)-(oN l 0)) ((oN m cap)-(oN l 0))) W:=by
 have hk:=hT t ti ht
 have hke:=hT e te hte
 have hb:=dQ (P:=P) (W:=W) (isS:=true) (len:=n) (cap:=cap) (nW hev hl) (nW hev hh) (nW hev hm) h1 h2 h3
 simp only[Instr.sliceAt,d9t,hk.und,hd,d9q,Instr.slice,hb,hke.sizeOf,d9u]
theorem c4w {tt:Bool}{k n:Nat}{f:Nat->DV}{lo hi mx:Option Int}{c:Prop}{x:AV}(h:slV tt k n f lo hi mx=some (c,x))(hc:c){u:Value}(hu:Rep E.S W (.sl tt k n f) u):
  ∃ao cap,u= .slice ao n cap/\(∀i,mx=some i->0<=i/\i<=cap/\hi≠none)/\(∀i,hi=some i->0<=i/\i<=oI mx (cap:Int))/\(∀i,lo=some i->0<=i/\i<=oI hi (n:Int))/\
   aK E W x (.slice (if(oN mx cap)=(oN lo 0)then ao else ao.map (·.add ((oN lo 0)*k)))
    ((oN hi n)-(oN lo 0)) ((oN mx cap)-(oN lo 0))):=by
 obtain⟨a,cap,rfl,hn,ht,ha,hx⟩:=hu
 refine⟨_,cap,rfl,?_⟩
 have gen:∀(tt':Bool) (l h' m:Nat),l<=h'->h'<=n->h'<=m->m<=cap->(tt'=true->m=h')->Rep E.S W (.sl tt' k (h'-l) λi=>f (l+i))
   (.slice (if m=l then a else a.map (·.add (l*k))) (h'-l) (m-l)):=by
  intro tt' l h' m h1 h2 h2' h3 h4
  refine⟨if m=l then a else a.map (·.add (l*k)),m-l,rfl,by omega,λe=>by have:=h4 e;omega,?_,?_⟩
  ·intro e
   have:a=none:=by
    by_cases hm:m=l
    ·rw[e0c hm]at e;exact e
    ·rw[d9z hm]at e;cases a with|none=>rfl|some x=>cases e
   have:=ha this
   omega
  ·intro x e i hi
   have hm:¬m=l:=by omega
   rw[d9z hm]at e
   cases a with
   |none=>cases e
   |some y=>
    simp only[e1y,e0a]at e
    subst e
    obtain⟨hsp,this⟩:=hx y rfl (l+i) (by omega)
    obtain⟨b,o,s⟩:=y
    simp only at hsp
    subst hsp
    have e:(⟨b,o,none⟩:Addr).add (l*k)=⟨b,o+l*k,none⟩:=by unfold Addr.add;split<;>simp_all
    rw[e]
    refine⟨rfl,?_⟩
    simp only[]at this⊢
    rw[show o+l*k+i*k=o+(l+i)*k from by rw[e1s];omega]
    exact this
 unfold slV at h
 split at h<;>first|cases h|(simp only[e0a,e0i]at h;obtain⟨rfl,rfl⟩:=h)
 ·refine⟨by simp,by simp,by simp,?_⟩
  have:=gen tt 0 n cap (by omega) (by omega) hn (by omega) ht
  simp only[e0f,e7k]at this
  exact this
 ·rename_i hh
  refine⟨by simp,?_,by simp,?_⟩
  ·rintro i e;cases e;simp only[oI];omega
  ·have:=gen false 0 hh.toNat cap (by omega) (by omega) (by omega) (by omega) (by simp)
   simp only[e0f,e7k]at this
   exact this
 ·rename_i l
  refine⟨by simp,by simp,?_,?_⟩
  ·rintro i e;cases e;simp only[oI];omega
  ·exact gen tt l.toNat n cap (by omega) (by omega) hn (by omega) ht
 ·rename_i l hh
  refine⟨by simp,?_,?_,?_⟩
  ·rintro i e;cases e;simp only[oI];omega
  ·rintro i e;cases e;simp only[oI];omega
  ·exact gen false l.toNat hh.toNat cap (by omega) (by omega) (by omega) (by omega) (by simp)
 ·rename_i hh m
  obtain⟨h1,h2,rfl⟩:=hc
  refine⟨?_,?_,by simp,?_⟩
  ·rintro i e;cases e;exact⟨by omega,by omega,by simp⟩
  ·rintro i e;cases e;simp only[oI];omega
  ·have:=gen true 0 m.toNat m.toNat (by omega) (by omega) (by omega) (by omega) (λ_=>rfl)
   simp only[e0f,e7k]at this
   exact this
theorem b4b {id k off n:Nat}{lo hi mx:Option Int}{c:Prop}{x:AV}(h:msV id k off n lo hi mx=some (c,x))(hc:c){u:Value}(hu:aK E W (.ms id k off n) u):
  ∃ao cap,u= .slice ao n cap/\(∀i,mx=some i->0<=i/\i<=cap/\hi≠none)/\(∀i,hi=some i->0<=i/\i<=oI mx (cap:Int))/\(∀i,lo=some i->0<=i/\i<=oI hi (n:Int))/\
   aK E W x (.slice (if(oN mx cap)=(oN lo 0)then ao else ao.map (·.add ((oN lo 0)*k)))
    ((oN hi n)-(oN lo 0)) ((oN mx cap)-(oN lo 0))):=by
 have gen:∀(ao:Option Addr) (cap:Nat),aK E W (.ms id k off n) (.slice ao n cap)->∀(l h':Nat),l<=h'->h'<=n->aK E W (.ms id k (off+l) (h'-l))
   (.slice (if cap=l then ao else ao.map (·.add (l*k))) (h'-l) (cap-l)):=by
  rintro ao cap (⟨h1,rfl,h3⟩|⟨b,o,cap',cc,T',h1,h2,h3,h3',h4,h5⟩) l h' hl hn'
  ·cases h3
   obtain rfl:h'=0:=by omega
   obtain rfl:l=0:=by omega
   exact .inl ⟨h1,rfl,by simp⟩
  ·cases h2
   by_cases hm:cap=l
   ·rw[e0c hm]
    exact .inr ⟨b,o,cap-l,cc,T',h1,rfl,by omega,by omega,h4,.inr ⟨by omega,by omega⟩⟩
   ·rw[d9z hm]
    refine .inr ⟨b,o+l*k,cap-l,cc,T',h1,?_,by omega,by omega,h4,?_⟩
    ·simp only[e1y,Value.slice.injEq,e0a,and_true];unfold Addr.add;split<;>simp_all
    ·rcases h5 with⟨rfl,h6⟩|⟨h6,h7⟩
     ·exact .inl ⟨by rw[e1s],by rw[show off+l+(cap-l)=off+cap by omega];exact h6⟩
     ·exact .inr ⟨by omega,by omega⟩
 have hshape:∃ao cap,u= .slice ao n cap/\n<=cap:=by
  rcases hu with⟨_,rfl,rfl⟩|⟨b,o,cap,cc,T',_,rfl,h3,_⟩
  ·exact⟨none,0,rfl,e0g _⟩
  ·exact⟨_,cap,rfl,h3⟩
 obtain⟨ao,cap,rfl,hncap⟩:=hshape
 refine⟨ao,cap,rfl,?_⟩
 unfold msV at h
 split at h<;>first|cases h|(simp only[e0a,e0i]at h;obtain⟨rfl,rfl⟩:=h)
 ·refine⟨by simp,by simp,by simp,?_⟩
  have:=gen ao cap hu 0 n (by omega) (by omega)
  simpa[oN]using this
 ·rename_i hh
  refine⟨by simp,?_,by simp,?_⟩
  ·rintro i e;cases e;simp only[oI];omega
  ·have:=gen ao cap hu 0 hh.toNat (by omega) (by omega)
   simpa[oN]using this
 ·rename_i l
  refine⟨by simp,by simp,?_,?_⟩
  ·rintro i e;cases e;simp only[oI];omega
  ·exact gen ao cap hu l.toNat n (by omega) (by omega)
 ·rename_i l hh
  refine⟨by simp,?_,?_,?_⟩
  ·rintro i e;cases e;simp only[oI];omega
  ·rintro i e;cases e;simp only[oI];omega
  ·exact gen ao cap hu l.toNat hh.toNat (by omega) (by omega)
end sound
section sound
variable {P:Program} {T:Nat->Option TI} {E:Env} {W:World} {ev:Operand->AV} {ρ:Operand->Value}
theorem jO {o:Oper}{x:AV}{v:Value}(h:(execOp ρ o).run P W= .ok (.value v) W)(hx:aK E W x v):kW P E W ρ o x:=⟨v,h,hx⟩
theorem a8y (hev:∀x,aK E W (ev x) (ρ x))(o:Oper){x:Operand}(ho:o.op= .nilCheck x){c:Prop}{y:AV}(h:aW T (.nilCheck x) ev=some (c,y)):kW P E W ρ o y:=by
 have hx:=hev x
 simp only[aW]at h
 split at h<;>first|(simp only[e0a,e0i]at h;obtain⟨-,rfl⟩:=h)|cases h
 ·rename_i id off e
  rw[e]at hx
  obtain⟨b,hb,hr⟩:=hx
  exact jO (by simp only[execOp,ho,hr,d9u]) ⟨b,hb,rfl⟩
 ·rename_i id k i off e
  rw[e]at hx
  obtain⟨b,hb,hr⟩:=hx
  exact jO (by simp only[execOp,ho,hr,d9u]) ⟨b,hb,rfl⟩
 ·rename_i y p e
  rw[e]at hx
  have hx':=hx
  obtain⟨b,q,hr,_⟩:=hx
  refine jO (v:=ρ x) ?_ hx'
  rw[hr]
  simp only[execOp,ho,hr,d9u]
 ·rename_i g n m f c e
  rw[e]at hx
  have hx':=hx
  obtain⟨fs,cs,hr,_⟩:=hx
  refine jO (v:=ρ x) ?_ hx'
  rw[hr]
  simp only[execOp,ho,hr,d9u]
 ·rename_i g n m f c e
  rw[e]at hx
  have hx':=hx
  obtain⟨fs,cs,hr,_⟩:=hx
  refine jO (v:=ρ x) ?_ hx'
  rw[hr]
  simp only[execOp,ho,hr,d9u]
theorem c9k (hev:∀x,aK E W (ev x) (ρ x))(o:Oper){op:UnOp}{t:Nat}{x:Operand}(ho:o.op= .unOp op t x){c:Prop}{y:AV}(h:aW T (.unOp op t x) ev=some (c,y))(hc:c):kW P E W ρ o y:=by
 have hx:=hev x
 simp only[aW]at h
 split at h<;>first|(simp only[e0a,e0i]at h;obtain⟨rfl,rfl⟩:=h)|cases h
 ·rename_i b e
  rw[e]at hx
  have hr:ρ x= .bool b:=hx
  exact jO (by simp only[execOp,ho,hr,Op.unary,d9t,d9u,d9q]) rfl
 ·rename_i k i e
  rw[e]at hx
  have hr:ρ x= .int k i:=hx
  exact jO (by simp only[execOp,ho,hr,Op.unary,Op.intArith,jX hc,d9t,d9u,d9q]) rfl
theorem b3t (hT:bQ P T)(hev:∀x,aK E W (ev x) (ρ x))(o:Oper){s t:Nat}{x:Operand}(ho:o.op= .convert s t x){c:Prop}{y:AV}(h:aW T (.convert s t x) ev=some (c,y))(hc:c):kW P E W ρ o y:=by
 have hx:=hev x
 simp only[aW]at h
 split at h
 ·rename_i ti k z sz by_ qe mp k' i e1 e2 e3
  simp only[e0a,e0i]at h
  obtain⟨rfl,rfl⟩:=h
  rw[e3]at hx
  have hr:ρ x= .int k' i:=hx
  have hs:=hT s _ e1
  have ht:=hT t _ e2
  refine jO (v:= .int k i) ?_ rfl
  have:(convert s t (.int k' i)).run P W= .ok (.int k i) W:=by
   simp only[convert,d9t,hs.und,ht.und,d9q]
   cases ti.d<;>simp only[Conv.intToInt,d9u,jX hc]
  simp only[execOp,ho,hr,d9t,this,d9q,d9u]
 ·cases h
theorem a8x (hev:∀x,aK E W (ev x) (ρ x))(o:Oper){g:Nat}{first captured:Array Operand}(ho:o.op= .makeFunc (.func g) first captured):
  kW P E W ρ o (.fn g first.size captured.size (λj=>ev (first.getD j (.const undef))) λj=>ev (captured.getD j (.const undef))):=by
 refine jO (v:= .func (.func g) (first.map ρ) (captured.map ρ)) (by simp only[execOp,ho,Instr.makeFunc,d9t,d9u,d9q]) ?_
 have key:∀(l:Array Operand) (j:Nat),j<l.size->aK E W (ev (l.getD j (.const undef))) ((l.map ρ).getD j undef):=by
  intro l j hj
  have e1:(l.map ρ).getD j undef=ρ (l.getD j (.const undef)):=by
   rw[d9x,d9x,e6s,e0y hj];rfl
  rw[e1];exact hev _
 exact⟨_,_,rfl,by simp,by simp,key first,key captured⟩
theorem c4r (hT:bQ P T)(hev:∀x,aK E W (ev x) (ρ x))(o:Oper){s i:Nat}{x:Operand}(ho:o.op= .field s x i){c:Prop}{y:AV}(h:aW T (.field s x i) ev=some (c,y))(hc:c):kW P E W ρ o y:=by
 have hx:=hev x
 simp only[aW]at h
 cases hs:T s with
 |none=>rw[hs]at h;cases h
 |some ti=>
  rw[hs]at h
  simp only[]at h
  cases hf:rB T ti i with
  |none=>rw[hf]at h;cases h
  |some p=>
   obtain⟨q,tf⟩:=p
   rw[hf]at h
   simp only[]at h
   unfold rB at hf
   split at hf
   ·rename_i fs hd
    split at hf
    ·rename_i f hfi
     split at hf
     ·rename_i tf' htf
      simp only[e0a,e0i]at hf
      obtain⟨rfl,rfl⟩:=hf
      obtain⟨cs,v,hr,hp,hy⟩:=mS (P:=P) (W:=W) hT htf hx h hc
      have hk:=hT s ti hs
      refine jO (v:=v) ?_ hy
      simp only[execOp,ho,hr,Instr.field,d9t,hk.und,hd,d9q,hfi,asAgg,d9u,hp]
     ·cases hf
    ·cases hf
   ·cases hf
theorem c4s (hT:bQ P T)(hev:∀x,aK E W (ev x) (ρ x))(o:Oper){t:Nat}{x i:Operand}(ho:o.op= .index t x i){c:Prop}{y:AV}(h:aW T (.index t x i) ev=some (c,y))(hc:c):kW P E W ρ o y:=by
 have hx:=hev x
 simp only[aW]at h
 cases ht:T t with
 |none=>rw[ht]at h;cases h
 |some ti=>
  cases hi:asI (ev i)with
  |none=>rw[ht,hi]at h;cases h
  |some p=>
   obtain⟨k,ix⟩:=p
   have hri:=oF (hev i) hi
   rw[ht,hi]at h
   simp only[]at h
   split at h
   ·rename_i len e hd
    cases he:T e with
    |none=>rw[he]at h;cases h
    |some te=>
     rw[he]at h
     simp only[]at h
     cases hg:te.agg with
     |true=>rw[hg]at h;cases h
     |false=>
      rw[hg]at h
      simp only[e2n]at h
      cases hz:Nat.beq te.size 1 with
      |false=>rw[hz]at h;cases h
      |true=>
       rw[hz]at h
       simp only[e0q]at h
       have hz1:=d9s hz
       split at h
       ·rename_i c' y' hp
        simp only[e0a,e0i]at h
        obtain⟨rfl,rfl⟩:=h
        obtain⟨h0,h1,hc'⟩:=hc
        obtain⟨cs,v,hr,hpr,hy⟩:=mS (P:=P) (W:=W) hT he hx hp hc'
        have hk:=hT t ti ht
        have hke:=hT e te he
        refine jO (v:=v) ?_ hy
        simp only[execOp,ho,hr,hri,Instr.index,asIntOf,d9t,d9u,d9q,hk.und,hd,Sem.run_ite,h0,h1,and_self,e4b,hke.sizeOf,hz1,e7s,hpr]
       ·cases h
   ·cases h
theorem b3u (hev:∀x,aK E W (ev x) (ρ x))(o:Oper){i:Nat}{x:Operand}(ho:o.op= .extract x i){c:Prop}{y:AV}(h:aW T (.extract x i) ev=some (c,y))(hc:c):kW P E W ρ o y:=by
 have hx:=hev x
 simp only[aW]at h
 split at h
 ·rename_i n f e
  simp only[e0a,e0i]at h
  obtain⟨rfl,rfl⟩:=h
  rw[e]at hx
  obtain⟨cs,hr,hs,hcs⟩:=hx
  have hi:cs[i]?=some (cs.getD i undef):=by rw[d9x,e0y (by omega)];rfl
  exact jO (v:=cs.getD i undef) (by simp only[execOp,ho,hr,Instr.extract,hi,d9t,d9u,d9q]) (hcs i hc)
 ·rename_i n f e
  simp only[e0a,e0i]at h
  obtain⟨rfl,rfl⟩:=h
  rw[e]at hx
  obtain⟨cs,hr,hs,hcs⟩:=hx
  have hi:cs[i]?=some (cs.getD i undef):=by rw[d9x,e0y (by omega)];rfl
  exact jO (v:=cs.getD i undef) (by simp only[execOp,ho,hr,Instr.extract,hi,d9t,d9u,d9q]) (hcs i hc)
 ·cases h
theorem zQ (hT:bQ P T)(hev:∀x,aK E W (ev x) (ρ x))(o:Oper){s i:Nat}{x:Operand}(ho:o.op= .fieldAddr s x i){c:Prop}{y:AV}(h:aW T (.fieldAddr s x i) ev=some (c,y)):kW P E W ρ o y:=by
 have hx:=hev x
 simp only[aW]at h
 cases hs:T s with
 |none=>rw[hs]at h;cases h
 |some ti=>
  rw[hs]at h
  simp only[]at h
  cases hf:rB T ti i with
  |none=>rw[hf]at h;cases h
  |some p=>
   obtain⟨q,tf⟩:=p
   rw[hf]at h
   simp only[]at h
   cases hz:Nat.beq tf.size 0 with
   |true=>rw[hz]at h;cases h
   |false=>
    rw[hz]at h
    simp only[e2n]at h
    split at h<;>first|(simp only[e0a,e0i]at h;obtain⟨-,rfl⟩:=h)|cases h
    ·rename_i id off e
     rw[e]at hx
     obtain⟨b,hb,hr⟩:=hx
     exact jO (by simp only[execOp,ho,hr,d9t,lQ hT hs hf hz,d9q,d9u]) ⟨b,hb,rfl⟩
    ·rename_i id k j off e
     rw[e]at hx
     obtain⟨b,hb,hr⟩:=hx
     exact jO (v:= .pointer (some ⟨b,j*k+off+q,none⟩)) (by simp only[execOp,ho,hr,d9t,lQ hT hs hf hz,d9q,d9u]) ⟨b,hb,by rw[e3j]⟩
    ·rename_i y p e
     rw[e]at hx
     obtain⟨b,p',hr,hm⟩:=hx
     exact jO (v:= .pointer (some ⟨b,p'+p+q,none⟩)) (by simp only[execOp,ho,hr,d9t,lQ hT hs hf hz,d9q,d9u]) ⟨b,p',by rw[e3j],hm⟩
theorem a3i (hT:bQ P T)(hev:∀x,aK E W (ev x) (ρ x))(o:Oper){t:Nat}{x i:Operand}(ho:o.op= .indexAddr t x i){c:Prop}{y:AV}(h:aW T (.indexAddr t x i) ev=some (c,y))(hc:c):kW P E W ρ o y:=by
 have hx:=hev x
 simp only[aW]at h
 cases ht:T t with
 |none=>rw[ht]at h;cases h
 |some ti=>
  cases hi:asI (ev i)with
  |none=>rw[ht,hi]at h;cases h
  |some p=>
   obtain⟨k,ix⟩:=p
   have hri:=oF (hev i) hi
   rw[ht,hi]at h
   simp only[]at h
   split at h
   ·rename_i e hd
    cases he:T e with
    |none=>rw[he]at h;cases h
    |some te=>
     rw[he]at h
     simp only[]at h
     split at h
     ·rename_i tt k' n f e1
      cases hz:Nat.beq k' te.size with
      |false=>rw[hz]at h;cases h
      |true=>
       rw[hz]at h
       simp only[e0q,e0a,e0i]at h
       obtain⟨rfl,rfl⟩:=h
       have hz1:=d9s hz
       rw[e1]at hx
       obtain⟨a,cap,hr,hn,_,ha,hm⟩:=hx
       have hlt:ix.toNat<n:=by omega
       cases a with
       |none=>have:=ha rfl;omega
       |some a=>
        obtain⟨hsp,this⟩:=hm a rfl ix.toNat hlt
        obtain⟨ab,ao,asp⟩:=a
        simp only at hsp
        subst hsp
        refine jO (v:= .pointer (some ⟨ab,ao+ix.toNat*te.size,none⟩)) (by simp only[execOp,ho,hr,hri,e1y,d9t,mW hT ht hd he hc.1 hc.2,d9q,d9u]) ⟨ab,ao+ix.toNat*te.size,rfl,?_⟩
        rw[<-hz1];exact this
     ·rename_i id k' off n e1
      cases hz:Nat.beq k' te.size with
      |false=>rw[hz]at h;cases h
      |true=>
       rw[hz]at h
       simp only[e0q,e0a,e0i]at h
       obtain⟨rfl,rfl⟩:=h
       have hz1:=d9s hz
       rw[e1]at hx
       rcases hx with⟨_,hn,_⟩|⟨b,q,cap,cc,T',hb,hr,hn,_,_,hs⟩
       ·omega
       ·rcases hs with⟨rfl,_⟩|⟨h1,_⟩
        ·refine jO (v:= .pointer (some ⟨b,off*k'+ix.toNat*te.size,none⟩)) (by simp only[execOp,ho,hr,hri,d9t,mW hT ht hd he hc.1 hc.2,d9q,d9u]) ⟨b,hb,?_⟩
         rw[<-hz1,e1s];rfl
        ·omega
     ·cases h
   ·rename_i len e hd
    cases he:T e with
    |none=>rw[he]at h;cases h
    |some te=>
     rw[he]at h
     simp only[]at h
     split at h
     ·rename_i y' p' e1
      simp only[e0a,e0i]at h
      obtain⟨rfl,rfl⟩:=h
      rw[e1]at hx
      obtain⟨b,q,hr,hm⟩:=hx
      exact jO (v:= .pointer (some ⟨b,q+p'+ix.toNat*te.size,none⟩)) (by simp only[execOp,ho,hr,hri,d9t,iR hT ht hd he hc.1 hc.2,d9q,d9u]) ⟨b,q,by rw[e3j],hm⟩
     ·rename_i id k' i0 e1
      cases hz:Nat.beq k' te.size with
      |false=>
       rw[hz]at h
       simp only[e2n,e0a,e0i]at h
       obtain⟨rfl,rfl⟩:=h
       rw[e1]at hx
       obtain⟨b,hb,hr⟩:=hx
       exact jO (v:= .pointer (some ⟨b,i0*k'+ix.toNat*te.size,none⟩)) (by simp only[execOp,ho,hr,hri,e2j,d9t,iR hT ht hd he hc.1 hc.2,d9q,d9u]) ⟨b,hb,rfl⟩
      |true=>
       rw[hz]at h
       simp only[e0q,e0a,e0i]at h
       obtain⟨rfl,rfl⟩:=h
       have hz1:=d9s hz
       rw[e1]at hx
       obtain⟨b,hb,hr⟩:=hx
       refine jO (v:= .pointer (some ⟨b,i0*k'+ix.toNat*te.size,none⟩)) (by simp only[execOp,ho,hr,hri,e2j,d9t,iR hT ht hd he hc.1 hc.2,d9q,d9u]) ⟨b,hb,?_⟩
       rw[<-hz1,e1s];rfl
     ·cases h
   ·cases h
theorem c4t (hT:bQ P T)(hev:∀x,aK E W (ev x) (ρ x))(o:Oper){t:Nat}{x:Operand}{lo hi mx:Option Operand}(ho:o.op= .slice t x lo hi mx){c:Prop}{y:AV}(h:aW T (.slice t x lo hi mx) ev=some (c,y))(hc:c):kW P E W ρ o y:=by
 have hx:=hev x
 simp only[aW]at h
 split at h
 ·rename_i ti l hh m ht hl hhi hm
  split at h
  ·rename_i e hd
   cases he:T e with
   |none=>rw[he]at h;cases h
   |some te=>
    rw[he]at h
    simp only[]at h
    split at h
    ·rename_i tt k n f e1
     cases hz:Nat.beq k te.size with
     |false=>rw[hz]at h;cases h
     |true=>
      rw[hz]at h
      have hz1:=d9s hz
      rw[e1]at hx
      obtain⟨ao,cap,hr,h1,h2,h3,hy⟩:=c4w h hc hx
      refine jO ?_ hy
      rw[hz1]
      simp only[execOp,ho,hr,d9t,sH (P:=P) (W:=W) hT hev ht hd he hl hhi hm h1 h2 h3,d9q,d9u]
    ·rename_i id k off n e1
     cases hz:Nat.beq k te.size with
     |false=>rw[hz]at h;cases h
     |true=>
      rw[hz]at h
      have hz1:=d9s hz
      rw[e1]at hx
      obtain⟨ao,cap,hr,h1,h2,h3,hy⟩:=b4b h hc hx
      refine jO ?_ hy
      rw[hz1]
      simp only[execOp,ho,hr,d9t,sH (P:=P) (W:=W) hT hev ht hd he hl hhi hm h1 h2 h3,d9q,d9u]
    ·cases h
  ·cases h
 ·cases h
theorem rS (hT : bQ P T) : ∀ (fs : List Field), (∀ f ∈ fs, ∃ tf, T f.type = some tf) →
    ∃ r, (fs.mapM fun (f : Field) => (do pure (f.offset, ← sizeOf f.type) : Sem (Nat × Nat))).run P W = .ok r W ∧ r.length = fs.length ∧ ∀ (i : Nat) (f : Field) (tf : TI), fs[i]? = some f → T f.type = some tf → r[i]? = some (f.offset, tf.size)
  | [], _ => ⟨[], rfl, rfl, by simp⟩
  | f :: fs, h => by
    obtain ⟨tf, htf⟩ := h f (by simp)
    obtain ⟨r, hr, hl, hx⟩ := rS hT fs fun g hg => h g (by simp [hg])
    refine ⟨(f.offset, tf.size) :: r, ?_, by simp [hl], ?_⟩
    · rw [e6p]
      simp only [d9t, (hT _ _ htf).sizeOf, d9q, d9u, hr]
    · intro i g tg hg htg
      cases i with
      | zero => simp at hg; subst hg; rw [htf] at htg; cases htg; rfl
      | succ i => simpa using hx i g tg (by simpa using hg) htg
theorem qS {ti:TI}{t:Nat}(hk:TOk P ti t)(j:Nat)(hj:j<ti.size):aK E W (.d (.v (ti.z.cells.getD j undef))) (ti.z.cells.getD j undef)/\(ti.z.cells.getD j undef).oneCell'=true:=by
 refine⟨rfl,hk.z1 _ ?_⟩
 have hlt:j<ti.z.cells.size:=by rw[hk.zs];exact hj
 rw[d9x,e0y hlt]
 simp
theorem c4q (hT:bQ P T)(hev:∀x,aK E W (ev x) (ρ x))(o:Oper){t:Nat}{parts:Array (Nat×Operand)}(ho:o.op= .build t parts){c:Prop}{y:AV}(h:aW T (.build t parts) ev=some (c,y)):kW P E W ρ o y:=by
 simp only[aW]at h
 cases ht:T t with
 |none=>rw[ht]at h;cases h
 |some ti=>
  rw[ht]at h
  simp only[]at h
  cases hp:mV T ti ev parts.toList with
  |none=>rw[hp]at h;cases h
  |some l=>
   rw[hp]at h
   simp only[]at h
   split at h
   ·rename_i fs hd
    cases ha:(fs.toList.all λf=>(T f.type).isSome)with
    |false=>rw[ha]at h;cases h
    |true=>
     rw[ha]at h
     simp only[e0q,e0a,e0i]at h
     obtain⟨-,rfl⟩:=h
     have hk:=hT t ti ht
     obtain⟨r,hr,hl,hx⟩:=rS (P:=P) (W:=W) hT fs.toList λf hf=>by
      have:=e1d.1 ha f hf
      exact Option.isSome_iff_exists.1 this
     obtain⟨cs,hf,hs,hcs⟩:=iH (P:=P) (T:=T) (E:=E) (W:=W) (ev:=ev) (ρ:=ρ) (ti:=ti) (places:=λi=>r.toArray[i]?) parts.toList (λj=> .d (.v (ti.z.cells.getD j undef))) ti.z.cells l hT hev hp hk.zs
      (λi q tf hf=>by
        unfold rB at hf
        rw[hd]at hf
        simp only[]at hf
        split at hf
        ·rename_i f hfi
         split at hf
         ·rename_i tf' htf
          simp only[e0a,e0i]at hf
          obtain⟨rfl,rfl⟩:=hf
          simpa using hx i f tf' (by simpa using hfi) htf
         ·cases hf
        ·cases hf) (λj hj=>qS hk j hj)
     refine jO (v:= .agg cs) ?_ ⟨cs,rfl,hs,hcs⟩
     have hm:(fs.mapM λ(f:Field)=>(do pure (f.offset,<-sizeOf f.type):Sem (Nat×Nat))).run P W= .ok r.toArray W:=by
      rw[e3o,e7g,hr];rfl
     have hb:(Instr.build t (parts.map λ(i,x)=>(i,ρ x))).run P W= .ok (.agg cs) W:=by
      simp only[Instr.build,d9t,hk.zeroValue,hk.und,hd,d9q]
      rw[hm]
      simp only[d9q]
      rw[e4f,hf]
      rfl
     simp only[execOp,ho,d9t,hb,d9q,d9u]
   ·rename_i n e hd
    split at h
    ·rename_i te hte hpl
     cases ha:ti.z.cells.toList.all c3j with
     |false=>rw[ha]at h;cases h
     |true=>
      rw[ha]at h
      simp only[e0q,e0a,e0i]at h
      obtain⟨-,rfl⟩:=h
      have hk:=hT t ti ht
      have hpe:parts= #[]:=by rw[<-e2w];exact hpl
      subst hpe
      refine jO (v:= .agg ti.z.cells) ?_ ⟨ti.z.cells,rfl,hk.zs,λj hj=>?_⟩
      ·have hb:(Instr.build t #[]).run P W= .ok (.agg ti.z.cells) W:=by
        simp only[Instr.build,d9t,hk.zeroValue,hk.und,hd,d9q,(hT e te hte).sizeOf,Instr.fill,d9u]
       simp only[execOp,ho,d9t,e3h,e3c,hb,d9q,d9u]
      ·have hlt:j<ti.z.cells.size:=by rw[hk.zs];exact hj
       have hz:ti.z.cells.getD j undef= .int .i64 0:=by
        rw[d9x,e0y hlt]
        have:=e1d.1 ha ti.z.cells[j] (by simp)
        simp only[e2v]
        unfold c3j at this
        split at this
        ·assumption
        ·cases this
       rw[hz];exact⟨rfl,rfl⟩
    ·cases h
   ·cases h
theorem d4n (hT:bQ P T)(hev:∀x,aK E W (ev x) (ρ x))(o:Oper){args:Array Operand}{ts:Array Nat}(ho:o.op= .call {callee:= .builtin .len,args,argTypes:=ts}){c:Prop}{y:AV}
  (h:cI T .len args.toList ts.toList ev=some (c,y)):kW P E W ρ o y:=by
 simp only[cI]at h
 split at h
 ·rename_i x t ea et
  have hx:=hev x
  have ea':args= #[x]:=by rw[<-e2w];simpa using ea
  have et':ts= #[t]:=by rw[<-e2w];simpa using et
  subst ea' et'
  have step:∀v,(Builtin.len_ #[t] o.type #[ρ x]).run P W= .ok v W->(execOp ρ o).run P W= .ok (.value v) W:=by
   intro v hv
   simp only[execOp,ho,resolve,invoke,builtin,d9t,d9u,d9q,e3h,e0o,e3c,hv]
  cases ht:T t with
  |none=>rw[ht]at h;cases h
  |some ti=>
   rw[ht]at h
   simp only[]at h
   have hk:=hT t ti ht
   split at h
   ·rename_i e hd
    split at h<;>first|(simp only[e0a,e0i]at h;obtain⟨-,rfl⟩:=h)|cases h
    ·rename_i tt k n f e1
     rw[e1]at hx
     obtain⟨a,cap,hr,_⟩:=hx
     refine jO (step _ ?_) rfl
     simp only[Builtin.len_,hr,e0t,e0w,d9t,hk.und,hd,d9q,goInt,d9u]
    ·rename_i id k off n e1
     rw[e1]at hx
     have hr:∃a cap,ρ x= .slice a n cap:=by
      rcases hx with⟨_,rfl,hr⟩|⟨b,q,cap,cc,T',_,hr,_⟩
      ·exact⟨_,_,hr⟩
      ·exact⟨_,_,hr⟩
     obtain⟨a,cap,hr⟩:=hr
     refine jO (step _ ?_) rfl
     simp only[Builtin.len_,hr,e0t,e0w,d9t,hk.und,hd,d9q,goInt,d9u]
    ·rename_i a n cap e1
     rw[e1]at hx
     have hr:ρ x= .slice a n cap:=hx
     refine jO (step _ ?_) rfl
     simp only[Builtin.len_,hr,e0t,e0w,d9t,hk.und,hd,d9q,goInt,d9u]
   ·rename_i n e hd
    simp only[e0a,e0i]at h
    obtain⟨-,rfl⟩:=h
    refine jO (step _ ?_) rfl
    simp only[Builtin.len_,e0t,e0w,d9t,hk.und,hd,d9q,goInt,d9u]
   ·cases h
 ·cases h
theorem a5w (hev:∀x,aK E W (ev x) (ρ x))(o:Oper)(b:Bool){args:Array Operand}{ts:Array Nat}(ho:o.op= .call {callee:= .builtin (if b then .max else .min),args,argTypes:=ts}){c:Prop}{y:AV}
  (h:cI T (if b then .max else .min) args.toList ts.toList ev=some (c,y)):kW P E W ρ o y:=by
 cases hl:args.toList with
 |nil=>cases b<;>simp only[cI,hl,e2l,e3g,e4b]at h<;>cases h
 |cons x r=>
  cases ha:asI (ev x)with
  |none=>cases b<;>simp only[cI,hl,ha,e2l,e3g,e4b]at h<;>cases h
  |some p=>
   obtain⟨k,i⟩:=p
   have hx:=oF (hev x) ha
   have hlist:(args.map ρ).toList= .int k i::r.map ρ:=by rw[e4f,hl,e0o,hx]
   have hrep:∀j,j<(r.map ev).length->aK E W ((r.map ev).getD j (.d .top)) ((r.map ρ).getD j undef):=by
    intro j hj
    have hj':j<r.length:=by simpa using hj
    rw[d9r,d9r,e0j,e0j,e0e hj']
    exact hev _
   cases b with
   |true=>
    simp only[cI,hl,ha,e4b,e0u]at h
    obtain⟨m,hm,he⟩:=h
    simp only[e0i]at he
    obtain⟨-,rfl⟩:=he
    refine jO (v:= .int k m) ?_ rfl
    have:=b2u (P:=P) (r.map ev) (r.map ρ) i m (by simp) hrep hm
    simp only[execOp,ho,e4b,resolve,invoke,builtin,d9t,d9u,d9q,Builtin.max_,hlist,this]
   |false=>
    simp only[cI,hl,ha,e2l,e3g,e0u]at h
    obtain⟨m,hm,he⟩:=h
    simp only[e0i]at he
    obtain⟨-,rfl⟩:=he
    refine jO (v:= .int k m) ?_ rfl
    have:=b2w (P:=P) (r.map ev) (r.map ρ) i m (by simp) hrep hm
    simp only[execOp,ho,e2l,e3g,resolve,invoke,builtin,d9t,d9u,d9q,Builtin.min_,hlist,this]
theorem a8w (hT:bQ P T)(hev:∀x,aK E W (ev x) (ρ x))(o:Oper){c:Prop}{y:AV}(h:aW T o.op ev=some (c,y))(hc:c):kW P E W ρ o y:=by
 obtain⟨dst,op,ty,pos,after,guard⟩:=o
 simp only at h
 revert h
 cases op with
 |move x=>intro h;simp only[aW,e0a,e0i]at h;obtain⟨-,rfl⟩:=h;exact jO (by simp only[execOp,d9u]) (hev x)
 |assign x=>intro h;simp only[aW,e0a,e0i]at h;obtain⟨-,rfl⟩:=h;exact jO (by simp only[execOp,d9u]) (hev x)
 |pick x a b=>
  intro h
  have hx:=hev x
  simp only[aW]at h
  split at h
  ·rename_i t e
   rw[e]at hx
   have hr:ρ x= .bool t:=hx
   cases t<;>simp only[e0a,e0i]at h<;>obtain⟨-,rfl⟩:=h
   ·exact jO (by simp only[execOp,hr,asBool,d9t,d9u,d9q,e2l,e3g]) (hev b)
   ·exact jO (by simp only[execOp,hr,asBool,d9t,d9u,d9q,e4b]) (hev a)
  ·cases h
 |nilCheck x=>exactλh=>a8y hev _ rfl h
 |binOp op t x y t'=>
  intro h
  simp only[aW]at h
  split at h
  ·rename_i c' v hb
   simp only[e0a,e0i]at h
   obtain⟨rfl,rfl⟩:=h
   exact c4p hT hev _ rfl hb hc
  ·cases h
 |unOp op t x=>exactλh=>c9k hev _ rfl h hc
 |convert s t x=>exactλh=>b3t hT hev _ rfl h hc
 |makeFunc fn first captured=>
  cases fn with
  |func g=>intro h;simp only[aW,e0a,e0i]at h;obtain⟨-,rfl⟩:=h;exact a8x hev _ rfl
  |_=>exactλh=>by simp only[aW]at h;cases h
 |fieldAddr s x i=>exactλh=>zQ hT hev _ rfl h
 |field s x i=>exactλh=>c4r hT hev _ rfl h hc
 |indexAddr t x i=>exactλh=>a3i hT hev _ rfl h hc
 |index t x i=>exactλh=>c4s hT hev _ rfl h hc
 |extract x i=>exactλh=>b3u hev _ rfl h hc
 |slice t x lo hi mx=>exactλh=>c4t hT hev _ rfl h hc
 |build t parts=>exactλh=>c4q hT hev _ rfl h
 |call cl=>
  obtain⟨callee,args,ts⟩:=cl
  intro h
  cases callee with
  |builtin b=>
   simp only[aW]at h
   cases b with
   |len=>exact d4n hT hev _ rfl h
   |max=>exact a5w hev _ true rfl h
   |min=>exact a5w hev _ false rfl h
   |_=>simp only[cI]at h;cases h
  |_=>simp only[aW]at h;cases h
 |_=>exactλh=>by simp only[aW]at h;cases h
end sound
def a2q (ti:TI)(hp:Nat->Option Res):AV->Option (Prop×AV)
  | .ref id off=>match hp id with
    |some (.cs _ n f)=>bif ti.agg then some (off+ti.size<=n,.ag ti.size λj=>f (j+off))else some (off<n,f off)
    |_=>none
  | .el id k i off=>match hp id with
    |some (.row _ _ k' n f)=>bif Nat.beq k k' then
        (bif ti.agg then
          (bif Nat.ble (off+ti.size) k then some (i<n,.d (.ag ti.size λj=>sX (f i) (j+off)))
            else bif Nat.beq k 1&&Nat.beq off 0 then some (i+ti.size<=n,.d (.ag ti.size λj=>sX (f (j+i)) 0))else none)
          else bif Nat.blt k 4 then(bif Nat.blt off k then some (i<n,.d (sX (f i) off))else none)else some (i<n/\off<k,.d (sX (f i) off)))
        else none
    |_=>none
  | .d (.pt x o)=>match x with
    | .ag n f=>bif ti.agg then some (o+ti.size<=n,.d (.ag ti.size λj=>f (j+o)))else some (o<n,.d (f o))
    | .top=>none
    |y=>bif ti.agg then some (o=0/\ti.size=1,.d (.ag 1 λ_=>y))else some (o=0,.d y)
  |_=>none
theorem fJ {P:Program}{W:World}{t:Nat}{ti:TI}(hk:TOk P ti t)(hg:ti.agg=false){b o:Nat}{u:Value}(h:W.cell? ⟨b,o,none⟩=some u):(loadVar t ⟨b,o,none⟩).run P W= .ok u W:=by
 simp only[loadVar,d9t,hk.isAgg,hg,d9q,e2l,e3g,run_load,h]
theorem dT {P:Program}{W:World}{t:Nat}{ti:TI}(hk:TOk P ti t)(hg:ti.agg=true){b o:Nat}(g:Nat->Value)(h:∀j,j<ti.size->W.cell? ⟨b,o+j,none⟩=some (g j)):
  (loadVar t ⟨b,o,none⟩).run P W= .ok (.agg ((List.range ti.size).map g).toArray) W:=by
 have hadd:∀j,(⟨b,o,none⟩:Addr).add j=⟨b,o+j,none⟩:=λj=>by unfold Addr.add;split<;>simp_all
 have:=run_loadCells_list (P:=P) W ⟨b,o,none⟩ ((List.range ti.size).map g) (λj v hj=>by
  rw[e0j]at hj
  by_cases hlt:j<ti.size
  ·rw[e3p hlt]at hj
   simp only[e1y,e0a]at hj
   rw[hadd,h j hlt,hj]
  ·rw[e1w (by simpa using hlt)]at hj;cases hj)
 simp only[e0z,e2o]at this
 simp only[loadVar,d9t,hk.isAgg,hg,d9q,e4b,hk.sizeOf,this,d9u]
theorem cX (n:Nat)(g:Nat->Value)(j:Nat)(h:j<n):((List.range n).map g).toArray.getD j undef=g j:=by
 rw[d9x,e0t,e0j,e3p h];rfl
theorem kC {S:Nat->Prop}{W:World}{k:Nat}{x:DV}{c:Nat->Value}(h:pD S W k x c){j:Nat}(hj:j<k):Rep S W (sX x j) (c j):=by
 cases x with
 |ag n f=>exact h.2 j (by have:=h.1;omega)
 |top=>exact trivial
 |v y=>obtain⟨rfl,h⟩:=h;obtain rfl:j=0:=by omega
       exact h
 |tp n f=>obtain⟨rfl,h⟩:=h;obtain rfl:j=0:=by omega
          exact h
 |sl t k n f=>obtain⟨rfl,h⟩:=h;obtain rfl:j=0:=by omega
              exact h
 |pt y o=>obtain⟨rfl,h⟩:=h;obtain rfl:j=0:=by omega
          exact h
 |fn g n m f c=>obtain⟨rfl,h⟩:=h;obtain rfl:j=0:=by omega
                exact h
 |mp kt m=>obtain⟨rfl,h⟩:=h;obtain rfl:j=0:=by omega
           exact h
theorem cK {W:World}{b:Nat}{c:Array Value}{T:TypeId}{fz:Nat×Nat}(h:W.heap[b]?=some (Obj.cells c T fz)){o:Nat}(ho:o<c.size):W.cell? ⟨b,o,none⟩=some (c.getD o undef):=by
 simp only[World.cell?,h,Option.isSome_none,e2l,e3g]
 rw[d9x,e0y ho];rfl
theorem c3u {S:Nat->Prop}{W:World}{x:DV}{b o:Nat}(h:b6e S W x b o)(hx:∀n f,x≠ .ag n f)(ht:x≠ .top):one S W (Rep S W x) b o:=by
 cases x with
 |ag n f=>exact absurd rfl (hx n f)
 |top=>exact absurd rfl ht
 |_=>exact h
theorem uG {P:Program}{T:Nat->Option TI}(hT:bQ P T){B:Base}{Fr:Nat->Prop}{E:Env}{st:St}{a:Act}{W:World}(hs:Sat B Fr E st a W){t:Nat}{ti:TI}(ht:T t=some ti){ad:AV}{u:Value}(hu:aK E W ad u)
  {c:Prop} {x:AV} (h:a2q ti st.hp ad=some (c,x)) (hc:c):∃v,(Instr.loadAt t u).run P W= .ok v W/\aK E W x v:=by
 have hk:=hT t ti ht
 have fin:∀{b o:Nat} {v:Value},u= .pointer (some ⟨b,o,none⟩)->(loadVar t ⟨b,o,none⟩).run P W= .ok v W->aK E W x v->∃v,(Instr.loadAt t u).run P W= .ok v W/\aK E W x v:=by
  intro b o v hu' hl hx
  exact⟨v,by rw[hu'];simp only[Instr.loadAt,Instr.sureAddr,d9t,d9u,d9q,hl],hx⟩
 unfold a2q at h
 split at h
 ·rename_i id off
  obtain⟨b,hb,hu'⟩:=hu
  split at h
  ·rename_i mt n f hid
   obtain⟨b',cc,T',hb',hh,hsz,_,hcells⟩:=hs.hp id _ hid
   rw[hb]at hb';cases hb'
   cases hg:ti.agg with
   |true=>
    rw[hg]at h
    simp only[e0q,e0a,e0i]at h
    obtain⟨rfl,rfl⟩:=h
    refine fin hu' (dT hk hg (λj=>cc.getD (off+j) undef) λj hj=>cK hh (by omega)) ⟨_,rfl,by simp,λj hj=>?_⟩
    rw[cX _ _ _ hj]
    have:=hcells (j+off) (by omega)
    rw[show off+j=j+off from e7v _ _]
    exact this
   |false=>
    rw[hg]at h
    simp only[e2n,e0a,e0i]at h
    obtain⟨rfl,rfl⟩:=h
    exact fin hu' (fJ hk hg (cK hh (by omega))) (hcells off hc).1
  ·cases h
 ·rename_i id k i off
  obtain⟨b,hb,hu'⟩:=hu
  split at h
  ·rename_i mt T' k' n f hid
   cases hkk:Nat.beq k k' with
   |false=>rw[hkk]at h;cases h
   |true=>
    rw[hkk]at h
    simp only[e0q]at h
    obtain rfl:=d9s hkk
    rcases hs.hp id _ hid with⟨hnil,hn0⟩|⟨b',cc,hb',hh,hsz,_,hcells⟩
    ·rw[hb]at hnil;cases hnil
    ·rw[hb]at hb';cases hb'
     have hbig:∀i',i'<n->∀o',o'<k->i'*k+o'<cc.size:=λi' hi' o' ho'=>by
      have:(i'+1)*k<=n*k:=e0v k hi'
      rw[e1s]at this;omega
     cases hg:ti.agg with
     |true=>
      rw[hg]at h
      simp only[e0q]at h
      cases hle:Nat.ble (off+ti.size) k with
      |true=>
       rw[hle]at h
       simp only[e0q,e0a,e0i]at h
       obtain⟨rfl,rfl⟩:=h
       have hle':=e1n hle
       refine fin hu' (dT hk hg (λj=>cc.getD (i*k+off+j) undef) λj hj=>cK hh (by have:=hbig i hc (off+j) (by omega);omega)) ⟨_,rfl,by simp,λj hj=>?_⟩
       rw[cX _ _ _ hj]
       have h1:=kC (hcells i hc).1 (j:=j+off) (by omega)
       have h2:=(hcells i hc).2 (j+off) (by omega)
       rw[show i*k+(j+off)=i*k+off+j from by omega]at h1 h2
       exact⟨h1,h2⟩
      |false=>
       rw[hle]at h
       simp only[e2n]at h
       cases h1:(Nat.beq k 1&&Nat.beq off 0)with
       |false=>rw[h1]at h;cases h
       |true=>
        rw[h1]at h
        simp only[e0q,e0a,e0i]at h
        obtain⟨rfl,rfl⟩:=h
        rw[e0d]at h1
        obtain rfl:=d9s h1.1
        obtain rfl:=d9s h1.2
        refine fin hu' (dT hk hg (λj=>cc.getD (i*1+0+j) undef) λj hj=>cK hh (by omega)) ⟨_,rfl,by simp,λj hj=>?_⟩
        rw[cX _ _ _ hj]
        have h1:=kC (hcells (j+i) (by omega)).1 (j:=0) (by omega)
        have h2:=(hcells (j+i) (by omega)).2 0 (by omega)
        rw[show(j+i)*1+0=i*1+0+j from by omega]at h1 h2
        exact⟨h1,h2⟩
     |false=>
      rw[hg]at h
      simp only[e2n]at h
      cases hk4:Nat.blt k 4 with
      |true=>
       rw[hk4]at h
       simp only[e0q]at h
       cases hlt:Nat.blt off k with
       |false=>rw[hlt]at h;cases h
       |true=>
        rw[hlt]at h
        simp only[e0q,e0a,e0i]at h
        obtain⟨rfl,rfl⟩:=h
        exact fin hu' (fJ hk hg (cK hh (hbig i hc off (aG.1 hlt)))) (kC (hcells i hc).1 (aG.1 hlt))
      |false=>
       rw[hk4]at h
       simp only[e2n,e0a,e0i]at h
       obtain⟨rfl,rfl⟩:=h
       exact fin hu' (fJ hk hg (cK hh (hbig i hc.1 off hc.2))) (kC (hcells i hc.1).1 hc.2)
  ·cases h
 ·rename_i x' o
  obtain⟨b,p,hu',hm⟩:=hu
  split at h
  ·rename_i n f
   cases hg:ti.agg with
   |true=>
    rw[hg]at h
    simp only[e0q,e0a,e0i]at h
    obtain⟨rfl,rfl⟩:=h
    have hall:∀j,j<ti.size->∃u,W.cell? ⟨b,p+o+j,none⟩=some u/\Rep E.S W (f (j+o)) u/\u.oneCell'=true:=λj hj=>by
     obtain⟨_,u,h1,h2,h3⟩:=hm (j+o) (by omega)
     exact⟨u,by rw[show p+o+j=p+(j+o)from by omega];exact h1,h2,h3⟩
    have hg':∀j,j<ti.size->W.cell? ⟨b,p+o+j,none⟩=some ((W.cell? ⟨b,p+o+j,none⟩).getD undef):=λj hj=>by
     obtain⟨u,h1,_⟩:=hall j hj;rw[h1];rfl
    refine fin hu' (dT hk hg _ hg') ⟨_,rfl,by simp,λj hj=>?_⟩
    rw[cX _ _ _ hj]
    obtain⟨u,h1,h2,h3⟩:=hall j hj
    rw[h1];exact⟨h2,h3⟩
   |false=>
    rw[hg]at h
    simp only[e2n,e0a,e0i]at h
    obtain⟨rfl,rfl⟩:=h
    obtain⟨_,u,h1,h2,_⟩:=hm o hc
    exact fin hu' (fJ hk hg h1) h2
  ·cases h
  ·rename_i hx ht'
   obtain⟨_,u,h1,h2,h3⟩:=c3u (x:=x') hm (λn f e=>hx n f e) ht'
   cases hg:ti.agg with
   |true=>
    rw[hg]at h
    simp only[e0q,e0a,e0i]at h
    obtain⟨rfl,rfl⟩:=h
    obtain⟨rfl,hs1⟩:=hc
    refine fin hu' (dT hk hg (λ_=>u) λj hj=>by rw[hs1]at hj;obtain rfl:j=0:=by omega
                                               exact h1) ⟨_,rfl,by simp[hs1],λj hj=>?_⟩
    rw[cX _ _ _ (by omega)]
    exact⟨h2,h3⟩
   |false=>
    rw[hg]at h
    simp only[e2n,e0a,e0i]at h
    obtain⟨rfl,rfl⟩:=h
    subst hc
    exact fin hu' (fJ hk hg h1) h2
 ·cases h
def St.set (st:St)(id:Nat)(r:Option Res):St:=St.rec (motive:=λ_=>St) (λn nx tm hp gh=>⟨n,nx,tm,λj=>bif Nat.beq j id then r else hp j,gh⟩) st
def Env.set (E:Env)(id:Nat)(l:Loc):Env:={E with ρ:=λj=>bif Nat.beq j id then l else E.ρ j}
theorem bD (i:Nat):Nat.beq i i=true:=e3k i
theorem cG {i j:Nat}(h:i≠j):Nat.beq i j=false:=by
 cases hb:Nat.beq i j with
 |false=>rfl
 |true=>exact absurd (d9s hb) h
theorem Sat.drop {B:Base}{Fr:Nat->Prop}{E:Env}{st:St}{a:Act}{W:World}(h:Sat B Fr E st a W)(id:Nat):Sat B Fr E (st.set id none) a W:=by
 have hne:∀i,(st.set id none).hp i≠none->st.hp i≠none/\i≠id:=by
  intro i hi
  by_cases e:i=id
  ·subst e;exact absurd (show(bif Nat.beq i i then none else st.hp i)=none by rw[bD];rfl) hi
  ·exact⟨by have:(bif Nat.beq i id then none else st.hp i)≠none:=hi;rw[cG e]at this;exact this,e⟩
 refine⟨h.size,h.tm,λi r hi=>?_,λi j b hi hj h1 h2=>h.dist i j b (hne i hi).1 (hne j hj).1 h1 h2,h.fr,h.sub,h.sup,h.s0,h.df,h.dn,h.dd,h.g,h.r0⟩
 have hi':(bif Nat.beq i id then none else st.hp i)=some r:=hi
 by_cases e:i=id
 ·subst e;rw[bD]at hi';cases hi'
 ·rw[cG e]at hi';exact h.hp i r hi'
theorem Ev.set {E:Env}{W:World}{id:Nat}{l:Loc}(h:E.ρ id= .un):Ev E W (E.set id l) W:=
 ⟨λ_ h=>h,λ_ _=>rfl,λi hi=>by
  have:i≠id:=λe=>hi (e▸h)
  show(bif Nat.beq i id then l else E.ρ i)=E.ρ i
  rw[cG this];rfl,λ_ c _ h=>⟨c,h,rfl⟩⟩
theorem Sat.newO {B:Base}{Fr:Nat->Prop}{E:Env}{st:St}{a:Act}{W:World}(h:Sat B Fr E st a W){id:Nat}(hf:Fr id){o:Obj}{r:Res}
  (hr:SatR B (E.set id (.at W.heap.size)) (W.alloc o) id r):
  Sat B (λj=>Fr j/\j≠id) (E.set id (.at W.heap.size)) (st.set id (some r)) a (W.alloc o):=by
 have hun:=h.fr id hf
 have hbel:Below W.heap.size W (W.alloc o):=(e5p _ W).alloc (e0g _) _
 have hev:Ev E W (E.set id (.at W.heap.size)) (W.alloc o):=
  ⟨λ_ h=>h,λb hb=>hbel.block b (h.S_lt b hb),(Ev.set (W:=W) hun).r,λb cc _ hcc=>⟨cc,(hbel.block b (d9w.1 hcc).1).trans hcc,rfl⟩⟩
 have hne:∀i,i≠id->(E.set id (.at W.heap.size)).ρ i=E.ρ i:=λi e=>by show(bif Nat.beq i id then _ else _)=_;rw[cG e];rfl
 have hid:(E.set id (.at W.heap.size)).ρ id= .at W.heap.size:=by show(bif Nat.beq id id then _ else _)=_;rw[bD];rfl
 have hh:∀i,i≠id->(st.set id (some r)).hp i=st.hp i:=λi e=>by show(bif Nat.beq i id then _ else _)=_;rw[cG e];rfl
 refine⟨h.size,λi hi=>(h.tm i hi).ev hev,λi r' hi=>?_,λi j b hi hj h1 h2=>?_,λj hj=>?_,h.sub,λb hb=>(h.sup b hb).imp (λx=>x) λx=>⟨x.1,e1g x.2 hbel.size⟩,λb hb=>⟨(h.s0 b hb).1,e1g (h.s0 b hb).2 hbel.size⟩,h.df,h.dn,λD hD=>?_,B.hG _ _ h.g (.of_below hbel),hev.r0 h.r0⟩
 ·by_cases e:i=id
  ·subst e
   have:(st.set i (some r)).hp i=some r:=by show(bif Nat.beq i i then _ else _)=_;rw[bD];rfl
   rw[this]at hi;cases hi;exact hr
  ·rw[hh i e]at hi
   exact(h.hp i r' hi).ev hev (λb hb=>hbel.block b (h.at_lt (by rw[hi];simp) hb)) (λb hb _ hn=>hn)
 ·by_cases ei:i=id<;>by_cases ej:j=id
  ·rw[ei,ej]
  ·subst ei
   rw[hid]at h1;cases h1
   rw[hne j ej]at h2
   rw[hh j ej]at hj
   exact absurd (h.at_lt hj h2) (e5g _)
  ·subst ej
   rw[hid]at h2;cases h2
   rw[hne i ei]at h1
   rw[hh i ei]at hi
   exact absurd (h.at_lt hi h1) (e5g _)
  ·rw[hne i ei]at h1;rw[hne j ej]at h2;rw[hh i ei]at hi;rw[hh j ej]at hj
   exact h.dist i j b hi hj h1 h2
 ·rw[hne j hj.2];exact h.fr j hj.1
 ·obtain⟨h1,h2,h3⟩:=h.dd D hD
  exact⟨h1,h2,(hbel.block D (d9w.1 h3).1).trans h3⟩
theorem Sat.new {B:Base}{Fr:Nat->Prop}{E:Env}{st:St}{a:Act}{W:World}(h:Sat B Fr E st a W){id:Nat}(hf:Fr id){c:Array Value}{T:TypeId}{r:Res}
 (hr:SatR B (E.set id (.at W.heap.size)) (W.alloc (.cells c T (0,0))) id r):
 Sat B (λj=>Fr j/\j≠id) (E.set id (.at W.heap.size)) (st.set id (some r)) a (W.alloc (.cells c T (0,0))):=h.newO hf hr
theorem Sat.newNil {B:Base}{Fr:Nat->Prop}{E:Env}{st:St}{a:Act}{W:World}(h:Sat B Fr E st a W){id:Nat}(hf:Fr id){T k:Nat}{f:Nat->DV}:
  Sat B (λj=>Fr j/\j≠id) (E.set id .nil) (st.set id (some (.row true T k 0 f))) a W:=by
 have hun:=h.fr id hf
 have hev:Ev E W (E.set id .nil) W:=Ev.set hun
 have hne:∀i,i≠id->(E.set id .nil).ρ i=E.ρ i:=λi e=>by show(bif Nat.beq i id then _ else _)=_;rw[cG e];rfl
 have hid:(E.set id .nil).ρ id= .nil:=by show(bif Nat.beq id id then _ else _)=_;rw[bD];rfl
 have hh:∀i,i≠id->(st.set id (some (.row true T k 0 f))).hp i=st.hp i:=λi e=>by show(bif Nat.beq i id then _ else _)=_;rw[cG e];rfl
 refine⟨h.size,λi hi=>(h.tm i hi).ev hev,λi r' hi=>?_,λi j b hi hj h1 h2=>?_,λj hj=>?_,h.sub,h.sup,h.s0,h.df,h.dn,h.dd,h.g,hev.r0 h.r0⟩
 ·by_cases e:i=id
  ·subst e
   have:(st.set i (some (.row true T k 0 f))).hp i=some (.row true T k 0 f):=by show(bif Nat.beq i i then _ else _)=_;rw[bD];rfl
   rw[this]at hi;cases hi;exact .inl ⟨hid,rfl⟩
  ·rw[hh i e]at hi
   exact(h.hp i r' hi).ev hev (λ_ _=>rfl) (λ_ _ _ hn=>hn)
 ·have hi':i≠id:=λe=>by subst e;rw[hid]at h1;cases h1
  have hj':j≠id:=λe=>by subst e;rw[hid]at h2;cases h2
  rw[hne i hi']at h1;rw[hne j hj']at h2;rw[hh i hi']at hi;rw[hh j hj']at hj
  exact h.dist i j b hi hj h1 h2
 ·rw[hne j hj.2];exact h.fr j hj.1
theorem Sat.write {B:Base}{Fr:Nat->Prop}{E:Env}{st:St}{a:Act}{W:World}(h:Sat B Fr E st a W){id b:Nat}{c c':Array Value}{T:TypeId}{r:Res}(hne0:st.hp id≠none)(hb:E.ρ id= .at b)
  (hc:W.heap[b]?=some (Obj.cells c T (0,0))) (hown:¬E.S b/\B.ow b) (hs:c'.size=c.size) (hr:SatR B E (W.setRow b c') id r):Sat B Fr E (st.set id (some r)) a (W.setRow b c'):=by
 have hset:(W.setRow b c').heap[b]?=some (Obj.cells c' T (0,0)):=e6t W b c _ T _ hc
 have hoth:∀k,k≠b->(W.setRow b c').heap[k]?=W.heap[k]?:=λk hk=>e5v W b k _ hk
 have hsz:(W.setRow b c').heap.size=W.heap.size:=by simp[World.setRow]
 have hev:Ev E W E (W.setRow b c'):=
  ⟨λ_ h=>h,λk hk=>hoth k (λe=>hown.1 (e▸hk)),λ_ _=>rfl,λk cc T' hcc=>by
   by_cases e:k=b
   ·subst e;rw[hc]at hcc;cases hcc;exact⟨c',hset,hs⟩
   ·exact⟨cc,(hoth k e).trans hcc,rfl⟩⟩
 have hh:∀i,i≠id->(st.set id (some r)).hp i=st.hp i:=λi e=>by show(bif Nat.beq i id then _ else _)=_;rw[cG e];rfl
 have hlive:∀i,(st.set id (some r)).hp i≠none->st.hp i≠none:=λi hi=>by
  by_cases e:i=id
  ·rw[e];exact hne0
  ·rw[hh i e]at hi;exact hi
 have hst:Stp B.ow W (W.setRow b c'):=by
  exact⟨rfl,rfl,rfl,by rw[hsz];exact e0g _,λk _ hk=>hoth k λe=>hk (e▸hown.2),hev.sh⟩
 refine⟨h.size,λi hi=>(h.tm i hi).ev hev,λi r' hi=>?_,λi j k hi hj h1 h2=>h.dist i j k (hlive i hi) (hlive j hj) h1 h2,h.fr,h.sub,λk hk=>by rw[hsz];exact h.sup k hk,λk hk=>by rw[hsz];exact h.s0 k hk,h.df,h.dn,λD hD=>?_,B.hG _ _ h.g hst,h.r0⟩
 ·by_cases e:i=id
  ·subst e
   have:(st.set i (some r)).hp i=some r:=by show(bif Nat.beq i i then _ else _)=_;rw[bD];rfl
   rw[this]at hi;cases hi;exact hr
  ·have hi2:=hi
   rw[hh i e]at hi
   refine(h.hp i r' hi).ev hev (λk hk=>hoth k λek=>?_) (λ_ _ _ hn=>hn)
   subst ek
   exact e (h.dist i id k (by rw[hi];simp) hne0 hk hb)
 ·obtain⟨h1,h2,h3⟩:=h.dd D hD
  refine⟨h1,h2,(hoth D λe=>?_).trans h3⟩
  subst e
  rw[hc]at h3;cases h3
theorem Sat.writeO {B:Base}{Fr:Nat->Prop}{E:Env}{st:St}{a:Act}{W:World}(h:Sat B Fr E st a W){id b:Nat}{o o':Obj}{r:Res}(hne0:st.hp id≠none)(hb:E.ρ id= .at b)
  (hc:W.heap[b]?=some o) (hnc:∀c T,o≠ .cells c T (0,0)) (hnd:∀ds,o≠ .deferred ds) (hown:¬E.S b/\B.ow b) (hr:SatR B E (W.putObj b o') id r):Sat B Fr E (st.set id (some r)) a (W.putObj b o'):=by
 have hlt:b<W.heap.size:=(d9w.1 hc).1
 have hoth:∀k,k≠b->(W.putObj b o').heap[k]?=W.heap[k]?:=λk hk=>e1x hk
 have hsz:(W.putObj b o').heap.size=W.heap.size:=e2t
 have hev:Ev E W E (W.putObj b o'):=
  ⟨λ_ h=>h,λk hk=>hoth k (λe=>hown.1 (e▸hk)),λ_ _=>rfl,λk cc T' hcc=>by
   by_cases e:k=b
   ·subst e;rw[hc]at hcc;cases hcc;exact absurd rfl (hnc _ _)
   ·exact⟨cc,(hoth k e).trans hcc,rfl⟩⟩
 have hh:∀i,i≠id->(st.set id (some r)).hp i=st.hp i:=λi e=>by show(bif Nat.beq i id then _ else _)=_;rw[cG e];rfl
 have hlive:∀i,(st.set id (some r)).hp i≠none->st.hp i≠none:=λi hi=>by
  by_cases e:i=id
  ·rw[e];exact hne0
  ·rw[hh i e]at hi;exact hi
 have hst:Stp B.ow W (W.putObj b o'):=⟨rfl,rfl,rfl,by rw[hsz];exact e0g _,λk _ hk=>hoth k λe=>hk (e▸hown.2),hev.sh⟩
 refine⟨h.size,λi hi=>(h.tm i hi).ev hev,λi r' hi=>?_,λi j k hi hj h1 h2=>h.dist i j k (hlive i hi) (hlive j hj) h1 h2,h.fr,h.sub,λk hk=>by rw[hsz];exact h.sup k hk,λk hk=>by rw[hsz];exact h.s0 k hk,h.df,h.dn,λD hD=>?_,B.hG _ _ h.g hst,h.r0⟩
 ·by_cases e:i=id
  ·subst e
   have:(st.set i (some r)).hp i=some r:=by show(bif Nat.beq i i then _ else _)=_;rw[bD];rfl
   rw[this]at hi;cases hi;exact hr
  ·have hi2:=hi
   rw[hh i e]at hi
   refine(h.hp i r' hi).ev hev (λk hk=>hoth k λek=>?_) (λ_ _ _ hn=>hn)
   subst ek
   exact e (h.dist i id k (by rw[hi];simp) hne0 hk hb)
 ·obtain⟨h1,h2,h3⟩:=h.dd D hD
  refine⟨h1,h2,(hoth D λe=>?_).trans h3⟩
  subst e
  rw[hc]at h3;cases h3;exact hnd _ rfl
theorem SatR.name {B:Base}{E E':Env}{W:World}{i j:Nat}{r:Res}(hev:Ev E W E' W)(hS:∀b,E'.S b->E.S b)(hl:E'.ρ j=E.ρ i)(h:SatR B E W i r):SatR B E' W j r:=by
 have ho:∀mt b,Own B E mt b->Own B E' mt b:=by
  intro mt b ho
  unfold Own at*
  cases mt with
  |true=>exact⟨λhx=>ho.1 (hS b hx),ho.2⟩
  |false=>exact hev.s b ho
 cases r with
 |cs mt n f=>
  obtain⟨b,c,T,h1,h2,h3,h4,h5⟩:=h
  exact⟨b,c,T,hl.trans h1,h2,h3,ho _ _ h4,λj hj=>⟨(h5 j hj).1.ev hev,(h5 j hj).2⟩⟩
 |row mt T k n f=>
  rcases h with⟨h1,h2⟩|⟨b,c,h1,h2,h3,h4,h5⟩
  ·exact .inl ⟨hl.trans h1,h2⟩
  ·exact .inr ⟨b,c,hl.trans h1,h2,h3,ho _ _ h4,λi hi=>⟨(h5 i hi).1.ev hev,(h5 i hi).2⟩⟩
 |mp mt kt m=>
  obtain⟨b,es,c,h1,h2,h4,h5⟩:=h
  exact⟨b,es,c,hl.trans h1,h2,ho _ _ h4,h5⟩
 |me mt kt m l born=>
  obtain⟨b,es,c,h1,h2,h4,h5,h6,e,h7,h8,h9⟩:=h
  exact⟨b,es,c,hl.trans h1,h2,ho _ _ h4,h5,h6,e,h7,h8,(hev.r _ (by rw[h9];simp)).trans h9⟩
 |it mt kt m seen cur=>
  obtain⟨b,r,es,c,sn,h1,h2,h4,h5,h6⟩:=h
  exact⟨b,r,es,c,sn,hl.trans h1,h2,ho _ _ h4,hev.s r h5,h6⟩
theorem Sat.move {B:Base}{Fr:Nat->Prop}{E:Env}{st:St}{a:Act}{W:World}(h:Sat B Fr E st a W){id i:Nat}{r:Res}(hid:st.hp id=some r)(hf:Fr i)(hun:E.ρ id≠ .un):
  Sat B (λj=>Fr j/\j≠i) (E.set i (E.ρ id)) ((st.set id none).set i (some r)) a W:=by
 have hu:=h.fr i hf
 have hne0:id≠i:=λe=>hun (e▸hu)
 have hev:Ev E W (E.set i (E.ρ id)) W:=Ev.set hu
 have hr:∀j,j≠i->(E.set i (E.ρ id)).ρ j=E.ρ j:=λj e=>by show(bif Nat.beq j i then _ else _)=_;rw[cG e];rfl
 have hi:(E.set i (E.ρ id)).ρ i=E.ρ id:=by show(bif Nat.beq i i then _ else _)=_;rw[bD];rfl
 have hpi:((st.set id none).set i (some r)).hp i=some r:=by show(bif Nat.beq i i then _ else _)=_;rw[bD];rfl
 have hpo:∀j,j≠i->((st.set id none).set i (some r)).hp j=(st.set id none).hp j:=λj e=>by show(bif Nat.beq j i then _ else _)=_;rw[cG e];rfl
 have hpd:∀j,j≠i->((st.set id none).set i (some r)).hp j≠none->st.hp j≠none/\j≠id/\((st.set id none).set i (some r)).hp j=st.hp j:=by
  intro j e hj
  rw[hpo j e]at hj⊢
  by_cases e2:j=id
  ·subst e2;exact absurd (show(bif Nat.beq j j then none else st.hp j)=none by rw[bD];rfl) hj
  ·have e3:(st.set id none).hp j=st.hp j:=by show(bif Nat.beq j id then none else st.hp j)=_;rw[cG e2];rfl
   exact⟨e3▸hj,e2,e3⟩
 refine⟨h.size,λj hj=>(h.tm j hj).ev hev,λj r' hj=>?_,λj k b hj hk h1 h2=>?_,λj hj=>?_,h.sub,h.sup,h.s0,h.df,h.dn,h.dd,h.g,hev.r0 h.r0⟩
 ·by_cases e:j=i
  ·subst e;rw[hpi]at hj;cases hj;exact(h.hp id r hid).name hev (λ_ h=>h) hi
  ·obtain⟨_,_,e3⟩:=hpd j e (by rw[hj];simp)
   rw[e3]at hj
   exact(h.hp j r' hj).name hev (λ_ h=>h) (hr j e)
 ·by_cases ej:j=i<;>by_cases ek:k=i
  ·rw[ej,ek]
  ·subst ej
   obtain⟨n1,n2,_⟩:=hpd k ek hk
   rw[hi]at h1;rw[hr k ek]at h2
   exact absurd (h.dist k id b n1 (by rw[hid];simp) h2 h1) n2
  ·subst ek
   obtain⟨n1,n2,_⟩:=hpd j ej hj
   rw[hi]at h2;rw[hr j ej]at h1
   exact absurd (h.dist j id b n1 (by rw[hid];simp) h1 h2) n2
  ·rw[hr j ej]at h1;rw[hr k ek]at h2
   exact h.dist j k b (hpd j ej hj).1 (hpd k ek hk).1 h1 h2
 ·rw[hr j hj.2];exact h.fr j hj.1
def Res.imm:Res->Res
  | .cs _ n f=> .cs false n f
  | .row _ T k n f=> .row false T k n f
  | .mp _ kt m=> .mp false kt m
  | .it _ kt m seen cur=> .it false kt m seen cur
  | .me _ kt m l born=> .me false kt m l born
def Env.frz (E:Env)(id:Nat):Env:={E with S:=λb=>E.S b\/E.ρ id= .at b}
def b2i:Obj->Bool
  | .cells ..=>true
  | .map ..=>true
  | .mapIter ..=>true
  |_=>false
theorem bY {B:Base}{E:Env}{W:World}{id b:Nat}{r:Res}(h:SatR B E W id r)(hb:E.ρ id= .at b):∃o,W.heap[b]?=some o/\b2i o=true:=by
 cases r with
 |cs mt n f=>obtain⟨b',c,T,h1,h2,_⟩:=h;rw[hb]at h1;cases h1;exact⟨_,h2,rfl⟩
 |row mt T k n f=>
  rcases h with⟨h1,_⟩|⟨b',c,h1,h2,_⟩
  ·rw[hb]at h1;cases h1
  ·rw[hb]at h1;cases h1;exact⟨_,h2,rfl⟩
 |mp mt kt m=>obtain⟨b',es,c,h1,h2,_⟩:=h;rw[hb]at h1;cases h1;exact⟨_,h2,rfl⟩
 |it mt kt m seen cur=>obtain⟨b',r,es,c,sn,h1,h2,_⟩:=h;rw[hb]at h1;cases h1;exact⟨_,h2,rfl⟩
 |me mt kt m l born=>obtain⟨b',es,c,h1,h2,_⟩:=h;rw[hb]at h1;cases h1;exact⟨_,h2,rfl⟩
theorem a4m {B:Base}{E:Env}{W:World}{id b:Nat}{r:Res}(h:SatR B E W id r)(hb:E.ρ id= .at b):∃mt,Own B E mt b:=by
 cases r with
 |cs mt n f=>obtain⟨b',c,T,h1,h2,_,h4,_⟩:=h;rw[hb]at h1;cases h1;exact⟨mt,h4⟩
 |row mt T k n f=>
  rcases h with⟨h1,_⟩|⟨b',c,h1,h2,_,h4,_⟩
  ·rw[hb]at h1;cases h1
  ·rw[hb]at h1;cases h1;exact⟨mt,h4⟩
 |mp mt kt m=>obtain⟨b',es,c,h1,h2,h4,_⟩:=h;rw[hb]at h1;cases h1;exact⟨mt,h4⟩
 |it mt kt m seen cur=>obtain⟨b',r,es,c,sn,h1,h2,h4,_⟩:=h;rw[hb]at h1;cases h1;exact⟨mt,h4⟩
 |me mt kt m l born=>obtain⟨b',es,c,h1,h2,h4,_⟩:=h;rw[hb]at h1;cases h1;exact⟨mt,h4⟩
theorem Sat.frz {B:Base}{Fr:Nat->Prop}{E:Env}{st:St}{a:Act}{W:World}(h:Sat B Fr E st a W){id:Nat}{r:Res}(hid:st.hp id=some r):
  Sat B Fr (E.frz id) (st.set id (some r.imm)) a W:=by
 have hev:Ev E W (E.frz id) W:=⟨λ_ h=> .inl h,λ_ _=>rfl,λ_ _=>rfl,λ_ c _ h=>⟨c,h,rfl⟩⟩
 have hh:∀i,i≠id->(st.set id (some r.imm)).hp i=st.hp i:=λi e=>by show(bif Nat.beq i id then _ else _)=_;rw[cG e];rfl
 have hi:(st.set id (some r.imm)).hp id=some r.imm:=by show(bif Nat.beq id id then _ else _)=_;rw[bD];rfl
 have hlive:∀i,(st.set id (some r.imm)).hp i≠none->st.hp i≠none:=λi hi=>by
  by_cases e:i=id
  ·rw[e,hid];simp
  ·rw[hh i e]at hi;exact hi
 refine⟨h.size,λj hj=>(h.tm j hj).ev hev,λj r' hj=>?_,λj k b hj hk h1 h2=>h.dist j k b (hlive j hj) (hlive k hk) h1 h2,h.fr,λb hb=> .inl (h.sub b hb),λb hb=>?_,h.s0,h.df,h.dn,λD hD=>?_,h.g,h.r0⟩
 ·by_cases e:j=id
  ·subst e
   rw[hi]at hj;cases hj
   have:=h.hp j r hid
   cases r with
   |cs mt n f=>
    obtain⟨b,c,T,h1,h2,h3,h4,h5⟩:=this
    exact⟨b,c,T,h1,h2,h3,.inr h1,λj hj=>⟨(h5 j hj).1.ev hev,(h5 j hj).2⟩⟩
   |row mt T k n f=>
    rcases this with⟨h1,h2⟩|⟨b,c,h1,h2,h3,h4,h5⟩
    ·exact .inl ⟨h1,h2⟩
    ·exact .inr ⟨b,c,h1,h2,h3,.inr h1,λi hi=>⟨(h5 i hi).1.ev hev,(h5 i hi).2⟩⟩
   |mp mt kt m=>
    obtain⟨b,es,c,h1,h2,h4,h5⟩:=this
    exact⟨b,es,c,h1,h2,.inr h1,h5⟩
   |me mt kt m l born=>
    obtain⟨b,es,c,h1,h2,h4,h5⟩:=this
    exact⟨b,es,c,h1,h2,.inr h1,h5⟩
   |it mt kt m seen cur=>
    obtain⟨b,r,es,c,sn,h1,h2,h4,h5,h6⟩:=this
    exact⟨b,r,es,c,sn,h1,h2,.inr h1,.inl h5,h6⟩
  ·rw[hh j e]at hj
   refine(h.hp j r' hj).ev hev (λ_ _=>rfl) λb hb _ hn hS=>?_
   rcases hS with h1|h1
   ·exact hn h1
   ·exact e (h.dist j id b (by rw[hj];simp) (by rw[hid];simp) hb h1)
 ·rcases hb with h1|h1
  ·exact h.sup b h1
  ·obtain⟨mt,ho⟩:=a4m (h.hp id r hid) h1
   have hlt:=h.at_lt (by rw[hid];simp) h1
   cases mt with
   |true=>exact .inr ⟨ho.2,hlt⟩
   |false=>exact h.sup b ho
 ·obtain⟨h1,h2,h3⟩:=h.dd D hD
  refine⟨h1,λhS=>?_,h3⟩
  rcases hS with h4|h4
  ·exact h2 h4
  ·obtain⟨o,h5,h6⟩:=bY (h.hp id r hid) h4
   rw[h3]at h5;cases h5;cases h6
def St.frz (st:St)(id:Nat):St:=match st.hp id with|some r=>st.set id (some r.imm)|none=>st
def St.frzs (st:St):List Nat->St
  |[]=>st
  |id::l=>(st.frz id).frzs l
def jB:Nat->(Nat->Prop)->Prop
  |0,_=>True
  |n+1,p=>jB n p/\p n
theorem aM {n:Nat}{p:Nat->Prop}:jB n p↔∀j,j<n->p j:=by
 induction n with
 |zero=>simp[jB]
 |succ n ih=>
  simp only[jB,ih]
  constructor
  ·intro h j hj
   rcases Nat.lt_succ_iff_lt_or_eq.1 hj with h1|h1
   ·exact h.1 j h1
   ·exact h1▸h.2
  ·exactλh=>⟨λj hj=>h j (by omega),h n (by omega)⟩
def clp (n:Nat)(f:Nat->DV):Nat->DV:=λj=>bif Nat.blt j n then f j else .top
theorem yA {n j:Nat}{f:Nat->DV}(h:j<n):clp n f j=f j:=by unfold clp;rw[aG.2 h];rfl
theorem jF {n:Nat}{f g:Nat->DV}(h:∀j,j<n->f j=g j):clp n f=clp n g:=by
 funext j
 unfold clp
 cases hb:Nat.blt j n with
 |true=>simp only[e0q];exact h j (aG.1 hb)
 |false=>rfl
def el1 (x:DV):DV:=match x with| .ag ..=> .top|y=>y
def b6o (k k' i off:Nat):Bool:=Nat.beq k 1&&Nat.beq k' 1&&Nat.beq i 0&&Nat.beq off 0
def dX:Nat->(Nat->Option Res)->AV->DV
  |0,_,_=> .top
  |_+1,_,.d x=>x
  |n+1,hp,.ref id off=>match hp id with
    |some (.cs _ m f)=> .pt (.ag m (clp m λj=>dX n hp (f j))) off
    |_=> .top
  |_+1,hp,.el id k i off=>match hp id with
    |some (.row _ _ k' m f)=>bif b6o k k' i off then .pt (.ag m λj=>el1 (f j)) 0 else .top
    |_=> .top
  |_+1,hp,.ms id k off m=>match hp id with
    |some (.row _ _ _ _ f)=> .sl false k m λi=>f (off+i)
    |_=> .top
  |n+1,hp,.ag m f=> .ag m (clp m λj=>dX n hp (f j))
  |n+1,hp,.fn g a b f c=> .fn g a b (clp a λj=>dX n hp (f j)) (clp b λj=>dX n hp (c j))
  |_+1,hp,.mp id=>match hp id with
    |some (.mp _ kt m)=> .mp kt m
    |_=> .top
  |n+1,hp,.tp m f=> .tp m (clp m λj=>dX n hp (f j))
  |_+1,_,.sub ..=> .top
  |_+1,_,.stp _=> .top
def bB:Nat->(Nat->Option Res)->AV->List Nat
  |0,_,_=>[]
  |_+1,_,.d _=>[]
  |n+1,hp,.ref id _=>match hp id with
    |some (.cs _ m f)=>id::(List.range m).flatMap λj=>bB n hp (f j)
    |_=>[]
  |_+1,hp,.el id k i off=>match hp id with
    |some (.row _ _ k' _ _)=>bif b6o k k' i off then [id]else []
    |_=>[]
  |_+1,hp,.ms id _ _ _=>match hp id with
    |some (.row ..)=>[id]
    |_=>[]
  |n+1,hp,.ag m f=>(List.range m).flatMap λj=>bB n hp (f j)
  |n+1,hp,.fn _ a b f c=>((List.range a).flatMap λj=>bB n hp (f j))++(List.range b).flatMap λj=>bB n hp (c j)
  |_+1,hp,.mp id=>match hp id with
    |some (.mp ..)=>[id]
    |_=>[]
  |n+1,hp,.tp m f=>(List.range m).flatMap λj=>bB n hp (f j)
  |_+1,_,.sub ..=>[]
  |_+1,_,.stp _=>[]
theorem jB.congr {m:Nat}{p q:Nat->Prop}(h:∀j,j<m->p j=q j):jB m p=jB m q:=propext ⟨λhp=>aM.2 λj hj=>h j hj▸aM.1 hp j hj,λhq=>aM.2 λj hj=>(h j hj).symm▸aM.1 hq j hj⟩
def qB:Nat->(Nat->Option Res)->AV->Prop
  |0,_,_=>True
  |_+1,_,.d _=>True
  |n+1,hp,.ref id _=>match hp id with
    |some (.cs _ m f)=>jB m λj=>qB n hp (f j)
    |_=>True
  |_+1,_,.el ..=>True
  |_+1,hp,.ms id k off m=>match hp id with
    |some (.row _ _ k' n _)=>k=k'/\off+m<=n
    |_=>True
  |n+1,hp,.ag m f=>jB m λj=>qB n hp (f j)
  |n+1,hp,.fn _ a b f c=>(jB a λj=>qB n hp (f j))/\jB b λj=>qB n hp (c j)
  |_+1,_,.mp _=>True
  |n+1,hp,.tp m f=>jB m λj=>qB n hp (f j)
  |_+1,_,.sub ..=>True
  |_+1,_,.stp _=>True
theorem wT {S:Nat->Prop}{W:World}{k:Nat}{x:DV}{b o:Nat}{c:Array Value}{T:TypeId}(hS:S b)(hh:W.heap[b]?=some (Obj.cells c T (0,0)))(hk:o+k<=c.size)(h:pD S W k x λj=>c.getD (o+j) undef)
  (h1:∀j,j<k->(c.getD (o+j) undef).oneCell'=true):b6e S W x b o:=by
 have o1:∀p:Value->Prop,0<k->p (c.getD (o+0) undef)->one S W p b o:=λp hk0 hp=>⟨hS,c.getD (o+0) undef,cK hh (by omega),hp,h1 0 hk0⟩
 cases x with
 |ag n f=>exactλj hj=>⟨hS,c.getD (o+j) undef,cK hh (by have:=h.1;omega),h.2 j hj,h1 j (by have:=h.1;omega)⟩
 |top=>exact trivial
 |v y=>exact o1 _ (by have:=h.1;omega) h.2
 |tp n f=>exact o1 _ (by have:=h.1;omega) h.2
 |sl t k' n f=>exact o1 _ (by have:=h.1;omega) h.2
 |pt y o'=>exact o1 _ (by have:=h.1;omega) h.2
 |fn g n m f c=>exact o1 _ (by have:=h.1;omega) h.2
 |mp kt m=>exact o1 _ (by have:=h.1;omega) h.2
theorem kS {B:Base}{Fr:Nat->Prop}{E:Env}{st:St}{a:Act}{W:World}(h:Sat B Fr E st a W){S:Nat->Prop}(hS:∀b,E.S b->S b):
  ∀(n:Nat) (x:AV) (u:Value),qB n st.hp x->(∀id∈bB n st.hp x,∀b,E.ρ id= .at b->S b)->aK E W x u->Rep S W (dX n st.hp x) u:=by
 intro n
 induction n with
 |zero=>intro x u _ _ _;exact trivial
 |succ n ih=>
  intro x u hok hre hx
  cases x with
  |d x=>exact Rep.mono hS (λ_ _=>rfl) hx
  |ref id off=>
   simp only[dX]
   cases hid:st.hp id with
   |none=>exact trivial
   |some r=>
    cases r with
    |row mt T k m f=>exact trivial
    |mp mt kt m=>exact trivial
    |it mt kt m seen cur=>exact trivial
    |me mt kt m l born=>exact trivial
    |cs mt m f=>
     simp only[qB,hid]at hok
     simp only[bB,hid]at hre
     obtain⟨b,hb,rfl⟩:=hx
     obtain⟨b',c,T,hb',hh,hsz,_,hc⟩:=h.hp id _ hid
     rw[hb]at hb';cases hb'
     refine⟨b,0,by simp,λj hj=>⟨hre id (by simp) b hb,c.getD j undef,by rw[e0f];exact cK hh (by omega),?_,(hc j hj).2⟩⟩
     rw[yA hj]
     exact ih _ _ (aM.1 hok j hj) (λi hi=>hre i (d9v _ (e1a.2 ⟨j,e1e.2 hj,hi⟩))) (hc j hj).1
  |el id k i off=>
   simp only[dX]
   cases hid:st.hp id with
   |none=>exact trivial
   |some r=>
    cases r with
    |cs mt m f=>exact trivial
    |mp mt kt m=>exact trivial
    |it mt kt m seen cur=>exact trivial
    |me mt kt m l born=>exact trivial
    |row mt T k' m f=>
     simp only[bB,hid]at hre
     cases ha:b6o k k' i off with
     |false=>
      show Rep S W (bif b6o k k' i off then _ else _) u
      rw[ha];exact trivial
     |true=>
      rw[ha]at hre
      simp only[b6o,e0d]at ha
      obtain⟨⟨⟨h1,h2⟩,h3⟩,h4⟩:=ha
      obtain rfl:=d9s h1
      obtain rfl:=d9s h2
      obtain rfl:=d9s h3
      obtain rfl:=d9s h4
      obtain⟨b,hb,rfl⟩:=hx
      rcases h.hp id _ hid with⟨h5,_⟩|⟨b',c,hb',hh,hsz,_,hc⟩
      ·rw[hb]at h5;cases h5
      ·rw[hb]at hb';cases hb'
       refine⟨b,0,by simp,λj hj=>⟨hre id (by simp) b hb,c.getD j undef,by rw[e0f];exact cK hh (by omega),?_,by simpa using(hc j hj).2 0 (by omega)⟩⟩
       have h6:=(hc j hj).1
       unfold pD at h6
       show Rep S W (el1 (f j)) (c.getD j undef)
       split at h6
       ·rename_i n g e;rw[e];exact trivial
       ·rename_i e;rw[e];exact trivial
       ·rename_i x n1 n2
        have e:el1 (f j)=f j:=by
         unfold el1
         split
         ·rename_i n g e;exact absurd e (n1 _ _)
         ·rfl
        rw[e]
        have:=h6.2
        simp only[e7s,e2j]at this
        exact Rep.mono hS (λ_ _=>rfl) this
  |ms id k off m=>
   simp only[dX]
   cases hid:st.hp id with
   |none=>exact trivial
   |some r=>
    cases r with
    |cs mt m f=>exact trivial
    |mp mt kt m=>exact trivial
    |it mt kt m seen cur=>exact trivial
    |me mt kt m l born=>exact trivial
    |row mt T k' n' f=>
     simp only[qB,hid]at hok
     simp only[bB,hid]at hre
     obtain⟨rfl,hle⟩:=hok
     rcases hx with⟨hb,rfl,rfl⟩|⟨b,o,cap,c,T',hb,rfl,hm,_,hh,hs⟩
     ·exact⟨none,0,rfl,e0g _,(by simp),(by simp),(by simp)⟩
     ·refine⟨some ⟨b,o,none⟩,cap,rfl,hm,(by simp),(by simp),?_⟩
      rintro x e i hi
      cases e
      refine⟨rfl,?_⟩
      rcases hs with⟨rfl,hsz⟩|⟨hm0,_⟩
      ·rcases h.hp id _ hid with⟨h1,_⟩|⟨b',c',hb',hh',hsz',_,hc⟩
       ·rw[hb]at h1;cases h1
       ·rw[hb]at hb';cases hb'
        rw[hh]at hh';cases hh'
        have hlt:off+i<n':=by omega
        have hc':=hc (off+i) hlt
        have hb2:(off+i+1)*k<=n'*k:=e0v k hlt
        rw[e1s]at hb2
        refine wT (k:=k) (hre id (by simp) b hb) hh (by rw[<-e1s];omega) ?_ ?_
        ·have:=hc'.1.ev (E':={E with S:=S}) ⟨hS,λ_ _=>rfl,λ_ _=>rfl,λ_ c _ h=>⟨c,h,rfl⟩⟩
         simp only[e1s]at this⊢
         exact this
        ·intro j hj
         have:=hc'.2 j hj
         simp only[e1s]at this⊢
         exact this
      ·omega
  |mp id=>
   simp only[dX]
   cases hid:st.hp id with
   |none=>exact trivial
   |some r=>
    cases r with
    |cs mt m f=>exact trivial
    |row mt T k' n' f=>exact trivial
    |it mt kt m seen cur=>exact trivial
    |me mt kt m l born=>exact trivial
    |mp mt kt m=>
     simp only[bB,hid]at hre
     obtain⟨b,hb,rfl⟩:=hx
     obtain⟨b',es,c,hb',hh,_,ho⟩:=h.hp id _ hid
     rw[hb]at hb';cases hb'
     exact⟨b,es,c,rfl,hre id (by simp) b hb,hh,ho⟩
  |sub id k i=>exact trivial
  |stp id=>exact trivial
  |tp m f=>
   obtain⟨cs,rfl,hs,hc⟩:=hx
   exact⟨cs,rfl,hs,λj hj=>by rw[yA hj];exact ih _ _ (aM.1 hok j hj) (λi hi=>hre i (e1a.2 ⟨j,e1e.2 hj,hi⟩)) (hc j hj)⟩
  |ag m f=>
   obtain⟨cs,rfl,hs,hc⟩:=hx
   exact⟨cs,rfl,hs,λj hj=>⟨by rw[yA hj];exact ih _ _ (aM.1 hok j hj) (λi hi=>hre i (e1a.2 ⟨j,e1e.2 hj,hi⟩)) (hc j hj).1,(hc j hj).2⟩⟩
  |fn g p q f c=>
   obtain⟨fs,cs,rfl,hs,hs',hf,hc⟩:=hx
   exact⟨fs,cs,rfl,hs,hs',λj hj=>by rw[yA hj];exact ih _ _ (aM.1 hok.1 j hj) (λi hi=>hre i (e0p _ (e1a.2 ⟨j,e1e.2 hj,hi⟩))) (hf j hj),
    λj hj=>by rw[yA hj];exact ih _ _ (aM.1 hok.2 j hj) (λi hi=>hre i (e0n _ (e1a.2 ⟨j,e1e.2 hj,hi⟩))) (hc j hj)⟩
structure ImpS (x y:DV):Prop where
  h:Imp x y
def bS:DV->DV->Prop
  |_,.top=>True
  |x,.v u=>match x with
    | .v w=>match u,w with
      | .int k b,.int j a=>j=k/\a=b
      | .bool b,.bool a=>True/\a=b
      |u,w=>w=u
    |x=>ImpS x (.v u)
  |x,.ag n g=>match x with
    | .ag m f=>m=n/\jB n λj=>bS (f j) (g j)
    |x=>ImpS x (.ag n g)
  |x,.tp n g=>match x with
    | .tp m f=>m=n/\jB n λj=>bS (f j) (g j)
    |x=>ImpS x (.tp n g)
  |x,.pt y o=>match x with
    | .pt z o'=>o'=o/\bS z y
    |x=>ImpS x (.pt y o)
  |x,.fn g n m f c=>match x with
    | .fn g' n' m' f' c'=>g'=g/\n'=n/\m'=m/\(jB n λj=>bS (f' j) (f j))/\jB m λj=>bS (c' j) (c j)
    |x=>ImpS x (.fn g n m f c)
  |x,.mp kt m=>match x with
    | .mp kt' m'=>kt'=kt/\∀k,m' k=m k
    |x=>ImpS x (.mp kt m)
  |x,y=>ImpS x y
theorem bS.imp:∀{y x:DV},bS x y->Imp x y:=by
 intro y
 induction y with
 |top=>exactλ_=>Imp.top _
 |v u=>
  intro x h
  unfold bS at h
  split at h
  ·split at h
   ·obtain⟨rfl,rfl⟩:=h;exact e6y _
   ·obtain⟨_,rfl⟩:=h;exact e6y _
   ·subst h;exact e6y _
  ·exact h.h
 |ag n g ih=>
  intro x h
  unfold bS at h
  split at h
  ·exact Imp.ag h.1 λj hj=>ih j (aM.1 h.2 j (h.1▸hj))
  ·exact h.h
 |tp n g ih=>
  intro x h
  unfold bS at h
  split at h
  ·exact Imp.tp h.1 λj hj=>ih j (aM.1 h.2 j (h.1▸hj))
  ·exact h.h
 |sl t k n f _=>intro x h;unfold bS at h;exact h.h
 |pt x o ih=>
  intro y h
  unfold bS at h
  split at h
  ·exact Imp.pt h.1 (ih h.2)
  ·exact h.h
 |fn g n m f c ih1 ih2=>
  intro x h
  unfold bS at h
  split at h
  ·obtain⟨rfl,rfl,rfl,h4,h5⟩:=h
   exact Imp.fn (λj hj=>ih1 j (aM.1 h4 j hj)) λj hj=>ih2 j (aM.1 h5 j hj)
  ·exact h.h
 |mp kt m=>
  intro x h
  unfold bS at h
  split at h
  ·obtain⟨rfl,h2⟩:=h;exact Imp.mp h2
  ·exact h.h
def sR:List DV->List DV->Prop
  |[],[]=>True
  |x::xs,y::ys=>bS x y/\sR xs ys
  |_,_=>False
theorem sR.imps:∀{xs ys:List DV},sR xs ys->c6i xs ys
 |[],[],_=>trivial
 |_::_,_::_,h=>⟨h.1.imp,h.2.imps⟩
def eI (S:Nat->Prop)(w:World):Base:=
  ⟨λb=>w.heap.size<=b,S,λ_=> .un,Below w.heap.size w,
    λ_ _ h1 h2=>⟨h2.os.trans h1.os,h2.tape.trans h1.tape,h2.output.trans h1.output,e2h h1.size h2.size,λk hk=>(h2.block k (e1g hk h1.size) (Nat.not_le.2 hk)).trans (h1.block k hk)⟩,λ_ h _ hb=>e2h h.size hb⟩
def b0f (E:Env)(w:World):Base:=
  ⟨λb=>E.ρ 0= .at b\/w.heap.size<=b,E.S,E.ρ,Stp (λb=>E.ρ 0= .at b\/w.heap.size<=b) w,
    λ_ _ h1 h2=>h1.trans h2,λ_ h _ hb=> .inr (e2h h.size hb)⟩
def AV.nm (i:Nat):AV->AV
  | .d x=> .d x
  | .ref _ off=> .ref i off
  | .el _ k j off=> .el i k j off
  | .ms _ k off n=> .ms i k off n
  | .ag n f=> .ag n λj=>(f j).nm i
  | .fn g n m f c=> .fn g n m (λj=>(f j).nm i) (λj=>(c j).nm i)
  | .mp _=> .mp i
  | .tp n f=> .tp n λj=>(f j).nm i
  | .sub _ k j=> .sub i k j
  | .stp _=> .stp i
theorem AV.nm_rep {E E':Env}{W:World}{i:Nat}(hu:∀j,j≠0->E.ρ j= .un)(hS:E'.S=E.S)(hi:E'.ρ i=E.ρ 0):∀{y:AV} {u:Value},aK E W y u->aK E' W (y.nm i) u:=by
 have h0:∀{j b},E.ρ j= .at b->E'.ρ i= .at b:=λ{j b} h=>by
  by_cases e:j=0
  ·subst e;exact hi.trans h
  ·rw[hu j e]at h;cases h
 have h1:∀{j},E.ρ j= .nil->E'.ρ i= .nil:=λ{j} h=>by
  by_cases e:j=0
  ·subst e;exact hi.trans h
  ·rw[hu j e]at h;cases h
 intro y
 induction y with
 |d x=>exactλ{u} hx=>by show Rep E'.S W x u;rw[hS];exact hx
 |ref id off=>rintro u ⟨b,hb,rfl⟩;exact⟨b,h0 hb,rfl⟩
 |el id k j off=>rintro u ⟨b,hb,rfl⟩;exact⟨b,h0 hb,rfl⟩
 |ms id k off n=>
  rintro u (⟨hb,hn,rfl⟩|⟨b,o,cap,c,T,hb,rfl,hn,hm,hc,hs⟩)
  ·exact .inl ⟨h1 hb,hn,rfl⟩
  ·exact .inr ⟨b,o,cap,c,T,h0 hb,rfl,hn,hm,hc,hs⟩
 |ag n f ih=>rintro u ⟨cs,rfl,hs,hc⟩;exact⟨cs,rfl,hs,λj hj=>⟨ih j (hc j hj).1,(hc j hj).2⟩⟩
 |fn g n m f c ih1 ih2=>rintro u ⟨fs,cs,rfl,h1,h2,h3,h4⟩;exact⟨fs,cs,rfl,h1,h2,λj hj=>ih1 j (h3 j hj),λj hj=>ih2 j (h4 j hj)⟩
 |mp id=>rintro u ⟨b,hb,rfl⟩;exact⟨b,h0 hb,rfl⟩
 |tp n f ih=>rintro u ⟨cs,rfl,hs,hc⟩;exact⟨cs,rfl,hs,λj hj=>ih j (hc j hj)⟩
 |sub id k j=>rintro u ⟨b,hb,rfl⟩;exact⟨b,h0 hb,rfl⟩
 |stp id=>rintro u ⟨b,hb,rfl⟩;exact⟨b,h0 hb,rfl⟩
structure FnI (P:Program)(f:Nat)(U k n:Nat)(x x':Nat->DV)(args:List DV)(y:AV):Prop where
  ent:Ent P f
  run:∀(E:Env) (w:World) (v:Value) (vals:List Value),(∀b,E.S b->b<w.heap.size)->(∀j,j≠0->E.ρ j= .un)->E.D=[]->aK E w (.ms 0 k 0 n) v->SatR (b0f E w) E w 0 (.row true U k n x)->gI E.S w args vals->
    Calls P f (v::vals).toArray w λe w'=>∃u E',e= .returned u/\(∀j,j≠0->E'.ρ j= .un)/\E'.ρ 0=E.ρ 0/\(∀b,E.S b->E'.S b)/\(∀b,E'.S b->E.S b\/((b0f E w).ow b/\b<w'.heap.size))/\(b0f E w).G w'/\
      SatR (b0f E w) E' w' 0 (.row true U k n x')/\aK E' w' y u
structure FnN (P:Program)(f:Nat)(args:List DV)(R:Res)(y:AV):Prop where
  ent:Ent P f
  run:∀(S:Nat->Prop) (w:World) (vals:List Value),(∀b,S b->b<w.heap.size)->gI S w args vals->
    Calls P f vals.toArray w λe w'=>∃u E',e= .returned u/\(∀j,j≠0->E'.ρ j= .un)/\(∀b,S b->E'.S b)/\(∀b,E'.S b->S b\/(w.heap.size<=b/\b<w'.heap.size))/\Below w.heap.size w w'/\
      SatR (eI S w) E' w' 0 R/\aK E' w' y u
abbrev FnF (P:Program)(f:Nat)(args:List DV)(U k n:Nat)(x:Nat->DV)(y:AV):Prop:=FnN P f args (.row true U k n x) y
def Res.nw:Res->Bool
  | .cs mt _ _=>mt
  | .row mt _ _ _ _=>mt
  | .mp mt _ _=>mt
  | .it ..=>false
  | .me ..=>false
def Res.nm (i:Nat):Res->Res
  | .cs mt n f=> .cs mt n λj=>(f j).nm i
  | .row mt U k n x=> .row mt U k n x
  | .mp mt kt m=> .mp mt kt m
  | .it mt kt m s c=> .it mt kt m s c
  | .me mt kt m l g=> .me mt kt m l g
theorem SatR.nw_at {B:Base}{E:Env}{W:World}{R:Res}(hR:R.nw=true)(h:SatR B E W 0 R):E.ρ 0≠ .un/\∀b,E.ρ 0= .at b->¬E.S b/\B.ow b:=by
 cases R with
 |cs mt n f=>
  cases mt with
  |false=>cases hR
  |true=>
   obtain⟨b,c,T,h1,h2,h3,h4,h5⟩:=h
   refine⟨by rw[h1];simp,λb' hb=>?_⟩
   rw[h1]at hb;cases hb;exact h4
 |row mt U k n x=>
  cases mt with
  |false=>cases hR
  |true=>
   rcases h with⟨h1,_⟩|⟨b,c,h1,h2,h3,h4,h5⟩
   ·exact⟨by rw[h1];simp,λb' hb=>by rw[h1]at hb;cases hb⟩
   ·refine⟨by rw[h1];simp,λb' hb=>?_⟩
    rw[h1]at hb;cases hb;exact h4
 |mp mt kt m=>
  cases mt with
  |false=>cases hR
  |true=>
   obtain⟨b,es,c,h1,h2,h4,h5⟩:=h
   refine⟨by rw[h1];simp,λb' hb=>?_⟩
   rw[h1]at hb;cases hb;exact h4
 |it=>cases hR
 |me=>cases hR
theorem SatR.nm {B B':Base}{E E':Env}{W:World}{i:Nat}{R:Res}(hR:R.nw=true)(hu:∀j,j≠0->E.ρ j= .un)(hS:E'.S=E.S)(hi:E'.ρ i=E.ρ 0)(ho:∀b,E.ρ 0= .at b->B.ow b->B'.ow b)(h:SatR B E W 0 R):SatR B' E' W i (R.nm i):=by
 have own:∀b,E.ρ 0= .at b->(¬E.S b/\B.ow b)->¬E'.S b/\B'.ow b:=λb hb h=>⟨by rw[hS];exact h.1,ho b hb h.2⟩
 cases R with
 |cs mt n f=>
  cases mt with
  |false=>cases hR
  |true=>
   obtain⟨b,c,T,h1,h2,h3,h4,h5⟩:=h
   exact⟨b,c,T,hi.trans h1,h2,h3,own b h1 h4,λj hj=>⟨AV.nm_rep hu hS hi (h5 j hj).1,(h5 j hj).2⟩⟩
 |row mt U k n x=>
  cases mt with
  |false=>cases hR
  |true=>
   rcases h with⟨h1,h2⟩|⟨b,c,h1,h2,h3,h4,h5⟩
   ·exact .inl ⟨hi.trans h1,h2⟩
   ·exact .inr ⟨b,c,hi.trans h1,h2,h3,own b h1 h4,λj hj=>⟨by rw[hS];exact(h5 j hj).1,(h5 j hj).2⟩⟩
 |mp mt kt m=>
  cases mt with
  |false=>cases hR
  |true=>
   obtain⟨b,es,c,h1,h2,h4,h5⟩:=h
   exact⟨b,es,c,hi.trans h1,h2,own b h1 h4,h5⟩
 |it=>cases hR
 |me=>cases hR
inductive CR:Type 1
  |dv (r:DV)
  |ip (x':Nat->DV) (y:AV)
  |nw (R:Res) (y:AV)
  |ln (r:DV)
  |ls (as:List AV) (ms:List Res) (K:Nat) (ι:Type) (ms':ι->List Res) (y:ι->AV)
abbrev CR.fr (U k n:Nat)(x:Nat->DV)(y:AV):CR:= .nw (.row true U k n x) y
def DV.noMp:DV->Prop
  | .v _=>True
  | .top=>True
  | .ag _ f=>∀j,(f j).noMp
  | .tp _ f=>∀j,(f j).noMp
  | .sl _ _ _ f=>∀j,(f j).noMp
  | .pt x _=>x.noMp
  | .fn _ _ _ f c=>(∀j,(f j).noMp)/\∀j,(c j).noMp
  | .mp _ _=>False
structure NoMp (r:DV):Prop where
  h:r.noMp
theorem kJ {S S':Nat->Prop}{W:World}{p q:Value->Prop}(hS:∀b,S b->S' b\/∃es c,W.heap[b]?=some (.map es c))(hp:∀u,p u->q u){b o:Nat}(h:one S W p b o):one S' W q b o:=by
 obtain⟨hb,u,hu,hpu,h1⟩:=h
 refine⟨(hS b hb).resolve_right ?_,u,hu,hp u hpu,h1⟩
 rintro⟨es,c,he⟩
 simp[World.cell?,he]at hu
theorem c1w {S S':Nat->Prop}{W:World}(hS:∀b,S b->S' b\/∃es c,W.heap[b]?=some (.map es c))(x:DV)(hx:x.noMp):
  (∀u,(RR S W x).1 u->(RR S' W x).1 u)/\(∀b o,(RR S W x).2 b o->(RR S' W x).2 b o):=by
 induction x with
 |v x=>exact⟨λu h=>h,λb o h=>kJ hS (λ_ h=>h) h⟩
 |top=>exact⟨λ_ h=>h,λ_ _ h=>h⟩
 |ag n f ih=>
  refine⟨?_,λb o h j hj=>kJ hS (ih j (hx j)).1 (h j hj)⟩
  rintro u ⟨cs,rfl,hs,hc⟩
  exact⟨cs,rfl,hs,λj hj=>⟨(ih j (hx j)).1 _ (hc j hj).1,(hc j hj).2⟩⟩
 |tp n f ih=>
  have h1:∀u,(RR S W (.tp n f)).1 u->(RR S' W (.tp n f)).1 u:=by
   rintro u ⟨cs,rfl,hs,hc⟩
   exact⟨cs,rfl,hs,λj hj=>(ih j (hx j)).1 _ (hc j hj)⟩
  exact⟨h1,λb o h=>kJ hS h1 h⟩
 |sl t k n f ih=>
  have h1:∀u,(RR S W (.sl t k n f)).1 u->(RR S' W (.sl t k n f)).1 u:=by
   rintro u ⟨a,cap,rfl,hs,ht,hn,hc⟩
   exact⟨a,cap,rfl,hs,ht,hn,λx hx' i hi=>⟨(hc x hx' i hi).1,(ih i (hx i)).2 _ _ (hc x hx' i hi).2⟩⟩
  exact⟨h1,λb o h=>kJ hS h1 h⟩
 |pt x off ih=>
  have h1:∀u,(RR S W (.pt x off)).1 u->(RR S' W (.pt x off)).1 u:=by
   rintro u ⟨b,o,rfl,h⟩
   exact⟨b,o,rfl,(ih hx).2 _ _ h⟩
  exact⟨h1,λb o h=>kJ hS h1 h⟩
 |fn g n m f c ih1 ih2=>
  have h1:∀u,(RR S W (.fn g n m f c)).1 u->(RR S' W (.fn g n m f c)).1 u:=by
   rintro u ⟨fs,cs,rfl,hs,hs',hf,hc⟩
   exact⟨fs,cs,rfl,hs,hs',λj hj=>(ih1 j (hx.1 j)).1 _ (hf j hj),λj hj=>(ih2 j (hx.2 j)).1 _ (hc j hj)⟩
  exact⟨h1,λb o h=>kJ hS h1 h⟩
 |mp kt m=>exact hx.elim
def c6h {α:Type}:List α->(α->Prop)->Prop
  |[],_=>True
  |x::l,p=>p x/\c6h l p
theorem iB {α:Type}{l:List α}{p:α->Prop}:c6h l p↔∀x∈l,p x:=by
 induction l with
 |nil=>simp[c6h]
 |cons x l ih=>simp[c6h,ih]
def dI (x y:DV):Prop:=
  match y with
  | .top=>True
  | .ag n g=>match x with
    | .ag m f=>m=n/\jB n λj=>bS (f j) (g j)
    |_=>False
  |y=>match x with
    | .ag ..=>False
    | .top=>False
    |x=>bS x y
theorem dI.repC {S:Nat->Prop}{W:World}{k:Nat}{x y:DV}{c:Nat->Value}(h:dI x y)(hx:pD S W k x c):pD S W k y c:=by
 have gen:(∀n f,x≠ .ag n f)->x≠ .top->(∀n f,y≠ .ag n f)->bS x y->pD S W k y c:=by
  intro h1 h2 h3 h
  have hx':k=1/\Rep S W x (c 0):=by
   cases x<;>first|exact absurd rfl (h1 _ _)|exact absurd rfl h2|exact hx
  have:=(h.imp S W).1 _ hx'.2
  cases y<;>first|exact absurd rfl (h3 _ _)|exact trivial|exact⟨hx'.1,this⟩
 cases y with
 |top=>exact trivial
 |ag n g=>
  cases x<;>first|exact h.elim|skip
  exact⟨h.1▸hx.1,λj hj=>((aM.1 h.2 j hj).imp S W).1 _ (hx.2 j (h.1▸hj))⟩
 |v u=>cases x<;>first|exact h.elim|exact gen nofun nofun nofun h
 |tp n f=>cases x<;>first|exact h.elim|exact gen nofun nofun nofun h
 |sl t k n f=>cases x<;>first|exact h.elim|exact gen nofun nofun nofun h
 |pt z o=>cases x<;>first|exact h.elim|exact gen nofun nofun nofun h
 |fn g n m f c=>cases x<;>first|exact h.elim|exact gen nofun nofun nofun h
 |mp kt m=>cases x<;>first|exact h.elim|exact gen nofun nofun nofun h
def qI (m:Nat->Option Nat):AV->AV->Prop
  |x,.d y=>match x with
    | .d x=>bS x y
    | .ag n f=>match y with
      | .top=>True
      | .ag n' g=>n=n'/\jB n' λj=>match f j with
        | .d z=>bS z (g j)
        |_=>False
      |_=>False
    | .fn g n p f c=>match y with
      | .top=>True
      | .fn g' n' p' f' c'=>g=g'/\n=n'/\p=p'/\(jB n' λj=>match f j with
        | .d z=>bS z (f' j)
        |_=>False)/\jB p' λj=>match c j with
        | .d z=>bS z (c' j)
        |_=>False
      |_=>False
    | .ms _ _ _ n=>match y with
      | .top=>True
      | .sl t _ q _=>n=0/\q=0/\t=false
      |_=>False
    |_=>match y with
      | .top=>True
      |_=>False
  |x,.ref j o=>match x with
    | .ref i o'=>m j=some i/\o'=o
    |_=>False
  |x,.el j k a o=>match x with
    | .el i k' a' o'=>m j=some i/\k'=k/\a'=a/\o'=o
    |_=>False
  |x,.ms j k a n=>match x with
    | .ms i k' a' n'=>m j=some i/\k'=k/\a'=a/\n'=n
    |_=>False
  |x,.ag n g=>match x with
    | .ag n' f=>n'=n/\jB n λj=>qI m (f j) (g j)
    | .d (.ag n' f)=>n'=n/\jB n λj=>qI m (.d (f j)) (g j)
    |_=>False
  |x,.fn g n p f c=>match x with
    | .fn g' n' p' f' c'=>g'=g/\n'=n/\p'=p/\(jB n λj=>qI m (f' j) (f j))/\jB p λj=>qI m (c' j) (c j)
    | .d (.fn g' n' p' f' c')=>g'=g/\n'=n/\p'=p/\(jB n λj=>qI m (.d (f' j)) (f j))/\jB p λj=>qI m (.d (c' j)) (c j)
    |_=>False
  |x,.mp j=>match x with
    | .mp i=>m j=some i
    |_=>False
  |x,.tp n g=>match x with
    | .tp n' f=>n'=n/\jB n λj=>qI m (f j) (g j)
    | .d (.tp n' f)=>n'=n/\jB n λj=>qI m (.d (f j)) (g j)
    |_=>False
  |x,.stp j=>match x with
    | .stp i=>m j=some i
    |_=>False
  |x,.sub j k a=>match x with
    | .sub i k' a'=>m j=some i/\k'=k/\a'=a
    |_=>False
def Env.ren (E:Env)(m:Nat->Option Nat):Env:={E with ρ:=λj=>match m j with|some i=>E.ρ i|none=> .un}
theorem qI.rep {E:Env}{W:World}{m:Nat->Option Nat}:∀{y x:AV} {u:Value},qI m x y->aK E W x u->aK (E.ren m) W y u:=by
 have hm:∀{i j:Nat},m j=some i->(E.ren m).ρ j=E.ρ i:=λh=>by simp[Env.ren,h]
 intro y
 induction y with
 |d y=>
  intro x u h hx
  unfold qI at h
  split at h
  ·exact(h.imp E.S W).1 _ hx
  ·split at h
   ·trivial
   ·obtain⟨cs,rfl,hs,hc⟩:=hx
    refine⟨cs,rfl,hs.trans h.1,λj hj=>?_⟩
    have:=aM.1 h.2 j hj
    split at this
    ·rename_i z hz
     have hj':=hc j (h.1▸hj)
     rw[hz]at hj'
     exact⟨(this.imp E.S W).1 _ hj'.1,hj'.2⟩
    ·exact this.elim
   ·exact h.elim
  ·split at h
   ·trivial
   ·obtain⟨fs,cs,rfl,hs,hs',hf,hc⟩:=hx
    obtain⟨rfl,rfl,rfl,h4,h5⟩:=h
    refine⟨fs,cs,rfl,hs,hs',λj hj=>?_,λj hj=>?_⟩
    ·have:=aM.1 h4 j hj
     split at this
     ·rename_i z hz
      have hj':=hf j hj
      rw[hz]at hj'
      exact(this.imp E.S W).1 _ hj'
     ·exact this.elim
    ·have:=aM.1 h5 j hj
     split at this
     ·rename_i z hz
      have hj':=hc j hj
      rw[hz]at hj'
      exact(this.imp E.S W).1 _ hj'
     ·exact this.elim
   ·exact h.elim
  ·split at h
   ·trivial
   ·obtain⟨rfl,rfl,rfl⟩:=h
    rcases hx with⟨_,_,rfl⟩|⟨b,o,cap,c,T,_,rfl,h3,_⟩
    ·exact⟨none,0,rfl,e0g _,nofun,λ_=>rfl,λx e=>by cases e⟩
    ·exact⟨some ⟨b,o,none⟩,cap,rfl,h3,nofun,nofun,λx _ i hi=>absurd hi (e3i i)⟩
   ·exact h.elim
  ·split at h
   ·trivial
   ·exact h.elim
 |ref j o=>
  intro x u h hx
  unfold qI at h
  split at h
  ·obtain⟨h1,rfl⟩:=h
   obtain⟨b,hb,rfl⟩:=hx
   exact⟨b,(hm h1).trans hb,rfl⟩
  ·exact h.elim
 |el j k a o=>
  intro x u h hx
  unfold qI at h
  split at h
  ·obtain⟨h1,rfl,rfl,rfl⟩:=h
   obtain⟨b,hb,rfl⟩:=hx
   exact⟨b,(hm h1).trans hb,rfl⟩
  ·exact h.elim
 |ms j k a n=>
  intro x u h hx
  unfold qI at h
  split at h
  ·obtain⟨h1,rfl,rfl,rfl⟩:=h
   rcases hx with⟨hb,h2,rfl⟩|⟨b,o,cap,c,T,hb,h2⟩
   ·exact .inl ⟨(hm h1).trans hb,h2,rfl⟩
   ·exact .inr ⟨b,o,cap,c,T,(hm h1).trans hb,h2⟩
  ·exact h.elim
 |ag n g ih=>
  intro x u h hx
  unfold qI at h
  split at h
  ·obtain⟨rfl,h2⟩:=h
   obtain⟨cs,rfl,hs,hc⟩:=hx
   exact⟨cs,rfl,hs,λj hj=>⟨ih j (aM.1 h2 j hj) (hc j hj).1,(hc j hj).2⟩⟩
  ·obtain⟨rfl,h2⟩:=h
   obtain⟨cs,rfl,hs,hc⟩:=hx
   exact⟨cs,rfl,hs,λj hj=>⟨ih j (aM.1 h2 j hj) (hc j hj).1,(hc j hj).2⟩⟩
  ·exact h.elim
 |fn g n p f c ih1 ih2=>
  intro x u h hx
  unfold qI at h
  split at h
  ·obtain⟨rfl,rfl,rfl,h4,h5⟩:=h
   obtain⟨fs,cs,rfl,hs,hs',hf,hc⟩:=hx
   exact⟨fs,cs,rfl,hs,hs',λj hj=>ih1 j (aM.1 h4 j hj) (hf j hj),λj hj=>ih2 j (aM.1 h5 j hj) (hc j hj)⟩
  ·obtain⟨rfl,rfl,rfl,h4,h5⟩:=h
   obtain⟨fs,cs,rfl,hs,hs',hf,hc⟩:=hx
   exact⟨fs,cs,rfl,hs,hs',λj hj=>ih1 j (aM.1 h4 j hj) (hf j hj),λj hj=>ih2 j (aM.1 h5 j hj) (hc j hj)⟩
  ·exact h.elim
 |mp j=>
  intro x u h hx
  unfold qI at h
  split at h
  ·obtain⟨b,hb,rfl⟩:=hx
   exact⟨b,(hm h).trans hb,rfl⟩
  ·exact h.elim
 |tp n g ih=>
  intro x u h hx
  unfold qI at h
  split at h
  ·obtain⟨rfl,h2⟩:=h
   obtain⟨cs,rfl,hs,hc⟩:=hx
   exact⟨cs,rfl,hs,λj hj=>ih j (aM.1 h2 j hj) (hc j hj)⟩
  ·obtain⟨rfl,h2⟩:=h
   obtain⟨cs,rfl,hs,hc⟩:=hx
   exact⟨cs,rfl,hs,λj hj=>ih j (aM.1 h2 j hj) (hc j hj)⟩
  ·exact h.elim
 |stp j=>
  intro x u h hx
  unfold qI at h
  split at h
  ·obtain⟨b,hb,rfl⟩:=hx
   exact⟨b,(hm h).trans hb,rfl⟩
  ·exact h.elim
 |sub j k a=>
  intro x u h hx
  unfold qI at h
  split at h
  ·obtain⟨h1,rfl,rfl⟩:=h
   obtain⟨b,hb,rfl⟩:=hx
   exact⟨b,(hm h1).trans hb,rfl⟩
  ·exact h.elim
def eF (f g:List Int->Option Int):Prop:=∀k,f k=g k
def c1u (m:Nat->Option Nat)(x y:Res):Prop:=
  match y with
  | .cs b n g=>match x with
    | .cs a n' f=>a=b/\n'=n/\jB n λj=>qI m (f j) (g j)
    |_=>False
  | .row b T k n g=>match x with
    | .row a T' k' n' f=>a=b/\T'=T/\k'=k/\n'=n/\∀j,j<n->dI (f j) (g j)
    |_=>False
  | .mp b kt g=>match x with
    | .mp a kt' f=>a=b/\kt'=kt/\eF f g
    |_=>False
  | .me ..=>False
  | .it b kt g sn cur=>match x with
    | .it a kt' f sn' cur'=>a=b/\kt'=kt/\eF f g/\sn'=sn/\(match cur with
      |none=>True
      |some q=>cur'=some q)
    |_=>False
theorem c1u.sat {B:Base}{E:Env}{W:World}{m:Nat->Option Nat}{x y:Res}{i j:Nat}(h:c1u m x y)(hm:m j=some i)(hx:SatR B E W i x):SatR B (E.ren m) W j y:=by
 have hj:(E.ren m).ρ j=E.ρ i:=by simp[Env.ren,hm]
 unfold c1u at h
 split at h
 ·split at h
  ·obtain⟨rfl,rfl,h3⟩:=h
   obtain⟨b,c,T,h4,h5,h6,h7,h8⟩:=hx
   exact⟨b,c,T,hj.trans h4,h5,h6,h7,λq hq=>⟨(aM.1 h3 q hq).rep (h8 q hq).1,(h8 q hq).2⟩⟩
  ·exact h.elim
 ·split at h
  ·obtain⟨rfl,rfl,rfl,rfl,h3⟩:=h
   rcases hx with⟨h4,h5⟩|⟨b,c,h4,h5,h6,h7,h8⟩
   ·exact .inl ⟨hj.trans h4,h5⟩
   ·exact .inr ⟨b,c,hj.trans h4,h5,h6,h7,λq hq=>⟨(h3 q hq).repC (h8 q hq).1,(h8 q hq).2⟩⟩
  ·exact h.elim
 ·split at h
  ·obtain⟨rfl,rfl,h3⟩:=h
   obtain⟨b,es,c,h4,h5,h6,h7⟩:=hx
   rw[show _=_ from funext h3]at h7
   exact⟨b,es,c,hj.trans h4,h5,h6,h7⟩
  ·exact h.elim
 ·exact h.elim
 ·split at h
  ·obtain⟨rfl,rfl,h3,rfl,h4⟩:=h
   obtain⟨b,r,es,c,sn,k1,k2,k3,k4,k5,k6,k7,k8⟩:=hx
   rw[show _=_ from funext h3]at k6
   refine⟨b,r,es,c,sn,hj.trans k1,k2,k3,k4,k5,k6,k7,λk x e=>?_⟩
   subst e
   exact k8 k x h4
  ·exact h.elim
structure LS where
  nx:Nat
  tm:List (Nat×AV)
  hp:List (Nat×Res)
  gh:Option Nat
def pL {α:Type}(d:α):List (Nat×α)->Nat->α
  |[],_=>d
  |(i,x)::l,j=>bif Nat.beq i j then x else pL d l j
def cB {α:Type}:List (Nat×α)->Nat->Option α
  |[],_=>none
  |(i,x)::l,j=>bif Nat.beq i j then some x else cB l j
def LS.st (n:Nat)(s:LS):St:=LS.rec (motive:=λ_=>St) (λnx tm hp gh=>⟨n,nx,pL (.d .top) tm,cB hp,gh⟩) s
theorem rO {α:Type}{d:α}:∀(l:List (Nat×α)) (j:Nat),pL d l j=d\/(j,pL d l j)∈l
 |[],_=> .inl rfl
 |(i,x)::l,j=>by
  unfold pL
  cases h:Nat.beq i j with
  |true=>obtain rfl:=d9s h;exact .inr (d9y ..)
  |false=>exact(rO l j).imp id λh=>d9v _ h
theorem gO {α:Type}:∀(l:List (Nat×α)) (j:Nat) (x:α),cB l j=some x->(j,x)∈l
 |[],_,_,h=>by cases h
 |(i,y)::l,j,x,h=>by
  unfold cB at h
  cases hb:Nat.beq i j with
  |true=>rw[hb]at h;obtain rfl:=d9s hb;cases h;exact d9y ..
  |false=>rw[hb]at h;exact d9v _ (gO l j x h)
def a3e:AV->AV->List (Nat×Nat)
  |x,.ref j _=>match x with| .ref i _=>[(j,i)]|_=>[]
  |x,.el j _ _ _=>match x with| .el i _ _ _=>[(j,i)]|_=>[]
  |x,.ms j _ _ _=>match x with| .ms i _ _ _=>[(j,i)]|_=>[]
  |x,.ag n g=>match x with| .ag _ f=>(List.range n).flatMap λq=>a3e (f q) (g q)|_=>[]
  |x,.fn _ n p f c=>match x with| .fn _ _ _ f' c'=>((List.range n).flatMap λq=>a3e (f' q) (f q))++(List.range p).flatMap λq=>a3e (c' q) (c q)|_=>[]
  |_,.d _=>[]
  |x,.mp j=>match x with| .mp i=>[(j,i)]|_=>[]
  |x,.tp n g=>match x with| .tp _ f=>(List.range n).flatMap λq=>a3e (f q) (g q)|_=>[]
  |x,.sub j _ _=>match x with| .sub i _ _=>[(j,i)]|_=>[]
  |x,.stp j=>match x with| .stp i=>[(j,i)]|_=>[]
def b9b (st:St)(m:List (Nat×Nat))(p:Nat×Res):List (Nat×Nat):=
  match p.2 with
  | .cs _ n g=>match cB m p.1 with
    |some i=>match st.hp i with
      |some (.cs _ _ f)=>(List.range n).flatMap λq=>a3e (f q) (g q)
      |_=>[]
    |none=>[]
  |_=>[]
def c9i:Nat->List (Nat×Nat)
  |0=>[]
  |n+1=>(n,n)::c9i n
theorem yV {α:Type}{j:Nat}{x:α}:∀{l m:List (Nat×α)},cB l j=some x->cB (l++m) j=some x
 |[],_,h=>by cases h
 |(i,y)::l,m,h=>by
  simp only[List.cons_append,cB]at h⊢
  cases hb:Nat.beq i j with
  |true=>rw[hb]at h;exact h
  |false=>rw[hb]at h;exact yV h
theorem zO:∀{np j:Nat},j<np->cB (c9i np) j=some j
 |n+1,j,h=>by
  simp only[c9i,cB]
  cases hb:Nat.beq n j with
  |true=>rw[d9s hb];rfl
  |false=>exact zO (by
   have:n≠j:=λe=>by rw[e,e3k]at hb;cases hb
   omega)
def a5q:List (Option Nat)->Bool
  |[]=>true
  |x::l=>(l.all λy=>match x,y with|some i,some j=> !Nat.beq i j|_,_=>false)&&a5q l
def a1h (m:Nat->Option Nat)(np:Nat)(st:St)(s:LS):Prop:=
  c6h s.tm (λp=>qI m (st.tm p.1) p.2)/\
  c6h s.hp (λp=>match m p.1 with
    |some i=>match st.hp i with
      |some r=>c1u m r p.2
      |none=>False
    |none=>False)/\
  a5q (s.hp.map λp=>m p.1)=true/\Nat.ble np s.nx=true/\st.gh=s.gh
structure Edge (np:Nat)(st:St)(s:LS):Prop where
  ex:∃m:Nat->Option Nat,(∀j,j<np->m j=some j)/\(∀j,s.nx<=j->m j=none)/\a1h m np st s
theorem lO {α:Type}{f:Nat->Option Nat}:∀{l:List (Nat×α)} {i j:Nat} {x y:α} {q:Nat},a5q (l.map λp=>f p.1)=true->(i,x)∈l->(j,y)∈l->f i=some q->f j=some q->i=j
 |[],_,_,_,_,_,_,h,_,_,_=>by cases h
 |(a,z)::l,i,j,x,y,q,hn,hi,hj,h1,h2=>by
  simp only[e0o,a5q,e0d,e1d]at hn
  have hall:∀(k:Nat) (w:α),(k,w)∈l->f a=some q->f k=some q->False:=by
   intro k w hk ha hk2
   have:=hn.1 (f k) (e0l.2 ⟨(k,w),hk,rfl⟩)
   rw[ha,hk2]at this
   simp[e3k]at this
  rcases e0b.1 hi with e1|hi<;>rcases e0b.1 hj with e2|hj
  ·cases e1;cases e2;rfl
  ·cases e1;exact(hall _ _ hj h1 h2).elim
  ·cases e2;exact(hall _ _ hi h2 h1).elim
  ·exact lO hn.2 hi hj h1 h2
theorem a1h.sat0 {m:Nat->Option Nat}{np:Nat}{B:Base}{E:Env}{st:St}{s:LS}{a:Act}{W:World}(h:a1h m np st s)(hm1:∀j,j<np->m j=some j)(hm2:∀j,s.nx<=j->m j=none)(hp:∀j,B.ρ0 j≠ .un->j<np)(hlt:∀p∈s.tm,p.1<st.n)(hs:Sat B (λj=>st.next<=j) E st a W):
  Sat B (λj=>s.nx<=j) (E.ren m) (s.st st.n) a W:=by
 obtain⟨h1,h2,h3,hnp,_⟩:=h
 have h1:=iB.1 h1
 have h2:=iB.1 h2
 have hlive:∀i r,cB s.hp i=some r->∃q r0,m i=some q/\st.hp q=some r0/\c1u m r0 r:=by
  intro i r hi
  have:=h2 _ (gO _ _ _ hi)
  simp only at this
  split at this
  ·rename_i q hq
   split at this
   ·rename_i r0 hr0;exact⟨q,r0,hq,hr0,this⟩
   ·exact this.elim
  ·exact this.elim
 have hρ:∀{i q},m i=some q->(E.ren m).ρ i=E.ρ q:=λh=>by simp[Env.ren,h]
 refine⟨hs.size,λi hi=>?_,λi r hi=>?_,λi j b hi hj h4 h5=>?_,λi hi=>?_,hs.sub,hs.sup,hs.s0,hs.df,hs.dn,hs.dd,hs.g,λi hi=>?_⟩
 ·rcases rO (d:=AV.d .top) s.tm i with e|e
  ·show aK _ _ (pL _ s.tm i) _
   rw[e];trivial
  ·exact(h1 _ e).rep (hs.tm i hi)
 ·obtain⟨q,r0,h4,h5,h6⟩:=hlive i r hi
  exact h6.sat h4 (hs.hp q r0 h5)
 ·cases hi':cB s.hp i with
  |none=>exact absurd hi' hi
  |some r=>
   cases hj':cB s.hp j with
   |none=>exact absurd hj' hj
   |some r'=>
    obtain⟨q,r0,q1,q2,_⟩:=hlive i r hi'
    obtain⟨q',r0',q1',q2',_⟩:=hlive j r' hj'
    rw[hρ q1]at h4;rw[hρ q1']at h5
    have:q=q':=hs.dist q q' b (by rw[q2];simp) (by rw[q2'];simp) h4 h5
    subst this
    exact lO h3 (gO _ _ _ hi') (gO _ _ _ hj') q1 q1'
 ·have:m i=none:=hm2 i hi
  simp[Env.ren,this]
 ·rw[hρ (hm1 i (hp i hi))];exact hs.r0 i hi
def a1c:List AV->Nat->AV
  |[],_=> .d .top
  |x::l,j=>match j with
    |0=>x
    |j+1=>a1c l j
theorem jL:∀(xs:List AV) (j:Nat),a1c xs j=xs.getD j (.d .top)
 |[],_=>by simp[a1c]
 |x::l,0=>by simp[a1c]
 |x::l,j+1=>by simpa[a1c]using jL l j
def num {α:Type}:Nat->List α->List (Nat×α)
  |_,[]=>[]
  |i,x::l=>(i,x)::num (i+1) l
theorem a3b {α:Type}:∀(l:List α) (i:Nat) (p:Nat×α),p∈num i l->i<=p.1/\p.1<i+l.length/\l[p.1-i]?=some p.2
 |[],_,_,h=>by cases h
 |x::l,i,p,h=>by
  rcases e0b.1 h with rfl|h
  ·exact⟨e0g _,by simp,by simp⟩
  ·obtain⟨h1,h2,h3⟩:=a3b l (i+1) p h
   refine⟨by omega,by simp only[e0r];omega,?_⟩
   rw[show p.1-i=(p.1-(i+1))+1 by omega,e2c];exact h3
theorem gF {α:Type}:∀(l:List α) (i j:Nat) (x:α),l[j]?=some x->(i+j,x)∈num i l
 |[],_,_,_,h=>by simp at h
 |y::l,i,0,x,h=>by
  simp at h;subst h;exact d9y ..
 |y::l,i,j+1,x,h=>by
  have:=gF l (i+1) j x (by simpa using h)
  rw[show i+(j+1)=i+1+j by omega]
  exact d9v _ this
theorem yW {α:Type}:∀(l:List α) (i j:Nat),cB (num i l) (i+j)=l[j]?
 |[],_,_=>rfl
 |x::l,i,0=>by simp[num,cB,e3k]
 |x::l,i,j+1=>by
  have:Nat.beq i (i+(j+1))=false:=by
   cases h:Nat.beq i (i+(j+1))with
   |false=>rfl
   |true=>have:=d9s h;omega
  simp only[num,cB,this,e2n,e2c]
  rw[show i+(j+1)=i+1+j by omega]
  exact yW l (i+1) j
theorem nT {α:Type}(l:List α)(j:Nat):cB (num 0 l) j=l[j]?:=by
 have:=yW l 0 j
 rwa[e0f]at this
theorem rP {α:Type}{d:α}:∀(l:List α) (i j:Nat),pL d (num i l) (i+j)=l.getD j d
 |[],_,_=>rfl
 |x::l,i,0=>by simp[num,pL,e3k]
 |x::l,i,j+1=>by
  have:Nat.beq i (i+(j+1))=false:=by
   cases h:Nat.beq i (i+(j+1))with
   |false=>rfl
   |true=>have:=d9s h;omega
  simp only[num,pL,this,e2n,e7e]
  rw[show i+(j+1)=i+1+j by omega]
  exact rP l (i+1) j
def mLS (xs:List AV)(ms:List Res)(gh:Option Nat):LS:=⟨ms.length,num 0 xs,num 0 ms,gh⟩
def mSt (xs:List AV)(ms:List Res):St:=(mLS xs ms (some 0)).st xs.length
def iD (k:Nat)(E:Env)(w:World):Base:=
  ⟨λb=>(∃j,j<k/\E.ρ j= .at b)\/w.heap.size<=b,E.S,E.ρ,Stp (λb=>(∃j,j<k/\E.ρ j= .at b)\/w.heap.size<=b) w,
    λ_ _ h1 h2=>h1.trans h2,λ_ h _ hb=> .inr (e2h h.size hb)⟩
structure FnL (P:Program)(f:Nat)(ms:List Res)(args:List AV)(K:Nat){ι:Type}(ms':ι->List Res)(y:ι->AV):Prop where
  ent:Ent P f
  le:ms.length<=K
  len:∀z,(ms' z).length=K
  nw:∀r,r∈ms->r.nw=true
  nw':∀z r,r∈ms' z->r.nw=true
  run:∀(E:Env) (w:World) (vals:List Value),Sat (iD ms.length E w) (λj=>ms.length<=j) E (mSt args ms) ⟨vals.toArray,[]⟩ w->
    Calls P f vals.toArray w λe w'=>∃z u E',e= .returned u/\Sat (iD ms.length E w) (λj=>K<=j) E' (mSt [y z] (ms' z)) ⟨#[u],[]⟩ w'
def AV.rn (π:Nat->Nat):AV->AV
  | .d x=> .d x
  | .ref i off=> .ref (π i) off
  | .el i k j off=> .el (π i) k j off
  | .ms i k off n=> .ms (π i) k off n
  | .ag n f=> .ag n λj=>(f j).rn π
  | .fn g n m f c=> .fn g n m (λj=>(f j).rn π) (λj=>(c j).rn π)
  | .mp i=> .mp (π i)
  | .tp n f=> .tp n λj=>(f j).rn π
  | .sub i k j=> .sub (π i) k j
  | .stp i=> .stp (π i)
def Res.rn (π:Nat->Nat):Res->Res
  | .cs mt n f=> .cs mt n λj=>(f j).rn π
  | .row mt U k n x=> .row mt U k n x
  | .mp mt kt m=> .mp mt kt m
  | .it mt kt m s c=> .it mt kt m s c
  | .me mt kt m l g=> .me mt kt m l (π g)
theorem AV.rn_rep {E E':Env}{W:World}{π:Nat->Nat}{K:Nat}(hu:∀j,K<=j->E.ρ j= .un)(hS:E'.S=E.S)(hi:∀j,j<K->E'.ρ (π j)=E.ρ j):∀{y:AV} {u:Value},aK E W y u->aK E' W (y.rn π) u:=by
 have h2:∀{j},E.ρ j≠ .un->E'.ρ (π j)=E.ρ j:=λ{j} h=>by
  by_cases e:j<K
  ·exact hi j e
  ·exact absurd (hu j (Nat.le_of_not_lt e)) h
 have h0:∀{j b},E.ρ j= .at b->E'.ρ (π j)= .at b:=λ{j b} h=>(h2 (by rw[h];simp)).trans h
 have h1:∀{j},E.ρ j= .nil->E'.ρ (π j)= .nil:=λ{j} h=>(h2 (by rw[h];simp)).trans h
 intro y
 induction y with
 |d x=>exactλ{u} hx=>by show Rep E'.S W x u;rw[hS];exact hx
 |ref id off=>rintro u ⟨b,hb,rfl⟩;exact⟨b,h0 hb,rfl⟩
 |el id k j off=>rintro u ⟨b,hb,rfl⟩;exact⟨b,h0 hb,rfl⟩
 |ms id k off n=>
  rintro u (⟨hb,hn,rfl⟩|⟨b,o,cap,c,T,hb,rfl,hn,hm,hc,hs⟩)
  ·exact .inl ⟨h1 hb,hn,rfl⟩
  ·exact .inr ⟨b,o,cap,c,T,h0 hb,rfl,hn,hm,hc,hs⟩
 |ag n f ih=>rintro u ⟨cs,rfl,hs,hc⟩;exact⟨cs,rfl,hs,λj hj=>⟨ih j (hc j hj).1,(hc j hj).2⟩⟩
 |fn g n m f c ih1 ih2=>rintro u ⟨fs,cs,rfl,h1,h2,h3,h4⟩;exact⟨fs,cs,rfl,h1,h2,λj hj=>ih1 j (h3 j hj),λj hj=>ih2 j (h4 j hj)⟩
 |mp id=>rintro u ⟨b,hb,rfl⟩;exact⟨b,h0 hb,rfl⟩
 |tp n f ih=>rintro u ⟨cs,rfl,hs,hc⟩;exact⟨cs,rfl,hs,λj hj=>ih j (hc j hj)⟩
 |sub id k j=>rintro u ⟨b,hb,rfl⟩;exact⟨b,h0 hb,rfl⟩
 |stp id=>rintro u ⟨b,hb,rfl⟩;exact⟨b,h0 hb,rfl⟩
theorem SatR.nw_ati {B:Base}{E:Env}{W:World}{R:Res}{i:Nat}(hR:R.nw=true)(h:SatR B E W i R):E.ρ i≠ .un/\∀b,E.ρ i= .at b->¬E.S b/\B.ow b/\((∃c T,W.heap[b]?=some (.cells c T (0,0)))\/∃es c,W.heap[b]?=some (.map es c)):=by
 cases R with
 |cs mt n f=>
  cases mt with
  |false=>cases hR
  |true=>
   obtain⟨b,c,T,h1,h2,h3,h4,h5⟩:=h
   refine⟨by rw[h1];simp,λb' hb=>?_⟩
   rw[h1]at hb;cases hb;exact⟨h4.1,h4.2,.inl ⟨c,T,h2⟩⟩
 |row mt U k n x=>
  cases mt with
  |false=>cases hR
  |true=>
   rcases h with⟨h1,_⟩|⟨b,c,h1,h2,h3,h4,h5⟩
   ·exact⟨by rw[h1];simp,λb' hb=>by rw[h1]at hb;cases hb⟩
   ·refine⟨by rw[h1];simp,λb' hb=>?_⟩
    rw[h1]at hb;cases hb;exact⟨h4.1,h4.2,.inl ⟨c,U,h2⟩⟩
 |mp mt kt m=>
  cases mt with
  |false=>cases hR
  |true=>
   obtain⟨b,es,c,h1,h2,h4,h5⟩:=h
   refine⟨by rw[h1];simp,λb' hb=>?_⟩
   rw[h1]at hb;cases hb;exact⟨h4.1,h4.2,.inr ⟨es,c,h2⟩⟩
 |it=>cases hR
 |me=>cases hR
theorem SatR.rn {B B':Base}{E E':Env}{W:World}{π:Nat->Nat}{K i:Nat}{R:Res}(hR:R.nw=true)(hu:∀j,K<=j->E.ρ j= .un)(hS:E'.S=E.S)(hi:∀j,j<K->E'.ρ (π j)=E.ρ j)(hK:i<K)(ho:∀b,E.ρ i= .at b->B.ow b->B'.ow b)(h:SatR B E W i R):SatR B' E' W (π i) (R.rn π):=by
 have own:∀b,E.ρ i= .at b->(¬E.S b/\B.ow b)->¬E'.S b/\B'.ow b:=λb hb h=>⟨by rw[hS];exact h.1,ho b hb h.2⟩
 have hii:=hi i hK
 cases R with
 |cs mt n f=>
  cases mt with
  |false=>cases hR
  |true=>
   obtain⟨b,c,T,h1,h2,h3,h4,h5⟩:=h
   exact⟨b,c,T,hii.trans h1,h2,h3,own b h1 h4,λj hj=>⟨AV.rn_rep hu hS hi (h5 j hj).1,(h5 j hj).2⟩⟩
 |row mt U k n x=>
  cases mt with
  |false=>cases hR
  |true=>
   rcases h with⟨h1,h2⟩|⟨b,c,h1,h2,h3,h4,h5⟩
   ·exact .inl ⟨hii.trans h1,h2⟩
   ·exact .inr ⟨b,c,hii.trans h1,h2,h3,own b h1 h4,λj hj=>⟨by rw[hS];exact(h5 j hj).1,(h5 j hj).2⟩⟩
 |mp mt kt m=>
  cases mt with
  |false=>cases hR
  |true=>
   obtain⟨b,es,c,h1,h2,h4,h5⟩:=h
   exact⟨b,es,c,hii.trans h1,h2,own b h1 h4,h5⟩
 |it=>cases hR
 |me=>cases hR
theorem SatR.own {B B':Base}{E:Env}{W:World}{i:Nat}{R:Res}(hR:R.nw=true)(ho:∀b,E.ρ i= .at b->B.ow b->B'.ow b)(h:SatR B E W i R):SatR B' E W i R:=by
 cases R with
 |cs mt n f=>
  cases mt with
  |false=>cases hR
  |true=>
   obtain⟨b,c,T,h1,h2,h3,h4,h5⟩:=h
   exact⟨b,c,T,h1,h2,h3,⟨h4.1,ho b h1 h4.2⟩,h5⟩
 |row mt U k n x=>
  cases mt with
  |false=>cases hR
  |true=>
   rcases h with⟨h1,h2⟩|⟨b,c,h1,h2,h3,h4,h5⟩
   ·exact .inl ⟨h1,h2⟩
   ·exact .inr ⟨b,c,h1,h2,h3,⟨h4.1,ho b h1 h4.2⟩,h5⟩
 |mp mt kt m=>
  cases mt with
  |false=>cases hR
  |true=>
   obtain⟨b,es,c,h1,h2,h4,h5⟩:=h
   exact⟨b,es,c,h1,h2,⟨h4.1,ho b h1 h4.2⟩,h5⟩
 |it=>cases hR
 |me=>cases hR
def xW (l:List AV)(st:St):St:=⟨l.length,st.next,a1c l,st.hp,st.gh⟩
def gN (E:Env)(m:Nat->Option Nat):Env:=⟨E.S,(E.ren m).ρ,[]⟩
theorem Sat.lend {B:Base}{Fr:Nat->Prop}{E:Env}{st:St}{a:Act}{W:World}(h:Sat B Fr E st a W){l:List AV}{us:List Value}(hl:l.length=us.length)(hx:∀j,j<l.length->aK E W (l.getD j (.d .top)) (us.getD j undef))
  {m:Nat->Option Nat} {as:List AV} {ms:List Res} (he:a1h m 0 (xW l st) (mLS as ms st.gh)) (hal:as.length=l.length) (hm2:∀j,ms.length<=j->m j=none) (hnw:∀r,r∈ms->r.nw=true):
  Sat (iD ms.length (gN E m) W) (λj=>ms.length<=j) (gN E m) (mSt as ms) ⟨us.toArray,[]⟩ W:=by
 obtain⟨h1,h2,h3,_,_⟩:=he
 have h1:=iB.1 h1
 have h2:=iB.1 h2
 have hlive:∀i r,ms[i]?=some r->∃q r0,m i=some q/\st.hp q=some r0/\c1u m r0 r:=by
  intro i r hi
  have:=h2 (i,r) (by have:=gF ms 0 i r hi;rwa[e0f]at this)
  simp only at this
  split at this
  ·rename_i q hq
   split at this
   ·rename_i r0 hr0;exact⟨q,r0,hq,hr0,this⟩
   ·exact this.elim
  ·exact this.elim
 have hρ:∀{i q},m i=some q->(gN E m).ρ i=E.ρ q:=λh=>by simp[gN,Env.ren,h]
 have hren:∀{x:AV} {u:Value},aK (E.ren m) W x u->aK (gN E m) W x u:=λ{x u} hx=>aK.ev (E:=E.ren m) (E':=gN E m) ⟨λ_ h=>h,λ_ _=>rfl,λ_ _=>rfl,λ_ c _ h=>⟨c,h,rfl⟩⟩ hx
 have hmem:∀i r,ms[i]?=some r->r∈ms:=λi r hi=>e1j hi
 have hhp:∀i r,ms[i]?=some r->SatR (iD ms.length (gN E m) W) (gN E m) W i r/\SatR B (E.ren m) W i r:=by
  intro i r hi
  obtain⟨q,r0,h4,h5,h6⟩:=hlive i r hi
  have h7:SatR B (E.ren m) W i r:=h6.sat h4 (h.hp q r0 h5)
  have h8:SatR B (gN E m) W i r:=h7.ev (E:=E.ren m) (E':=gN E m) ⟨λ_ h=>h,λ_ _=>rfl,λ_ _=>rfl,λ_ c _ h=>⟨c,h,rfl⟩⟩ (λ_ _=>rfl) (λ_ _ _ h=>h)
  have hil:i<ms.length:=(e1l.1 hi).1
  exact⟨h8.own (hnw r (hmem i r hi)) λb hb _=> .inl ⟨i,hil,hb⟩,h7⟩
 have hp0:∀i,(mSt as ms).hp i=ms[i]?:=λi=>nT ms i
 refine⟨?_,λi hi=>?_,λi r hi=>?_,λi j b hi hj h4 h5=>?_,λi hi=>?_,λ_ hb=>hb,λ_ hb=> .inl hb,λb hb=>⟨λho=>?_,h.S_lt b hb⟩,rfl,e4k,λD hD=>(by cases hD),Stp.refl _ _,λ_ _=>rfl⟩
 ·show us.toArray.size=as.length
  rw[e3y,hal,hl]
 ·have hi:i<as.length:=hi
  have h0:(i,as.getD i (.d .top))∈num 0 as:=by
   have:=gF as 0 i (as.getD i (.d .top)) (by rw[d9r,e0e hi];rfl)
   rwa[e0f]at this
  have h6:=h1 _ h0
  have e1:(mSt as ms).tm i=as.getD i (.d .top):=by
   show pL (.d .top) (num 0 as) i=_
   have:=rP (d:=AV.d .top) as 0 i
   rwa[e0f]at this
  rw[e1]
  have h7:qI m (a1c l i) (as.getD i (.d .top)):=h6
  rw[jL]at h7
  have h8:=hx i (hal▸hi)
  have e2:us.toArray.getD i undef=us.getD i undef:=by simp[d9x,d9r]
  rw[show(⟨us.toArray,[]⟩:Act).tmps=us.toArray from rfl,e2]
  exact hren (h7.rep h8)
 ·rw[hp0]at hi
  exact(hhp i r hi).1
 ·rw[hp0]at hi hj
  cases hi':ms[i]? with
  |none=>exact absurd hi' hi
  |some r=>
   cases hj':ms[j]? with
   |none=>exact absurd hj' hj
   |some r'=>
    obtain⟨q,r0,q1,q2,_⟩:=hlive i r hi'
    obtain⟨q',r0',q1',q2',_⟩:=hlive j r' hj'
    rw[hρ q1]at h4;rw[hρ q1']at h5
    have:q=q':=h.dist q q' b (by rw[q2];simp) (by rw[q2'];simp) h4 h5
    subst this
    have m1:=gF ms 0 i r hi'
    have m2:=gF ms 0 j r' hj'
    rw[e0f]at m1 m2
    exact lO h3 m1 m2 q1 q1'
 ·have:m i=none:=hm2 i hi
  simp[gN,Env.ren,this]
 ·rcases ho with⟨j,hj,hjb⟩|ho
  ·have hr:ms[j]?=some ms[j]:=e0e hj
   obtain⟨_,h7⟩:=hhp j _ hr
   exact((h7.nw_ati (hnw _ (hmem j _ hr))).2 b hjb).1 hb
  ·have:=h.S_lt b hb
   have ho:W.heap.size<=b:=ho
   omega
def d1u (x:DV):DV:=match x with| .ag ..=> .top|y=>y
def dOf (x:AV):DV:=match x with| .d y=>d1u y|_=> .top
def zE (ti:TI):DV:=bif ti.agg then .ag ti.size λj=> .v (ti.z.cells.getD j undef)else .v ti.z
def isZ (k:IntKind):Value->Bool
  | .int j 0=>IntKind.eq j k
  |_=>false
def b6p (T:Nat->Option TI)(ti:TI):Option (Nat×TI):=
  match ti.d with
  | .array n e=>match T e with
    |some te=>bif te.agg then none else bif Nat.beq te.size 1&&Nat.beq ti.size n then some (n,te)else none
    |none=>none
  |_=>none
def yN (ti:TI):Bool:=match ti.d with| .array ..=>true|_=>false
def qK (T:Nat->Option TI)(i t:Nat)(st:St):Option (Prop×AV×St):=
  match T t with
  |some ti=>bif yN ti then
      match b6p T ti with
      |some (n,te)=>match te.d with
        | .int k=>bif ti.z.cells.toList.all (isZ k)then some (True,.el i 1 0 0,st.set i (some (.row true t 1 n λ_=> .v (.int k 0))))else none
        |_=>none
      |none=>none
    else some (True,.ref i 0,st.set i (some (.cs true ti.size λj=> .d (.v (ti.z.cells.getD j undef)))))
  |none=>none
def c2h (T:Nat->Option TI)(i t:Nat)(x:AV)(st:St):Option (Prop×AV×St):=
  match T t,dY x with
  |some ti,some m=>bif yN ti then
      match b6p T ti with
      |some (n,_)=>bif Nat.beq m n then some (True,.el i 1 0 0,st.set i (some (.row true t 1 n λj=>dOf (sW x j))))else none
      |none=>none
    else some (True,.ref i 0,st.set i (some (.cs true m λj=>sW x j)))
  |_,_=>none
def c2z (z:Nat->DV):List (Nat×DV)->(Nat->DV)
  |[]=>z
  |(i,x)::r=>c2z (λj=>bif Nat.beq j i then x else z j) r
def apd (n:Nat)(f g:Nat->DV):Nat->DV:=λj=>if j<n then f j else g (j-n)
def upE (i:Nat)(x:DV)(f:Nat->DV):Nat->DV:=λj=>if j=i then x else f j
def mid (o m:Nat)(g f:Nat->DV):Nat->DV:=λj=>if o<=j/\j<o+m then g (j-o)else f j
def d3v (i m n:Nat)(g f:Nat->DV):Nat->DV:=bif Nat.beq i 0&&Nat.beq m n then g else mid i m g f
theorem c3w {i m n:Nat}{g f:Nat->DV}{j:Nat}(h:j<n):d3v i m n g f j=mid i m g f j:=by
 unfold d3v
 cases hb:Nat.beq i 0&&Nat.beq m n with
 |false=>rfl
 |true=>
  rw[e0d]at hb
  obtain rfl:=d9s hb.1
  obtain rfl:=d9s hb.2
  unfold mid
  rw[e0c ⟨e4t _,by omega⟩]
  rfl
def bH:Nat:=5
def mU (st:St)(k len:Nat)(ev:Operand->AV):List (Nat×Operand)->Option (List (Nat×DV))
  |[]=>some []
  |(i,x)::r=>match dY (ev x)with
    |some n=>bif Nat.beq n k&&Nat.blt i len then(mU st k len ev r).map ((i,dX bH st.hp (ev x)):: ·)else none
    |none=>none
def bO (st:St)(l:List AV):List Nat:=l.flatMap (bB bH st.hp)
def gQ (st:St):List AV->Prop
  |[]=>True
  |x::l=>qB bH st.hp x/\gQ st l
def dR (T:Nat->Option TI)(i t len:Nat)(parts:List (Nat×Operand))(st:St):Option (Prop×AV×St):=
  match T t with
  |some ti=>match ti.d with
    | .slice e=>match T e with
      |some te=>match mU st te.size len st.ev parts with
        |some l=>bif Nat.ble (len*te.size) 16777216&&Nat.blt 0 te.size then
            some (gQ st (parts.map λp=>st.ev p.2),.ms i te.size 0 len,(st.frzs (bO st (parts.map λp=>st.ev p.2))).set i (some (.row true e te.size len (c2z (λ_=>zE te) l))))
          else none
        |none=>none
      |none=>none
    |_=>none
  |none=>none
def eV (T:Nat->Option TI)(i t:Nat)(l c:AV)(st:St):Option (Prop×AV×St):=
  match T t,asI l,asI c with
  |some ti,some (_,l),some (_,c)=>match ti.d with
    | .slice e=>match T e with
      |some te=>bif Nat.ble te.bytes 1048576&&Nat.blt 0 te.size then
          some (0<=l/\l<=c/\c<=1048576,.ms i te.size 0 l.toNat,st.set i (some (.row true e te.size l.toNat λ_=>zE te)))
        else none
      |none=>none
    |_=>none
  |_,_,_=>none
def uV (T:Nat->Option TI)(t:Nat)(ad x:AV)(st:St):Option (Prop×St):=
  match T t,dY x with
  |some ti,some m=>bif Nat.beq m ti.size then
      match ad with
      | .ref id off=>match st.hp id with
        |some (.cs true n f)=>some (off+m<=n,st.set id (some (.cs true n λj=>bif (Nat.ble off j&&Nat.blt j (off+m))then sW x (j-off)else f j)))
        |_=>none
      | .el id k i off=>match st.hp id with
        |some (.row true U k' n f)=>bif Nat.beq k k' then
            (bif Nat.beq m k&&Nat.beq off 0 then
              some (qB bH st.hp x/\i<n/\¬id∈bB bH st.hp x,(st.frzs (bB bH st.hp x)).set id (some (.row true U k n (upE i (dX bH st.hp x) f))))
            else bif Nat.beq k 1 then(bif Nat.beq off 0 then
              some (i+m<=n,st.set id (some (.row true U 1 n (d3v i m n (λq=>dOf (sW x q)) f))))else none)
            else
              some (qB bH st.hp x/\off+m<=k/\i<n/\¬id∈bB bH st.hp x,(st.frzs (bB bH st.hp x)).set id (some (.row true U k n (upE i (.ag k (λc=>bif (Nat.ble off c&&Nat.blt c (off+m))then d1u (sX (dX bH st.hp x) (c-off))else d1u (sX (f i) c))) f)))))
          else none
        |_=>none
      |_=>none
    else none
  |_,_=>none
def d8j (k:Nat)(x:DV):Prop:=match x with| .ag n _=>n=k| .top=>False|_=>k=1
def xP (st:St)(k:Nat):AV->Option (Prop×Nat×(Nat->DV))
  | .ms id k1 off m=>match st.hp id with
    |some (.row _ _ k2 n f)=>bif Nat.beq k k1&&Nat.beq k k2 then some (off+m<=n,m,λj=>f (off+j))else none
    |_=>none
  | .d (.sl _ k1 m f)=>bif Nat.beq k k1 then some (∀i,i<m->d8j k (f i),m,f)else none
  | .d (.v (.slice none 0 0))=>some (True,0,λ_=> .top)
  |_=>none
def a0o:AV->Bool
  | .d (.sl t _ _ _)=>t
  | .d (.v (.slice none 0 0))=>true
  |_=>false
def d1s:AV->Bool
  | .d (.v (.slice none 0 0))=>true
  |_=>false
def nzP (s:AV)(m:Nat):Prop:=match d1s s with|true=>True|false=>0<m
def nJ (T:Nat->Option TI)(i t:Nat)(s x:AV)(st:St):Option (Prop×AV×St):=
  match T t with
  |some ti=>match ti.d with
    | .slice e=>match T e with
      |some te=>bif Nat.ble te.bytes 1048576&&Nat.blt 0 te.size then
          match xP st te.size x with
          |some (cx,m,g)=>match s with
            | .ms id k off n=>match st.hp id with
              |some (.row true U k' n' f)=>bif Nat.beq off 0&&Nat.beq k te.size&&Nat.beq k' te.size&&Nat.beq U e then
                  some (cx/\n'=n/\n+m<=1048576,.ms i te.size 0 (n+m),(st.set id none).set i (some (.row true e te.size (n+m) (apd n f g))))
                else none
              |_=>none
            |_=>bif a0o s then match xP st te.size s with
                |some (cs,n,f)=>some (cs/\cx/\nzP s m/\n+m<=1048576,.ms i te.size 0 (n+m),st.set i (some (.row true e te.size (n+m) (apd n f g))))
                |none=>none
              else none
          |none=>none
        else none
      |none=>none
    |_=>none
  |none=>none
def tU (T:Nat->Option TI)(t:Nat)(x:AV)(st:St):Option (Prop×AV×St):=
  match T t with
  |some ti=>match ti.d with
    | .slice e=>match T e with
      |some te=>match x with
        | .ms id k off m=>match st.hp id with
          |some (.row true U k' n f)=>bif Nat.beq k te.size&&Nat.beq k' te.size&&Nat.blt 0 te.size then
              some (off+m<=n,.d .top,st.set id (some (.row true U k' n (mid off m (λ_=>zE te) f))))
            else none
          |_=>none
        | .sub id k i=>match st.hp id with
          |some (.row true U k' n f)=>bif Nat.beq k k'&&Nat.beq te.size 1&&Nat.blt 0 k then
              some (i<n,.d .top,st.set id (some (.row true U k' n (upE i (.ag k λ_=> .v (te.z.cells.getD 0 undef)) f))))
            else none
          |_=>none
        |_=>none
      |none=>none
    |_=>none
  |none=>none
def a7r (T:Nat->Option TI)(t:Nat)(d s:AV)(st:St):Option (Prop×AV×St):=
  match T t with
  |some ti=>match ti.d with
    | .slice e=>match T e with
      |some te=>match xP st te.size s with
        |some (cx,m,g)=>match d with
          | .ms id k off n=>match st.hp id with
            |some (.row true U k' n' f)=>bif Nat.beq k te.size&&Nat.beq k' te.size&&Nat.blt 0 te.size then
                some (cx/\off+n<=n'/\m=n,.d (.v (.int .i64 n)),st.set id (some (.row true U k' n' (mid off n g f))))
              else none
            |_=>none
          |_=>none
        |none=>none
      |none=>none
    |_=>none
  |none=>none
def lS (T:Nat->Option TI)(t:Nat)(x:AV)(hi mx:Option Int)(st:St):Option (Prop×AV×St):=
  match T t,hi,mx with
  |some ti,some h,some m=>match ti.d with
    | .slice e=>match T e with
      |some te=>match x with
        | .ms id k off n=>match st.hp id with
          |some (.row _ _ k' n' f)=>bif Nat.beq k te.size&&Nat.beq k' te.size then
              some (0<=h/\h<=n/\m=h/\off+n<=n',.d (.sl true k h.toNat λj=>f (off+j)),st.frz id)
            else none
          |_=>none
        |_=>none
      |none=>none
    |_=>none
  |_,_,_=>none
def c3z (T:Nat->Option TI)(i t:Nat)(st:St):Option (Prop×AV×St):=
  match T t with
  |some ti=>match ti.d with
    | .slice e=>match T e with
      |some te=>some (True,.ms i te.size 0 0,st.set i (some (.row true e te.size 0 λ_=> .top)))
      |none=>none
    |_=>none
  |none=>none
def gB:AV->List AV->Option (Nat×List AV)
  | .fn g n m f c,l=>some (g,(List.range n).map f++l++(List.range m).map c)
  | .d (.fn g n m f c),l=>some (g,(List.range n).map (λj=> .d (f j))++l++(List.range m).map λj=> .d (c j))
  |_,_=>none
def ipV (P:Program)(f:AV)(l:List AV)(x':Nat->DV)(y:AV)(st:St):Option (Prop×AV×St):=
  match f,l with
  | .d (.fn gf 0 0 _ _),.ms id k off n::l'=>match st.hp id with
    |some (.row true U k' m x)=>bif Nat.beq k' k then
        some ((off=0/\m=n/\bO st l'=[]/\gQ st l')/\FnI P gf U k n x x' (l'.map (dX bH st.hp)) y,y.nm id,st.set id (some (.row true U k n x')))else none
    |_=>none
  |_,_=>none
def b7x (st:St)(id:Nat):Bool:=match st.hp id with
  |some (.mp ..)=>true
  |_=>false
def d1t (R:Res)(y:AV):Bool:=match R,y with
  | .mp ..,.mp _=>true
  |_,_=>false
def iZ (P:Program)(i:Nat)(f:AV)(l:List AV)(r:CR)(st:St):Option (Prop×AV×St):=
  match r with
  | .dv r=>match gB f l with
    |some (g,l)=>some (gQ st l/\Fn P g (l.map (dX bH st.hp)) r,.d r,bif r.flat then st else st.frzs (bO st l))
    |none=>none
  | .ip x' y=>ipV P f l x' y st
  | .nw R y=>match gB f l with
    |some (g,l)=>some ((gQ st l/\R.nw=true)/\FnN P g (l.map (dX bH st.hp)) R y,y.nm i,(bif d1t R y then st else st.frzs (bO st l)).set i (some (R.nm i)))
    |none=>none
  | .ln r=>match gB f l with
    |some (g,l)=>bif (bO st l).all (b7x st)then some ((gQ st l/\NoMp r)/\Fn P g (l.map (dX bH st.hp)) r,.d r,st)else none
    |none=>none
  | .ls ..=>none
def uD (f:Nat->AV):Nat->Nat->Option (List Int)
  |_,0=>some []
  |j,n+1=>match asI (f j)with
    |some (k,a)=>bif IntKind.eq k .i64 then(match uD f (j+1) n with
      |some l=>some (a::l)
      |none=>none)else none
    |none=>none
def c6p (kt:KT)(x:AV):Option (List Int):=
  match kt.ag with
  |true=>match c6j x with
    |some (m,f)=>bif Nat.beq m kt.n then uD f 0 kt.n else none
    |none=>none
  |false=>bif Nat.beq kt.n 1 then uD (λ_=>x) 0 1 else none
def b8r:List Int->Nat->DV
  |[],_=>int 0
  |x::l,j=>match j with
    |0=>int x
    |j+1=>b8r l j
theorem b3c:∀(l:List Int) (j:Nat),b8r l j=int (l.getD j 0)
 |[],j=>by simp[b8r]
 |x::l,0=>by simp[b8r]
 |x::l,j+1=>by rw[b8r,b3c l j];simp
def c8c (kt:KT)(l:List Int):DV:=
  match kt.ag with
  |true=> .ag kt.n λj=>b8r l j
  |false=>b8r l 0
def a1u (m:List Int->Option Int)(l:List Int):List Int->Option Int:=λj=>if j=l then none else m j
def c5p (kt:KT)(x:Int):DV:=match kt.va with
  |true=> .ag 2 λj=>b8r [dc1 x,dc2 x] j
  |false=> .v (.int .i64 x)
def d6b (kt:KT)(x:AV):Option Int:=match kt.va with
  |true=>match c6j x with
    |some (m,f)=>bif Nat.beq m 2 then(match uD f 0 2 with
      |some [a,b]=>some (cod a b)
      |_=>none)else none
    |none=>none
  |false=>match asI x with
    |some (k,a)=>bif IntKind.eq k .i64 then some a else none
    |none=>none
def wB (a b:KT):Bool:=(Nat.beq a.n b.n&&(match a.ag with
  |true=>b.ag
  |false=> !b.ag))&&(match a.va with
  |true=>b.va
  |false=> !b.va)
def kmp (T:Nat->Option TI)(t:Nat):Option KT:=
  match T t with
  |some ti=>ti.mp
  |none=>none
def d8r (st:St):AV->Option (KT×(List Int->Option Int))
  | .mp id=>match st.hp id with
    |some (.mp _ kt m)=>some (kt,m)
    |_=>none
  | .d (.mp kt m)=>some (kt,m)
  |_=>none
def b2q (st:St)(co:Bool):AV->Option (KT×(List Int->Option Int))
  | .mp id=>match st.hp id with
    |some (.mp _ kt m)=>some (kt,m)
    |some (.me _ kt m _ _)=>match co with
      |true=>none
      |false=>some (kt,m)
    |_=>none
  | .d (.mp kt m)=>some (kt,m)
  |_=>none
def zG (T:Nat->Option TI)(i t:Nat)(m k:AV)(st:St):Option (Prop×AV×St):=
  match kmp T t,m with
  |some kt,.mp id=>match st.hp id,c6p kt k with
    |some (.mp true kt' f),some l=>bif wB kt kt'&& !kt.va then some (True,.tp 2 (λj=>match j with
        |0=> .d (.v (.int .i64 ((f l).getD 0)))
        |_=> .stp i),st.set id (some (.me true kt' f l i)))else none
    |_,_=>none
  |_,_=>none
def a8p (m s v:AV)(st:St):Option (Prop×AV×St):=
  match m,s,asI v with
  | .mp id,.stp g,some (vk,a)=>match st.hp id with
    |some (.me true kt f l g')=>bif Nat.beq g g'&&IntKind.eq vk .i64&& !kt.va then some (True,.d .top,st.set id (some (.mp true kt (jV f l a))))else none
    |_=>none
  |_,_,_=>none
def iL (T:Nat->Option TI)(i t:Nat)(st:St):Option (Prop×AV×St):=
  match kmp T t with
  |some kt=>some (True,.mp i,st.set i (some (.mp true kt λ_=>none)))
  |none=>none
def b9w (T:Nat->Option TI)(t:Nat)(m k v:AV)(st:St):Option (Prop×AV×St):=
  match kmp T t,m with
  |some kt,.mp id=>match st.hp id,c6p kt k,d6b kt v with
    |some (.mp true kt' f),some l,some a=>bif wB kt kt' then some (True,.d .top,st.set id (some (.mp true kt' (jV f l a))))else none
    |_,_,_=>none
  |_,_=>none
def c6n (T:Nat->Option TI)(t:Nat)(m k:AV)(st:St):Option (Prop×AV×St):=
  match kmp T t,m with
  |some kt,.mp id=>match st.hp id,c6p kt k with
    |some (.mp true kt' f),some l=>bif wB kt kt' then some (True,.d .top,st.set id (some (.mp true kt' (a1u f l))))else none
    |_,_=>none
  |_,_=>none
def pM (T:Nat->Option TI)(t:Nat)(m k:AV)(co:Bool)(st:St):Option (Prop×AV×St):=
  match kmp T t,b2q st co m with
  |some kt,some (kt',f)=>match c6p kt k with
    |some l=>bif wB kt kt' then some (True,.d (match co with
      |true=> .tp 2 λj=>match j with
        |0=>c5p kt ((f l).getD 0)
        |_=> .v (.bool (f l).isSome)
      |false=>c5p kt ((f l).getD 0)),st)else none
    |none=>none
  |_,_=>none
def fL (T:Nat->Option TI)(i t:Nat)(x:AV)(st:St):Option (Prop×AV×St):=
  match kmp T t with
  |some _=>match x with
    | .d (.mp kt f)=>some (True,.ref i 0,st.set i (some (.it true kt f [] none)))
    | .mp id=>match st.hp id with
      |some (.mp _ kt f)=>some (True,.ref i 0,(st.frz id).set i (some (.it true kt f [] none)))
      |_=>none
    |_=>none
  |none=>none
def qX (x:AV)(st:St):Option (Prop×AV×St):=
  match x with
  | .ref id 0=>match st.hp id with
    |some (.it _ kt _ _ (some (l,v)))=>some (True,.d (.tp 2 λj=>match j with
      |0=>c8c kt l
      |_=>c5p kt v),st)
    |_=>none
  |_=>none
def gY (T:Nat->Option TI)(t:Nat)(x:AV)(st:St):Option (Prop×AV×St):=
  match T t with
  |some ti=>match ti.d with
    | .array len e=>match T e with
      |some te=>bif Nat.beq te.size 1 then match x with
        | .el id k i 0=>match st.hp id with
          |some (.row _ _ k' n _)=>bif Nat.beq k k' then
              (bif Nat.beq k 1 then(bif Nat.ble len 65536 then some (i=0/\n=len,.ms id 1 0 len,st)else none)
              else bif Nat.beq k len then some (i<n,.sub id k i,st)else none)else none
          |_=>none
        |_=>none
        else none
      |none=>none
    |_=>none
  |none=>none
def kQ (T:Nat->Option TI)(t:Nat)(x:AV)(h:Int)(st:St):Option (Prop×AV×St):=
  match T t with
  |some ti=>match ti.d with
    | .array len e=>match T e with
      |some te=>bif Nat.beq te.size 1 then match x with
        | .el id k i 0=>match st.hp id with
          |some (.row _ _ k' n _)=>bif Nat.beq k k'&&Nat.beq k 1&&Nat.ble len 65536 then some (i=0/\n=len/\0<=h/\h<=len,.ms id 1 0 h.toNat,st)else none
          |_=>none
        |_=>none
        else none
      |none=>none
    |_=>none
  |none=>none
def nD (P:Program)(T:Nat->Option TI)(i:Nat)(op:Op)(ty:Nat)(st:St)(r:CR):Option (Prop×AV×St):=
  match op with
  | .load t x=>match T t with
    |some ti=>(a2q ti st.hp (st.ev x)).map λp=>(p.1,p.2,st)
    |none=>none
  | .alloc t=>qK T i t st
  | .box t x=>c2h T i t (st.ev x) st
  | .buildSlice t len parts=>dR T i t len parts.toList st
  | .makeSlice t l c=>eV T i t (st.ev l) (st.ev c) st
  | .store t ad x=>(uV T t (st.ev ad) (st.ev x) st).map λp=>(p.1,.d .top,p.2)
  | .assign (.const (.slice none 0 0))=>c3z T i ty st
  | .slice t x none hi (some mx)=>match st.ev x with
    | .ms ..=>match pP st.ev hi,pP st.ev (some mx)with
      |some hi,some mx=>lS T t (st.ev x) hi mx st
      |_,_=>none
    |_=>(aW T (.slice t x none hi (some mx)) st.ev).map λp=>(p.1,p.2,st)
  | .slice t x none none none=>match st.ev x with
    | .el id k j o=>gY T t (.el id k j o) st
    |_=>(aW T (.slice t x none none none) st.ev).map λp=>(p.1,p.2,st)
  | .slice t x none (some hi) none=>match st.ev x with
    | .el id k j o=>match pP st.ev (some hi)with
      |some (some h)=>kQ T t (.el id k j o) h st
      |_=>none
    |_=>(aW T (.slice t x none (some hi) none) st.ev).map λp=>(p.1,p.2,st)
  | .makeMap t none=>iL T i t st
  | .mapUpdate t m k v=>b9w T t (st.ev m) (st.ev k) (st.ev v) st
  | .insert t m k v=>b9w T t (st.ev m) (st.ev k) (st.ev v) st
  | .lookup t m k co=>pM T t (st.ev m) (st.ev k) co st
  | .range t x=>fL T i t (st.ev x) st
  | .entry x=>qX (st.ev x) st
  | .mapEntry t m k=>zG T i t (st.ev m) (st.ev k) st
  | .entryStore _ m s v=>a8p (st.ev m) (st.ev s) (st.ev v) st
  | .call c=>match c.callee with
    | .builtin .append=>match c.args.toList,c.argTypes.toList with
      |[s,x],[t,u]=>bif Nat.beq t u then nJ T i t (st.ev s) (st.ev x) st else none
      |_,_=>none
    | .builtin .copy=>match c.args.toList,c.argTypes.toList with
      |[d,s],[t,u]=>bif Nat.beq t u then a7r T t (st.ev d) (st.ev s) st else none
      |_,_=>none
    | .builtin .clear=>match c.args.toList,c.argTypes.toList with
      |[x],[t]=>tU T t (st.ev x) st
      |_,_=>none
    | .builtin .delete=>match c.args.toList,c.argTypes.toList with
      |[m,k],[t,_]=>c6n T t (st.ev m) (st.ev k) st
      |_,_=>none
    | .value f=>iZ P i (st.ev f) (c.args.toList.map st.ev) r st
    |_=>(aW T (.call c) st.ev).map λp=>(p.1,p.2,st)
  |op=>(aW T op st.ev).map λp=>(p.1,p.2,st)
def cT (P:Program)(B:Base)(Fr:Nat->Prop)(i:Nat)(st':St)(a:Act)(W:World)(ρ:Operand->Value)(o:Oper)(x:AV):Prop:=
  ∃E' r v W',(execOp ρ o).run P W= .ok r W'/\(r= .value v\/(r= .skip/\v=undef))/\Sat B (λj=>Fr j/\j≠i) E' st' a W'/\aK E' W' x v
theorem Sat.weak {B:Base}{Fr Fr':Nat->Prop}{E:Env}{st:St}{a:Act}{W:World}(h:Sat B Fr E st a W)(hf:∀j,Fr' j->Fr j):Sat B Fr' E st a W:=
 ⟨h.size,h.tm,h.hp,h.dist,λj hj=>h.fr j (hf j hj),h.sub,h.sup,h.s0,h.df,h.dn,h.dd,h.g,h.r0⟩
theorem cQ (st:St)(id:Nat)(r:Option Res):(st.set id r).hp id=r:=by show(bif Nat.beq id id then _ else _)=_;rw[bD];rfl
theorem bW (st:St){id j:Nat}(r:Option Res)(h:j≠id):(st.set id r).hp j=st.hp j:=by show(bif Nat.beq j id then _ else _)=_;rw[cG h];rfl
theorem aF (E:Env)(id:Nat)(l:Loc):(E.set id l).ρ id=l:=by show(bif Nat.beq id id then _ else _)=_;rw[bD];rfl
section
variable {P:Program} {T:Nat->Option TI} {B:Base} {Fr:Nat->Prop} {E:Env} {st:St} {a:Act} {W:World}
theorem mH (h:Sat B Fr E st a W)(id:Nat)(l:Loc):¬(E.set id l).S W.heap.size/\B.ow W.heap.size:=
 ⟨λhS=>absurd (h.S_lt _ hS) (e5g _),B.how W h.g _ (e0g _)⟩
theorem c0l (h:Sat B Fr E st a W){id:Nat}(hf:Fr id)(l:Loc)(o:Obj):Ev E W (E.set id l) (W.alloc o):=by
 have hbel:Below W.heap.size W (W.alloc o):=(e5p _ W).alloc (e0g _) _
 exact⟨λ_ h=>h,λb hb=>hbel.block b (h.S_lt b hb),(Ev.set (W:=W) (h.fr id hf)).r,λb cc _ hcc=>⟨cc,(hbel.block b (d9w.1 hcc).1).trans hcc,rfl⟩⟩
theorem dZ (W:World)(o:Obj):(W.alloc o).heap[W.heap.size]?=some o:=by
 show(W.heap.push o)[W.heap.size]?=_
 simp
theorem kG (h:Sat B Fr E st a W){i:Nat}(hf:Fr i){ρ:Operand->Value}{o:Oper}{c:Array Value}{U:TypeId}{r:Res}{x:AV}{v:Value}
  (hrun:(execOp ρ o).run P W= .ok (.value v) (W.alloc (.cells c U (0,0))))
  (hr:SatR B (E.set i (.at W.heap.size)) (W.alloc (.cells c U (0,0))) i r) (hx:aK (E.set i (.at W.heap.size)) (W.alloc (.cells c U (0,0))) x v):cT P B Fr i (st.set i (some r)) a W ρ o x:=
 ⟨_,_,v,_,hrun,.inl rfl,h.new hf hr,hx⟩
theorem c0y (h:Sat B Fr E st a W){i:Nat}(hf:Fr i){c:Array Value}{U:TypeId}{n:Nat}{f:Nat->AV}(hs:c.size=n)(hc:∀j,j<n->aK E W (f j) (c.getD j undef)/\(c.getD j undef).oneCell'=true):
  SatR B (E.set i (.at W.heap.size)) (W.alloc (.cells c U (0,0))) i (.cs true n f):=
 ⟨W.heap.size,c,U,aF _ _ _,dZ _ _,hs,mH h _ _,λj hj=>⟨(hc j hj).1.ev (c0l h hf _ _),(hc j hj).2⟩⟩
theorem rW (h:Sat B Fr E st a W){i:Nat}(hf:Fr i){c:Array Value}{U k n:Nat}{f:Nat->DV}(hs:n*k<=c.size)(hc:∀j,j<n->pD E.S W k (f j) (λq=>c.getD (j*k+q) undef)/\∀q,q<k->(c.getD (j*k+q) undef).oneCell'=true):
  SatR B (E.set i (.at W.heap.size)) (W.alloc (.cells c U (0,0))) i (.row true U k n f):=
 .inr ⟨W.heap.size,c,aF _ _ _,dZ _ _,hs,mH h _ _,λj hj=>⟨(hc j hj).1.ev (c0l h hf (.at W.heap.size) (.cells c U (0,0))),(hc j hj).2⟩⟩
theorem c8a {k:IntKind}{v:Value}(h:isZ k v=true):v= .int k 0:=by
 unfold isZ at h
 split at h
 ·rw[e6k h]
 ·cases h
theorem nV (t:Nat)(v:Value):(newVar t v).run P W= .ok ⟨W.heap.size,0,none⟩ (W.alloc (.cells v.cells t (0,0))):=by
 simp only[newVar,newRow,newObj,d9t,d9u]
 rfl
theorem a7m {ti te:TI}{n:Nat}(h:b6p T ti=some (n,te)):ti.size=n:=by
 unfold b6p at h
 split at h
 ·rename_i n' e hd
  split at h
  ·rename_i te' hte
   cases hg:te'.agg with
   |true=>rw[hg]at h;cases h
   |false=>
    rw[hg]at h
    simp only[e2n]at h
    cases hb:(Nat.beq te'.size 1&&Nat.beq ti.size n')with
    |false=>rw[hb]at h;cases h
    |true=>rw[hb]at h;cases h;rw[e0d]at hb;exact d9s hb.2
  ·cases h
 ·cases h
theorem a1l (hT:bQ P T)(h:Sat B Fr E st a W){i:Nat}(hf:Fr i){ρ:Operand->Value}(o:Oper){t:Nat}(ho:o.op= .alloc t){c:Prop}{x:AV}{st':St}(hv:qK T i t st=some (c,x,st')):
  cT P B Fr i st' a W ρ o x:=by
 unfold qK at hv
 cases ht:T t with
 |none=>rw[ht]at hv;cases hv
 |some ti=>
  rw[ht]at hv
  simp only[]at hv
  have hk:=hT t ti ht
  have hrun:(execOp ρ o).run P W= .ok (.value (.pointer (some ⟨W.heap.size,0,none⟩))) (W.alloc (.cells ti.z.cells t (0,0))):=by
   simp only[execOp,ho,Instr.alloc,d9t,hk.zeroValue,d9q,nV,d9u]
  cases hA:yN ti with
  |true=>
   rw[hA]at hv
   simp only[e0q]at hv
   split at hv
   ·rename_i n te hao
    split at hv
    ·rename_i k hd
     cases hz:ti.z.cells.toList.all (isZ k)with
     |false=>rw[hz]at hv;cases hv
     |true=>
      rw[hz]at hv
      simp only[e0q,e0a,e0i]at hv
      obtain⟨-,rfl,rfl⟩:=hv
      have hsz:ti.size=n:=a7m hao
      refine kG h hf hrun (rW h hf (by rw[hk.zs,hsz];omega) λj hj=>?_) ⟨W.heap.size,aF _ _ _,by simp⟩
      have hlt:j<ti.z.cells.size:=by rw[hk.zs];omega
      have hval:ti.z.cells.getD j undef= .int k 0:=by
       rw[d9x,e0y hlt]
       exact c8a (e1d.1 hz _ (by simp))
      refine⟨⟨rfl,?_⟩,λq hq=>?_⟩
      ·simp only[e7s,e2j,hval];rfl
      ·obtain rfl:q=0:=by omega
       simp only[e7s,e2j,hval];rfl
    ·cases hv
   ·cases hv
  |false=>
   rw[hA]at hv
   simp only[e2n,e0a,e0i]at hv
   obtain⟨-,rfl,rfl⟩:=hv
   exact kG h hf hrun (c0y h hf hk.zs λj hj=>qS hk j hj) ⟨W.heap.size,aF _ _ _,rfl⟩
theorem a6b {S:Nat->Prop}{y:AV}{c:Nat->Value}(hS:E.S=S)(h:aK E W y (c 0)):pD S W 1 (dOf y) c:=by
 subst hS
 cases y with
 |d z=>cases z<;>first|exact trivial|exact⟨rfl,h⟩
 |_=>exact trivial
theorem b0j (h:Sat B Fr E st a W){i:Nat}(hf:Fr i){ρ:Operand->Value}(hev:∀x,aK E W (st.ev x) (ρ x))(o:Oper){t:Nat}{y:Operand}(ho:o.op= .box t y){c:Prop}{x:AV}{st':St}(hv:c2h T i t (st.ev y) st=some (c,x,st')):
  cT P B Fr i st' a W ρ o x:=by
 unfold c2h at hv
 split at hv
 ·rename_i ti m ht hl
  obtain⟨hs,hc⟩:=pS (hev y) hl
  have hrun:(execOp ρ o).run P W= .ok (.value (.pointer (some ⟨W.heap.size,0,none⟩))) (W.alloc (.cells (ρ y).cells t (0,0))):=by
   simp only[execOp,ho,Instr.box,d9t,nV,d9q,d9u]
  cases hA:yN ti with
  |true=>
   rw[hA]at hv
   simp only[e0q]at hv
   split at hv
   ·rename_i n te hao
    cases hb:Nat.beq m n with
    |false=>rw[hb]at hv;cases hv
    |true=>
     rw[hb]at hv
     simp only[e0q,e0a,e0i]at hv
     obtain⟨-,rfl,rfl⟩:=hv
     have hmn:=d9s hb
     refine kG h hf hrun (rW h hf (by omega) λj hj=>⟨a6b rfl ?_,λq hq=>?_⟩) ⟨W.heap.size,aF _ _ _,by simp⟩
     ·simp only[e7s,e2j];exact(hc j (by omega)).1
     ·obtain rfl:q=0:=by omega
      simp only[e7s,e2j];exact(hc j (by omega)).2
   ·cases hv
  |false=>
   rw[hA]at hv
   simp only[e2n,e0a,e0i]at hv
   obtain⟨-,rfl,rfl⟩:=hv
   exact kG h hf hrun (c0y h hf hs hc) ⟨W.heap.size,aF _ _ _,rfl⟩
 ·cases hv
theorem Sat.frzs:∀(l:List Nat) {E:Env} {st:St},Sat B Fr E st a W->∃E',Sat B Fr E' (st.frzs l) a W/\Ev E W E' W/\(∀id∈l,st.hp id≠none->∀b,E.ρ id= .at b->E'.S b)/\E'.ρ=E.ρ/\(∀id,id∉l->(st.frzs l).hp id=st.hp id)
 |[],E,st,h=>⟨E,h,Ev.refl E W,λid hid=>absurd hid (by simp),rfl,λ_ _=>rfl⟩
 |id::l,E,st,h=>by
  cases hid:st.hp id with
  |none=>
   have e:st.frz id=st:=by unfold St.frz;rw[hid]
   obtain⟨E',h1,h2,h3,h4,h5⟩:=Sat.frzs l h
   refine⟨E',by show Sat B Fr E' ((st.frz id).frzs l) a W;rw[e];exact h1,h2,λj hj hn=>?_,h4,λj hj=>by show((st.frz id).frzs l).hp j=_;rw[e];exact h5 j (by simp at hj;exact hj.2)⟩
   rcases e0b.1 hj with rfl|hj
   ·exact absurd hid hn
   ·exact h3 j hj hn
  |some r=>
   have e:st.frz id=st.set id (some r.imm):=by unfold St.frz;rw[hid]
   have hf:=h.frz hid
   obtain⟨E',h1,h2,h3,h4,h5⟩:=Sat.frzs l hf
   have hev:Ev E W (E.frz id) W:=⟨λ_ h=> .inl h,λ_ _=>rfl,λ_ _=>rfl,λ_ c _ h=>⟨c,h,rfl⟩⟩
   refine⟨E',by show Sat B Fr E' ((st.frz id).frzs l) a W;rw[e];exact h1,⟨λb hb=>h2.s b (hev.s b hb),λ_ _=>rfl,λj hj=>(h2.r j hj),λb c T hc=>⟨c,hc,rfl⟩⟩,λj hj hn b hb=>?_,h4,λj hj=>?_⟩
   ·rcases e0b.1 hj with rfl|hj
    ·exact h2.s b (.inr hb)
    ·by_cases ej:j=id
     ·subst ej;exact h2.s b (.inr hb)
     ·exact h3 j hj (by rw[bW st _ ej];exact hn) b hb
   ·show((st.frz id).frzs l).hp j=_
    simp only[e0b,not_or]at hj
    rw[e,h5 j hj.2,bW st _ hj.1]
theorem zX (h:Sat B Fr E st a W){S:Nat->Prop}(hS:∀b,E.S b->S b){x:AV}{u:Value}{k:Nat}(hl:dY x=some k)(hok:qB bH st.hp x)(hre:∀id∈bB bH st.hp x,∀b,E.ρ id= .at b->S b)(hx:aK E W x u):
  pD S W k (dX bH st.hp x) (λj=>u.cells.getD j undef):=by
 have hr:=kS h hS bH x u hok hre hx
 by_cases ha:c7a x=true
 ·cases x with
  |ag m f=>
   simp only[dY,e0a]at hl
   subst hl
   obtain⟨cs,rfl,_,hc⟩:=hr
   exact⟨rfl,λj hj=>(hc j hj).1⟩
  |d y=>
   cases y with
   |ag m f=>
    simp only[dY,e0a]at hl
    subst hl
    obtain⟨cs,rfl,_,hc⟩:=hr
    exact⟨rfl,λj hj=>(hc j hj).1⟩
   |_=>cases ha
  |_=>cases ha
 ·have h0:(bif a7n x then some 1 else none)=some k:=by
   cases x with
   |ag m f=>exact absurd rfl ha
   |d y=>cases y with
    |ag m f=>exact absurd rfl ha
    |_=>exact hl
   |_=>exact hl
  cases h1:a7n x with
  |false=>rw[h1]at h0;cases h0
  |true=>
   rw[h1]at h0
   simp only[e0q,e0a]at h0
   subst h0
   have ho:=hx.one h1
   have hc:u.cells= #[u]:=by cases u<;>first|rfl|cases ho
   rw[hc]
   have hne:∀n f,dX bH st.hp x≠ .ag n f:=by
    intro n f e
    cases x with
    |ag m f=>exact absurd rfl ha
    |d y=>cases y with
     |ag m f=>exact absurd rfl ha
     |_=>cases e
    |ref id off=>simp only[dX,bH]at e;split at e<;>cases e
    |el id k i off=>
     simp only[dX,bH]at e
     split at e
     ·revert e
      cases b6o _ _ _ _<;>intro e<;>cases e
     ·cases e
    |ms id k off m=>simp only[dX,bH]at e;split at e<;>cases e
    |fn g p q f c=>cases e
    |mp id=>simp only[dX,bH]at e;split at e<;>cases e
    |tp m f=>cases e
    |sub id k i=>cases e
    |stp id=>cases e
   unfold pD
   split
   ·rename_i n f e;exact absurd e (hne n f)
   ·trivial
   ·exact⟨rfl,hr⟩
end
theorem b7s (o:Nat):∀(us:List Value) (d:Nat) (cur:Array Value),o+d+us.length<=cur.size->((us.zipIdx d).foldl (λ(cs:Array Value) (c,j)=>cs.setIfInBounds (o+j) c) cur).size=cur.size/\
  ∀j,((us.zipIdx d).foldl (λ(cs:Array Value) (c,j)=>cs.setIfInBounds (o+j) c) cur).getD j undef=if o+d<=j/\j<o+d+us.length then us.getD (j-(o+d)) undef else cur.getD j undef:=by
 intro us
 induction us with
 |nil=>intro d cur _;exact⟨rfl,λj=>by rw[d9z (by simp),List.zipIdx_nil,e7t]⟩
 |cons u us ih=>
  intro d cur hle
  simp only[e0r]at hle
  rw[List.zipIdx_cons,e5j]
  obtain⟨i1,i2⟩:=ih (d+1) (cur.setIfInBounds (o+d) u) (by rw[e2i];omega)
  refine⟨by rw[i1,e2i],λj=>?_⟩
  rw[i2]
  by_cases h1:o+(d+1)<=j/\j<o+(d+1)+us.length
  ·rw[e0c h1,e0c (by simp only[e0r];omega)]
   obtain⟨e,he⟩:∃e,j-(o+d)=e+1:=⟨j-(o+d)-1,by omega⟩
   rw[he,e7e]
   congr 1;omega
  ·rw[d9z h1]
   by_cases h2:j=o+d
   ·subst h2
    rw[e0c (by simp only[e0r];omega),e7w,e7f]
    rw[d9x,e5a (by omega)];rfl
   ·rw[d9z (by simp only[e0r];omega)]
    rw[d9x,d9x,e3t (by omega)]
def Els (S:Nat->Prop)(W:World)(k n:Nat)(f:Nat->DV)(N:Nat->Value):Prop:=
  ∀j,j<n->pD S W k (f j) (λq=>N (j*k+q))/\∀q,q<k->(N (j*k+q)).oneCell'=true
theorem uL {i n k q:Nat}(hi:i<n)(hq:q<k):i*k+q<n*k:=by
 have:(i+1)*k<=n*k:=e0v k hi
 rw[e1s]at this;omega
theorem a7t {i k q:Nat}(hq:q<k):(i*k+q)/k=i/\(i*k+q)%k=q:=by
 have hk:0<k:=by omega
 constructor
 ·rw[e7v,Nat.add_mul_div_right _ _ hk,Nat.div_eq_of_lt hq,e0f]
 ·rw[e7v,Nat.add_mul_mod_self_right,Nat.mod_eq_of_lt hq]
theorem pD.congr {S:Nat->Prop}{W:World}{k:Nat}{x:DV}{c c':Nat->Value}(h:pD S W k x c)(he:∀j,j<k->c' j=c j):pD S W k x c':=by
 unfold pD at*
 split
 ·rename_i n f
  exact⟨h.1,λj hj=>by rw[he j (by have:=h.1;omega)];exact h.2 j hj⟩
 ·trivial
 ·rename_i x h1 h2
  revert h
  split
  ·rename_i n f;exact absurd rfl (h1 n f)
  ·exact absurd rfl h2
  ·exactλh=>⟨h.1,by rw[he 0 (by have:=h.1;omega)];exact h.2⟩
theorem d1c {P:Program}{te:TI}{e:Nat}(hk:TOk P te e)(S:Nat->Prop)(W:World)(c:Nat->Value)(hc:∀q,q<te.size->c q=te.z.cells.getD q undef):
  pD S W te.size (zE te) c:=by
 unfold zE
 cases hg:te.agg with
 |true=>exact⟨rfl,λj hj=>hc j hj⟩
 |false=>
  obtain⟨h2,h3⟩:=hk.z0 hg
  refine⟨h2,?_⟩
  have:=hc 0 (by omega)
  have hz:te.z.cells= #[te.z]:=by cases hz:te.z<;>first|rfl|(rw[hz]at h3;cases h3)
  rw[hz]at this
  exact this
section
variable {P:Program} {T:Nat->Option TI} {B:Base} {Fr:Nat->Prop} {E:Env} {st:St} {a:Act} {W:World}
theorem yF {S:Nat->Prop}(h:Sat B Fr E st a W)(hS:∀b,E.S b->S b){ρ:Operand->Value}(hev:∀x,aK E W (st.ev x) (ρ x)){k len:Nat}:∀(l:List (Nat×Operand)) (z:Nat->DV) (cells:Array Value) (al:List (Nat×DV)),
  mU st k len st.ev l=some al->cells.size=len*k->gQ st (l.map λp=>st.ev p.2)->(∀id∈bO st (l.map λp=>st.ev p.2),∀b,E.ρ id= .at b->S b)->Els S W k len z (λj=>cells.getD j undef)->
  ∃cs,Instr.fill (λi=>some (i*k,k)) cells (l.map λ(i,x)=>(i,ρ x))=some cs/\cs.size=len*k/\Els S W k len (c2z z al) (λj=>cs.getD j undef)
 |[],z,cells,al,hl,hs,_,_,hz=>by
  simp only[mU,e0a]at hl
  subst hl
  exact⟨cells,rfl,hs,hz⟩
 |(i,x)::l,z,cells,al,hl,hs,hok,hre,hz=>by
  simp only[mU]at hl
  cases hn:dY (st.ev x)with
  |none=>rw[hn]at hl;cases hl
  |some n=>
   rw[hn]at hl
   simp only[]at hl
   cases hb:(Nat.beq n k&&Nat.blt i len)with
   |false=>rw[hb]at hl;cases hl
   |true=>
    rw[hb]at hl
    simp only[e0q,e0u]at hl
    obtain⟨al',hal,rfl⟩:=hl
    rw[e0d]at hb
    obtain rfl:=d9s hb.1
    have hi:=aG.1 hb.2
    obtain⟨hcs,hcj⟩:=pS (hev x) hn
    have hle:i*n+n<=len*n:=by
     have:(i+1)*n<=len*n:=e0v n hi
     rw[e1s]at this;omega
    simp only[e0o,Instr.fill]
    rw[d9z (by simp only[e3d,e4h,ne_eq,not_or,Classical.not_not];exact⟨hcs,by omega⟩)]
    have hkey:=b7s (i*n) (ρ x).cells.toList 0 cells (by rw[e1c,hcs,hs];omega)
    have hfold:(ρ x).cells.zipIdx.foldl (λ(cs:Array Value) (c,j)=>cs.setIfInBounds (i*n+j) c) cells=((ρ x).cells.toList.zipIdx 0).foldl (λ(cs:Array Value) (c,j)=>cs.setIfInBounds (i*n+j) c) cells:=by
     rw[<-e6r,Array.toList_zipIdx]
    rw[hfold]
    have hrc:=zX h hS hn hok.1 (λid hid=>hre id (by simp only[bO,e0o,e6z];exact e0p _ hid)) (hev x)
    refine yF h hS hev l _ _ al' hal (by rw[hkey.1,hs]) hok.2 (λid hid=>hre id (by simp only[bO,e0o,e6z];exact e0n _ hid)) λj hj=>?_
    have e2:∀q,(ρ x).cells.toList.getD q undef=(ρ x).cells.getD q undef:=λq=>by
     rw[d9x,d9r,e0s]
    by_cases e:j=i
    ·subst e
     have e3:∀q,q<n->(((ρ x).cells.toList.zipIdx 0).foldl (λ(cs:Array Value) (c,q)=>cs.setIfInBounds (j*n+q) c) cells).getD (j*n+q) undef=(ρ x).cells.getD q undef:=λq hq=>by
      rw[hkey.2,e0c (by rw[e1c,hcs];omega),e2];congr 1;omega
     refine⟨?_,λq hq=>?_⟩
     ·show pD S W n (bif Nat.beq j j then _ else _) _
      rw[bD]
      exact hrc.congr λq hq=>e3 q hq
     ·exact(e2r Value.oneCell' (e3 q hq)).trans (hcj q hq).2
    ·have e3:∀q,q<n->(((ρ x).cells.toList.zipIdx 0).foldl (λ(cs:Array Value) (c,q)=>cs.setIfInBounds (i*n+q) c) cells).getD (j*n+q) undef=cells.getD (j*n+q) undef:=λq hq=>by
      rw[hkey.2,d9z]
      rw[e1c,hcs]
      rintro⟨h1,h2⟩
      rcases Nat.lt_or_gt_of_ne e with h3|h3
      ·have:(j+1)*n<=i*n:=e0v n h3
       rw[e1s]at this;omega
      ·have:(i+1)*n<=j*n:=e0v n h3
       rw[e1s]at this;omega
     refine⟨?_,λq hq=>?_⟩
     ·show pD S W n (bif Nat.beq j i then _ else z j) _
      rw[cG e]
      exact(hz j hj).1.congr λq hq=>e3 q hq
     ·exact(e2r Value.oneCell' (e3 q hq)).trans ((hz j hj).2 q hq)
theorem oD {te:TI}{e:Nat}(hk:TOk P te e)(n:Nat)(S:Nat->Prop)(W:World):
  ((Array.range (n*te.size)).map (te.z.cells[· %te.z.cells.size]!)).size=n*te.size/\Els S W te.size n (λ_=>zE te) (λj=>((Array.range (n*te.size)).map (te.z.cells[· %te.z.cells.size]!)).getD j undef):=by
 refine⟨by simp,λj hj=>?_⟩
 have key:∀q,q<te.size->((Array.range (n*te.size)).map (te.z.cells[· %te.z.cells.size]!)).getD (j*te.size+q) undef=te.z.cells.getD q undef:=λq hq=>by
  have hlt:=uL hj hq
  rw[d9x,e6s,e7b,e0c hlt]
  simp only[e1y,e2v]
  rw[hk.zs,(a7t hq).2]
  have hq':q<te.z.cells.size:=by rw[hk.zs];exact hq
  rw[getElem!_pos te.z.cells q hq',d9x,e0y hq'];rfl
 refine⟨d1c hk S W _ key,λq hq=>?_⟩
 have hq':q<te.z.cells.size:=by rw[hk.zs];exact hq
 refine(e2r Value.oneCell' (key q hq)).trans (hk.z1 _ ?_)
 rw[d9x,e0y hq']
 simp
theorem a8z {te:TI}(n:Nat):(Array.range (n*te.size)).map ((if n*te.size=0 then #[]else te.z.cells)[· % (if n*te.size=0 then(#[]:Array Value)else te.z.cells).size]!)=(Array.range (n*te.size)).map (te.z.cells[· %te.z.cells.size]!):=by
 split
 ·rename_i h;rw[h];simp
 ·rfl
theorem pI (hT:bQ P T)(h:Sat B Fr E st a W){i:Nat}(hf:Fr i){ρ:Operand->Value}(hev:∀x,aK E W (st.ev x) (ρ x))(o:Oper){t len:Nat}{parts:Array (Nat×Operand)}(ho:o.op= .buildSlice t len parts){c:Prop}{x:AV}{st':St}
  (hv:dR T i t len parts.toList st=some (c,x,st')) (hc:c):cT P B Fr i st' a W ρ o x:=by
 unfold dR at hv
 cases ht:T t with
 |none=>rw[ht]at hv;cases hv
 |some ti=>
  rw[ht]at hv
  simp only[]at hv
  split at hv
  ·rename_i e hd
   cases he:T e with
   |none=>rw[he]at hv;cases hv
   |some te=>
    rw[he]at hv
    simp only[]at hv
    cases hp:mU st te.size len st.ev parts.toList with
    |none=>rw[hp]at hv;cases hv
    |some l=>
     rw[hp]at hv
     simp only[]at hv
     cases hb:(Nat.ble (len*te.size) 16777216&&Nat.blt 0 te.size)with
     |false=>rw[hb]at hv;cases hv
     |true=>
      rw[hb]at hv
      simp only[e0q,e0a,e0i]at hv
      obtain⟨rfl,rfl,rfl⟩:=hv
      rw[e0d]at hb
      have hlim:=e1n hb.1
      have hpos:=aG.1 hb.2
      have hk:=hT t ti ht
      have hke:=hT e te he
      obtain⟨E',h',hev',hin,hρ,hout⟩:=h.frzs (bO st (parts.toList.map λp=>st.ev p.2))
      obtain⟨hz1,hz2⟩:=oD hke len E'.S W
      have hre:∀id∈bO st (parts.toList.map λp=>st.ev p.2),∀b,E.ρ id= .at b->E'.S b:=by
       intro id hid b hb
       by_cases hn:st.hp id=none
       ·exfalso
        have hm:∀(n:Nat) (y:AV),id∈bB n st.hp y->st.hp id≠none:=by
         intro n
         induction n with
         |zero=>intro y hy;simp[bB]at hy
         |succ n ih=>
          intro y hy
          cases y with
          |d z=>simp[bB]at hy
          |ref j off=>
           simp only[bB]at hy
           split at hy
           ·rename_i mt m f hj
            rcases e0b.1 hy with rfl|hy
            ·rw[hj];simp
            ·obtain⟨q,_,hq⟩:=e1a.1 hy;exact ih _ hq
           ·simp at hy
          |el j k p off=>
           simp only[bB]at hy
           split at hy
           ·rename_i hj
            revert hy
            cases b6o _ _ _ _ with
            |true=>intro hy;simp at hy;subst hy;rw[hj];simp
            |false=>intro hy;simp at hy
           ·simp at hy
          |ms j k off m=>
           simp only[bB]at hy
           split at hy
           ·rename_i hj;simp at hy;subst hy;rw[hj];simp
           ·simp at hy
          |ag m f=>obtain⟨q,_,hq⟩:=e1a.1 hy;exact ih _ hq
          |fn g p q f c=>
           rcases e0x.1 hy with hy|hy
           ·obtain⟨q,_,hq⟩:=e1a.1 hy;exact ih _ hq
           ·obtain⟨q,_,hq⟩:=e1a.1 hy;exact ih _ hq
          |mp j=>
           simp only[bB]at hy
           split at hy
           ·rename_i hj;simp at hy;subst hy;rw[hj];simp
           ·simp at hy
          |tp m f=>obtain⟨q,_,hq⟩:=e1a.1 hy;exact ih _ hq
          |sub j k i=>simp[bB]at hy
          |stp j=>simp[bB]at hy
        obtain⟨y,_,hy⟩:=e1a.1 hid
        exact hm _ y hy hn
       ·exact hin id hid hn b hb
      obtain⟨cs,hfill,hcs,hels⟩:=yF h hev'.s hev parts.toList (λ_=>zE te) ((Array.range (len*te.size)).map (te.z.cells[· %te.z.cells.size]!)) l hp hz1 hc hre hz2
      have hrun:(execOp ρ o).run P W= .ok (.value (.slice (some ⟨W.heap.size,0,none⟩) len len)) (W.alloc (.cells cs e (0,0))):=by
       have hnl:¬(len*te.size>2^24):=by simp only[show(2:Nat)^24=16777216 from rfl];omega
       have hbs:(Instr.buildSlice t len (parts.map λ(i,x)=>(i,ρ x))).run P W= .ok (.slice (some ⟨W.heap.size,0,none⟩) len len) (W.alloc (.cells cs e (0,0))):=by
        simp only[Instr.buildSlice,d9t,hk.und,hd,d9q,hke.sizeOf,hnl,e3g,d9u]
        by_cases hz0:len*te.size=0
        ·have e0:=a8z (te:=te) len
         rw[e0c hz0]at e0⊢
         simp only[d9t,d9u,d9q]
         rw[e0,e4f,hfill]
         simp only[newRow,newObj,d9t,d9u]
         rfl
        ·rw[d9z hz0]
         simp only[d9t,d9u,d9q,hke.zeroValue]
         rw[e4f,hfill]
         simp only[newRow,newObj,d9t,d9u]
         rfl
       simp only[execOp,ho,d9t,hbs,d9q,d9u]
      refine kG h' hf hrun (rW h' hf (by omega) λj hj=>hels j hj) (.inr ⟨W.heap.size,0,len,cs,e,aF _ _ _,rfl,e0g _,?_,dZ _ _,.inl ⟨by simp,by rw[hcs];simp⟩⟩)
      have:len<=len*te.size:=Nat.le_mul_of_pos_right _ hpos
      unfold maxLen;omega
  ·cases hv
end
def bJ (c:Array Value)(p:Nat)(vs:List Value):Array Value:=(c.toList.take p++vs++c.toList.drop (p+vs.length)).toArray
theorem aX {c:Array Value}{p:Nat}{vs:List Value}(h:p+vs.length<=c.size):(bJ c p vs).size=c.size:=by
 simp only[bJ,e3y,e1f,e4l,e2p,e1c];omega
theorem dW {c:Array Value}{p:Nat}{vs:List Value}(h:p+vs.length<=c.size)(j:Nat):(bJ c p vs).getD j undef=if p<=j/\j<p+vs.length then vs.getD (j-p) undef else c.getD j undef:=by
 have hlen:(c.toList.take p).length=p:=by rw[e4l,e1c];omega
 rw[d9x,bJ,e0t]
 by_cases h1:j<p
 ·rw[d9z (by omega),e1u (by rw[e1f];omega),e1u (by omega),e4i,e0c h1,d9x,e0s]
 ·by_cases h2:j<p+vs.length
  ·rw[e0c ⟨by omega,h2⟩,e1u (by rw[e1f];omega),e1m (by omega),hlen,d9r]
  ·rw[d9z (by omega),e1m (by rw[e1f];omega),e4n,d9x,e0s,e1f,hlen]
   congr 2;omega
theorem dV {hp:Nat->Option Res}{id:Nat}:∀(n:Nat) (y:AV),id∈bB n hp y->hp id≠none:=by
 intro n
 induction n with
 |zero=>intro y hy;simp[bB]at hy
 |succ n ih=>
  intro y hy
  cases y with
  |d z=>simp[bB]at hy
  |ref j off=>
   simp only[bB]at hy
   split at hy
   ·rename_i mt m f hj
    rcases e0b.1 hy with rfl|hy
    ·rw[hj];simp
    ·obtain⟨q,_,hq⟩:=e1a.1 hy;exact ih _ hq
   ·simp at hy
  |el j k p off=>
   simp only[bB]at hy
   split at hy
   ·rename_i hj
    revert hy
    cases b6o _ _ _ _ with
    |true=>intro hy;simp at hy;subst hy;rw[hj];simp
    |false=>intro hy;simp at hy
   ·simp at hy
  |ms j k off m=>
   simp only[bB]at hy
   split at hy
   ·rename_i hj;simp at hy;subst hy;rw[hj];simp
   ·simp at hy
  |ag m f=>obtain⟨q,_,hq⟩:=e1a.1 hy;exact ih _ hq
  |fn g p q f c=>
   rcases e0x.1 hy with hy|hy
   ·obtain⟨q,_,hq⟩:=e1a.1 hy;exact ih _ hq
   ·obtain⟨q,_,hq⟩:=e1a.1 hy;exact ih _ hq
  |mp j=>
   simp only[bB]at hy
   split at hy
   ·rename_i hj;simp at hy;subst hy;rw[hj];simp
   ·simp at hy
  |tp m f=>obtain⟨q,_,hq⟩:=e1a.1 hy;exact ih _ hq
  |sub j k i=>simp[bB]at hy
  |stp j=>simp[bB]at hy
section
variable {P:Program} {T:Nat->Option TI} {B:Base} {Fr:Nat->Prop} {E:Env} {st:St} {a:Act} {W:World}
theorem rR (hT:bQ P T)(h:Sat B Fr E st a W){i:Nat}(hf:Fr i){ρ:Operand->Value}(hev:∀x,aK E W (st.ev x) (ρ x))(o:Oper){t:Nat}{l c:Operand}(ho:o.op= .makeSlice t l c){cc:Prop}{x:AV}{st':St}
  (hv:eV T i t (st.ev l) (st.ev c) st=some (cc,x,st')) (hc:cc):cT P B Fr i st' a W ρ o x:=by
 unfold eV at hv
 split at hv
 ·rename_i ti kl l' kc c' ht hl hcc
  have hrl:=oF (hev l) hl
  have hrc:=oF (hev c) hcc
  split at hv
  ·rename_i e hd
   cases he:T e with
   |none=>rw[he]at hv;cases hv
   |some te=>
    rw[he]at hv
    simp only[]at hv
    cases hb:(Nat.ble te.bytes 1048576&&Nat.blt 0 te.size)with
    |false=>rw[hb]at hv;cases hv
    |true=>
     rw[hb]at hv
     simp only[e0q,e0a,e0i]at hv
     obtain⟨rfl,rfl,rfl⟩:=hv
     rw[e0d]at hb
     have hby:=e1n hb.1
     have hpos:=aG.1 hb.2
     obtain⟨h0,h1,h2⟩:=hc
     have hk:=hT t ti ht
     have hke:=hT e te he
     obtain⟨inf,hi,hz,hs,hbb⟩:=hke.info
     have hu:=hk.u
     rw[hd]at hu
     have hbytes:(inf.bytes:Int)*c'<=281474976710656:=by
      have h3:(inf.bytes:Int)<=1048576:=by omega
      have h4:(inf.bytes:Int)*c'<=1048576*c':=Int.mul_le_mul_of_nonneg_right h3 (by omega)
      omega
     have hrun':=run_make (P:=P) W t e inf te.z hu hi hz kl kc l' c' h0 h1 hbytes (by omega)
     rw[hs]at hrun'
     have hrun:(execOp ρ o).run P W= .ok (.value (.slice (some ⟨W.heap.size,0,none⟩) l'.toNat c'.toNat)) (W.alloc (.cells (madeCells te.z.cells (c'.toNat*te.size)) e)):=by
      simp only[execOp,ho,hrl,hrc,d9t,hrun',d9q,d9u]
     have hz2:=(oD hke c'.toNat E.S W).2
     have hmul:l'.toNat*te.size<=c'.toNat*te.size:=e0v _ (by omega)
     refine kG h hf hrun (rW h hf (by simp[madeCells];exact hmul) λj hj=>?_) (.inr ⟨W.heap.size,0,c'.toNat,_,e,aF _ _ _,rfl,by omega,by unfold maxLen;omega,dZ _ _,.inl ⟨by simp,by simp[madeCells]⟩⟩)
     exact hz2 j (by omega)
  ·cases hv
 ·cases hv
theorem jR (h:Sat B Fr E st a W){k:Nat}(hk:0<k){x:AV}{u:Value}(hx:aK E W x u){c:Prop}{m:Nat}{g:Nat->DV}(hv:xP st k x=some (c,m,g))(hc:c):
  ∃ao cap,u= .slice ao m cap/\∃N:Nat->Value,Els E.S W k m g N/\(m≠0->∃b o,ao=some ⟨b,o,none⟩/\∀j,j<m*k->W.cell? ⟨b,o+j,none⟩=some (N j)):=by
 unfold xP at hv
 split at hv
 ·rename_i id k1 off m'
  split at hv
  ·rename_i mt U k2 n f hid
   cases hb:(Nat.beq k k1&&Nat.beq k k2)with
   |false=>rw[hb]at hv;cases hv
   |true=>
    rw[hb]at hv
    simp only[e0q,e0a,e0i]at hv
    obtain⟨rfl,rfl,rfl⟩:=hv
    rw[e0d]at hb
    obtain rfl:=d9s hb.1
    obtain rfl:=d9s hb.2
    rcases hx with⟨_,rfl,rfl⟩|⟨b,o,cap,cc,U',hb',rfl,hm,_,hh,hs⟩
    ·exact⟨none,0,rfl,λ_=>undef,λj hj=>absurd hj (e3i j),λh=>absurd rfl h⟩
    ·refine⟨_,cap,rfl,λj=>cc.getD (o+j) undef,?_,λhm0=>⟨b,o,rfl,λj hj=>?_⟩⟩
     ·intro j hj
      rcases hs with⟨rfl,hsz⟩|⟨h1,_⟩
      ·rcases h.hp id _ hid with⟨h1,_⟩|⟨b2,c2,hb2,hh2,hsz2,_,hc2⟩
       ·rw[hb']at h1;cases h1
       ·rw[hb']at hb2;cases hb2
        rw[hh]at hh2;cases hh2
        have:=hc2 (off+j) (by omega)
        refine⟨this.1.congr λq _=>?_,λq hq=>?_⟩
        ·rw[e1s,e3j]
        ·have h2:=this.2 q hq;rw[e1s,e3j]at h2;exact h2
      ·omega
     ·rcases hs with⟨rfl,hsz⟩|⟨h1,_⟩
      ·refine cK hh ?_
       have h1:(off+m')*k<=(off+cap)*k:=e0v _ (by omega)
       have h2:=e2h h1 hsz
       rw[e1s]at h2
       omega
      ·omega
  ·cases hv
 ·rename_i tt k1 m' f
  cases hb:Nat.beq k k1 with
  |false=>rw[hb]at hv;cases hv
  |true=>
   rw[hb]at hv
   simp only[e0q,e0a,e0i]at hv
   obtain⟨rfl,rfl,rfl⟩:=hv
   obtain rfl:=d9s hb
   obtain⟨ad,cap,rfl,hn,_,hnone,hm⟩:=hx
   by_cases hm0:m'=0
   ·subst hm0
    exact⟨ad,cap,rfl,λ_=>undef,λj hj=>absurd hj (e3i j),λh=>absurd rfl h⟩
   cases ad with
   |none=>
    have:=hnone rfl
    exact absurd (by omega) hm0
   |some ad=>
    have hsp:=(hm ad rfl 0 (by omega)).1
    obtain⟨ab,ao,asp⟩:=ad
    simp only at hsp
    subst hsp
    have hm:=λj hj=>(hm ⟨ab,ao,none⟩ rfl j hj).2
    simp only at hm
    have key:∀j,j<m'->∀q,q<k->∃u,W.cell? ⟨ab,ao+(j*k+q),none⟩=some u/\u.oneCell'=true:=by
     intro j hj q hq
     have h1:=hm j hj
     have h2:=hc j hj
     cases hfj:f j with
     |ag n' f'=>
      rw[hfj]at h1 h2
      have h3:n'=k:=h2
      obtain⟨_,u,h4,_,h5⟩:=h1 q (by omega)
      exact⟨u,by rw[<-e3j];exact h4,h5⟩
     |top=>rw[hfj]at h2;exact h2.elim
     |v y=>rw[hfj]at h1 h2;have h3:k=1:=h2;obtain rfl:q=0:=by omega
           obtain⟨_,u,h4,_,h5⟩:=h1;exact⟨u,by rw[e2j];exact h4,h5⟩
     |tp n f'=>rw[hfj]at h1 h2;have h3:k=1:=h2;obtain rfl:q=0:=by omega
               obtain⟨_,u,h4,_,h5⟩:=h1;exact⟨u,by rw[e2j];exact h4,h5⟩
     |sl t' k' n f'=>rw[hfj]at h1 h2;have h3:k=1:=h2;obtain rfl:q=0:=by omega
                     obtain⟨_,u,h4,_,h5⟩:=h1;exact⟨u,by rw[e2j];exact h4,h5⟩
     |pt y o=>rw[hfj]at h1 h2;have h3:k=1:=h2;obtain rfl:q=0:=by omega
              obtain⟨_,u,h4,_,h5⟩:=h1;exact⟨u,by rw[e2j];exact h4,h5⟩
     |fn g' n m f' c'=>rw[hfj]at h1 h2;have h3:k=1:=h2;obtain rfl:q=0:=by omega
                       obtain⟨_,u,h4,_,h5⟩:=h1;exact⟨u,by rw[e2j];exact h4,h5⟩
     |mp kt m=>rw[hfj]at h1 h2;have h3:k=1:=h2;obtain rfl:q=0:=by omega
               obtain⟨_,u,h4,_,h5⟩:=h1;exact⟨u,by rw[e2j];exact h4,h5⟩
    refine⟨_,cap,rfl,λj=>(W.cell? ⟨ab,ao+j,none⟩).getD undef,λj hj=>⟨?_,λq hq=>?_⟩,λ_=>⟨ab,ao,rfl,λj hj=>?_⟩⟩
    ·have h1:=hm j hj
     have h2:=hc j hj
     cases hfj:f j with
     |ag n' f'=>
      rw[hfj]at h1 h2
      refine⟨h2,λq hq=>?_⟩
      obtain⟨_,u,h4,h5,_⟩:=h1 q hq
      simp only[<-e3j]at h4⊢
      rw[h4];exact h5
     |top=>exact trivial
     |v y=>rw[hfj]at h1 h2;obtain⟨_,u,h4,h5,_⟩:=h1;refine⟨h2,?_⟩;simp only[e2j];rw[h4];exact h5
     |tp n f'=>rw[hfj]at h1 h2;obtain⟨_,u,h4,h5,_⟩:=h1;refine⟨h2,?_⟩;simp only[e2j];rw[h4];exact h5
     |sl t' k' n f'=>rw[hfj]at h1 h2;obtain⟨_,u,h4,h5,_⟩:=h1;refine⟨h2,?_⟩;simp only[e2j];rw[h4];exact h5
     |pt y o=>rw[hfj]at h1 h2;obtain⟨_,u,h4,h5,_⟩:=h1;refine⟨h2,?_⟩;simp only[e2j];rw[h4];exact h5
     |fn g' n m f' c'=>rw[hfj]at h1 h2;obtain⟨_,u,h4,h5,_⟩:=h1;refine⟨h2,?_⟩;simp only[e2j];rw[h4];exact h5
     |mp kt m=>rw[hfj]at h1 h2;obtain⟨_,u,h4,h5,_⟩:=h1;refine⟨h2,?_⟩;simp only[e2j];rw[h4];exact h5
    ·obtain⟨u,h1,h2⟩:=key j hj q hq
     simp only[h1];exact h2
    ·have hdj:j/k<m':=Nat.div_lt_of_lt_mul (by rw[e7x];exact hj)
     obtain⟨u,h1,_⟩:=key (j/k) hdj (j %k) (Nat.mod_lt _ hk)
     rw[e7x,Nat.div_add_mod]at h1
     show _=some ((W.cell? ⟨ab,ao+j,none⟩).getD undef)
     rw[h1];rfl
 ·simp only[e0a,e0i]at hv
  obtain⟨rfl,rfl,rfl⟩:=hv
  have hu:u= .slice none 0 0:=hx
  exact⟨none,0,hu,λ_=>undef,λj hj=>absurd hj (e3i j),λh=>absurd rfl h⟩
 ·cases hv
theorem kD {S:Nat->Prop}{k n p m:Nat}{f g:Nat->DV}{c:Array Value}{N:Nat->Value}(hf:Els S W k n f λj=>c.getD j undef)(hg:Els S W k m g N)(hle:(p+m)*k<=c.size):
  Els S W k (max n (p+m)) (λj=>if p<=j/\j<p+m then g (j-p)else f j) (λj=>(bJ c (p*k) ((List.range (m*k)).map N)).getD j undef)\/n<p:=by
 by_cases hnp:n<p
 ·exact .inr hnp
 ·refine .inl λj hj=>?_
  have hlen:p*k+((List.range (m*k)).map N).length<=c.size:=by rw[e0z,e2o,<-e1s];exact hle
  have hval:∀q,q<k->(bJ c (p*k) ((List.range (m*k)).map N)).getD (j*k+q) undef=if p<=j/\j<p+m then N ((j-p)*k+q)else c.getD (j*k+q) undef:=by
   intro q hq
   rw[dW hlen,e0z,e2o]
   by_cases hin:p<=j/\j<p+m
   ·have h1:p*k<=j*k:=e0v _ hin.1
    have h2:=uL hin.2 hq
    rw[e1s]at h2
    rw[e0c ⟨by omega,by omega⟩,e0c hin,d9r,e0j,e3p (by omega)]
    simp only[e1y,e2v]
    congr 1
    rw[Nat.sub_mul];omega
   ·rw[d9z,d9z hin]
    rintro⟨h1,h2⟩
    apply hin
    constructor
    ·rcases e4r j p with h3|h3
     ·have:(j+1)*k<=p*k:=e0v _ h3
      rw[e1s]at this;omega
     ·exact h3
    ·rcases e4r j (p+m)with h3|h3
     ·exact h3
     ·have:(p+m)*k<=j*k:=e0v _ h3
      rw[e1s]at this;omega
  by_cases hin:p<=j/\j<p+m
  ·simp only[e0c hin]at hval⊢
   obtain⟨h1,h2⟩:=hg (j-p) (by omega)
   exact⟨h1.congr λq hq=>hval q hq,λq hq=>(e2r Value.oneCell' (hval q hq)).trans (h2 q hq)⟩
  ·simp only[d9z hin]at hval⊢
   obtain⟨h1,h2⟩:=hf j (by omega)
   exact⟨h1.congr λq hq=>hval q hq,λq hq=>(e2r Value.oneCell' (hval q hq)).trans (h2 q hq)⟩
end
theorem sG (st:St)(id:Nat)(x y:Option Res):(st.set id x).set id y=st.set id y:=by
 unfold St.set
 simp only[St.mk.injEq,true_and,and_true]
 funext j
 cases hb:Nat.beq j id<;>simp[hb]
def dJ (n:Nat)(N:Nat->Value):List Value:=(List.range n).map N
theorem bK (n:Nat)(N:Nat->Value):(dJ n N).length=n:=by simp[dJ]
theorem mN (n:Nat)(N:Nat->Value){j:Nat}{v:Value}(h:(dJ n N)[j]?=some v):j<n/\v=N j:=by
 unfold dJ at h
 rw[e0j]at h
 by_cases hj:j<n
 ·rw[e3p hj]at h;simp only[e1y,e0a]at h;exact⟨hj,h.symm⟩
 ·rw[e1w (by simpa using hj)]at h;cases h
theorem vP {S:Nat->Prop}{W:World}{k n:Nat}{f:Nat->DV}{N:Nat->Value}(hk:0<k)(h:Els S W k n f N){j:Nat}(hj:j<n*k):(N j).oneCell'=true:=by
 have hd:j/k<n:=Nat.div_lt_of_lt_mul (by rw[e7x];exact hj)
 have:=(h (j/k) hd).2 (j %k) (Nat.mod_lt _ hk)
 rw[e7x,Nat.div_add_mod]at this
 exact this
theorem b7g {S:Nat->Prop}{W:World}{k n m:Nat}{f g:Nat->DV}{N M:Nat->Value}(hf:Els S W k n f N)(hg:Els S W k m g M)(z:Array Value):
  Els S W k (n+m) (λj=>if j<n then f j else g (j-n)) (λj=>((dJ (n*k) N).toArray++(dJ (m*k) M).toArray++z).getD j undef):=by
 intro j hj
 have hval:∀q,q<k->((dJ (n*k) N).toArray++(dJ (m*k) M).toArray++z).getD (j*k+q) undef=if j<n then N (j*k+q)else M ((j-n)*k+q):=by
  intro q hq
  rw[d9x,e4s (by
   have:=uL hj hq
   rw[e6f,e3y,e3y,bK,bK,<-e1s];exact this)]
  by_cases h1:j<n
  ·rw[e0c h1,e4s (by rw[e3y,bK];exact uL h1 hq),e0t,dJ,e0j,e3p (uL h1 hq)];rfl
  ·have h2:n*k<=j*k:=e0v _ (by omega)
   have h3:(j-n)*k+q<m*k:=uL (by omega) hq
   have h4:j*k+q-n*k=(j-n)*k+q:=by rw[Nat.sub_mul];omega
   rw[d9z h1,e5k (by rw[e3y,bK];omega),e3y,bK,h4,e0t,dJ,e0j,e3p h3];rfl
 by_cases h1:j<n
 ·simp only[e0c h1]at hval⊢
  obtain⟨h2,h3⟩:=hf j h1
  exact⟨h2.congr λq hq=>hval q hq,λq hq=>(e2r Value.oneCell' (hval q hq)).trans (h3 q hq)⟩
 ·simp only[d9z h1]at hval⊢
  obtain⟨h2,h3⟩:=hg (j-n) (by omega)
  exact⟨h2.congr λq hq=>hval q hq,λq hq=>(e2r Value.oneCell' (hval q hq)).trans (h3 q hq)⟩
section
variable {P:Program} {T:Nat->Option TI} {B:Base} {Fr:Nat->Prop} {E:Env} {st:St} {a:Act} {W:World}
theorem Sat.upd (h:Sat B Fr E st a W){id:Nat}{r:Res}(hn:st.hp id≠none)(hr:SatR B E W id r):Sat B Fr E (st.set id (some r)) a W:=by
 have hl:∀i,(st.set id (some r)).hp i≠none->st.hp i≠none:=λi hi=>by
  by_cases e:i=id
  ·rw[e];exact hn
  ·rw[bW st _ e]at hi;exact hi
 refine⟨h.size,h.tm,λi r' hi=>?_,λi j b hi hj h1 h2=>h.dist i j b (hl i hi) (hl j hj) h1 h2,h.fr,h.sub,h.sup,h.s0,h.df,h.dn,h.dd,h.g,h.r0⟩
 by_cases e:i=id
 ·subst e;rw[cQ]at hi;cases hi;exact hr
 ·rw[bW st _ e]at hi;exact h.hp i r' hi
theorem lG {t e ty:Nat}{ti te:TI}(hk:TOk P ti t)(hke:TOk P te e)(hd:ti.d= .slice e){n cap:Nat}{ao:Option Addr}(hn:n<=cap){ax:Option Addr}{cx:Nat}:
  (Builtin.append_ #[t,t] ty #[.slice ao n cap,.slice ax 0 cx]).run P W= .ok (.slice ao n cap) W:=by
 have hu:=hk.u
 rw[hd]at hu
 have hf:(Builtin.firstCells te.size 0 (.slice ax 0 cx)).run P W= .ok #[] W:=by
  cases ax with
  |none=>simp[Builtin.firstCells]
  |some b=>have:=e7h (P:=P) W te.size 0 b 0 cx [] (by simp) (by simp);exact this
 obtain⟨inf,hi,hz,hs,hbb⟩:=hke.info
 cases ao with
 |none=>simp[Builtin.append_,e0k hu,Go.sizeOf,typeInfo,hi,hs,Builtin.lenOf,hn,hf]
 |some b=>simp[Builtin.append_,e0k hu,Go.sizeOf,typeInfo,hi,hs,Builtin.lenOf,hn,hf,storeCells]
theorem tL (h:Sat B Fr E st a W){i:Nat}(hf:Fr i){ρ:Operand->Value}{o:Oper}{e k n m cap:Nat}{f g:Nat->DV}{N M:Nat->Value}(hk:0<k)(hN:Els E.S W k n f N)(hM:Els E.S W k m g M){z:Value}(hzs:z.cells.size=k)
  (hcap:n+m<=cap) (hcm:cap<=maxLen)
  (hrun:(execOp ρ o).run P W= .ok (.value (.slice (some ⟨W.heap.size,0,none⟩) (n+m) cap)) (W.drew.alloc (.cells ((dJ (n*k) N).toArray++(dJ (m*k) M).toArray++Builtin.zeroCells z.cells (cap-(n+m))) e (0,0)))):
  cT P B Fr i (st.set i (some (.row true e k (n+m) λj=>if j<n then f j else g (j-n)))) a W ρ o (.ms i k 0 (n+m)):=by
 have hsz:((dJ (n*k) N).toArray++(dJ (m*k) M).toArray++Builtin.zeroCells z.cells (cap-(n+m))).size=cap*k:=by
  rw[e6f,e6f,e3y,e3y,bK,bK,size_zeroCells,hzs,<-e1s,<-e1s]
  congr 1;omega
 have hd:=h.drew
 have hN':Els E.S W.drew k n f N:=λj hj=>⟨(hN j hj).1.ev (E:=E) (E':=E) (W':=W.drew) (Ev.below h.S_lt (e5p _ W).drew),(hN j hj).2⟩
 have hM':Els E.S W.drew k m g M:=λj hj=>⟨(hM j hj).1.ev (E:=E) (E':=E) (W':=W.drew) (Ev.below h.S_lt (e5p _ W).drew),(hM j hj).2⟩
 have hj:=b7g hN' hM' (Builtin.zeroCells z.cells (cap-(n+m)))
 have hnew:=rW (U:=e) hd hf (c:=(dJ (n*k) N).toArray++(dJ (m*k) M).toArray++Builtin.zeroCells z.cells (cap-(n+m))) (k:=k) (n:=n+m) (f:=λj=>if j<n then f j else g (j-n)) (by rw[hsz];exact e0v _ hcap) (λj hjj=>hj j hjj)
 exact⟨_,_,_,_,hrun,.inl rfl,hd.new hf hnew,.inr ⟨W.heap.size,0,cap,_,e,aF _ _ _,rfl,hcap,hcm,dZ _ _,.inl ⟨by simp,by rw[hsz];simp⟩⟩⟩
theorem dP {ρ:Operand->Value}{o:Oper}{s x:Operand}{t:Nat}(ho:o.op= .call {callee:= .builtin .append,args:= #[s,x],argTypes:= #[t,t]}){v:Value}{W':World}(h:(Builtin.append_ #[t,t] o.type #[ρ s,ρ x]).run P W= .ok v W'):
  (execOp ρ o).run P W= .ok (.value v) W':=by
 simp only[execOp,ho,resolve,invoke,builtin,d9t,d9u,d9q,e3h,e0o,e3c,h]
theorem fS (h:Sat B Fr E st a W){i:Nat}(hf:Fr i){ρ:Operand->Value}{o:Oper}{s x:Operand}{t e:Nat}{ti te:TI}(ht:TOk P ti t)(he:TOk P te e)(hd:ti.d= .slice e)
  (ho:o.op= .call {callee:= .builtin .append,args:= #[s,x],argTypes:= #[t,t]}) (hby:te.bytes<=1048576) (hk:0<te.size) {n m cap capx:Nat} {f g:Nat->DV} {N M:Nat->Value} (hN:Els E.S W te.size n f N) (hM:Els E.S W te.size m g M)
  {ao ax:Option Addr} (hs:ρ s= .slice ao n cap) (hx:ρ x= .slice ax m capx) (hm:0<m) (hgrow:cap<n+m) (hlim:n+m<=1048576) (hnil:ao=none->n=0/\cap=0)
  (hao:n≠0->∃b p,ao=some ⟨b,p,none⟩/\∀j,j<n*te.size->W.cell? ⟨b,p+j,none⟩=some (N j)) (hax:m≠0->∃b p,ax=some ⟨b,p,none⟩/\∀j,j<m*te.size->W.cell? ⟨b,p+j,none⟩=some (M j)):
  cT P B Fr i (st.set i (some (.row true e te.size (n+m) λj=>if j<n then f j else g (j-n)))) a W ρ o (.ms i te.size 0 (n+m)):=by
 obtain⟨inf,hi,hz,hsz,hbb⟩:=he.info
 have hu:=ht.u
 rw[hd]at hu
 obtain⟨bx,px,rfl,hcx⟩:=hax (by omega)
 have hadd:∀(b p j:Nat),(⟨b,p,none⟩:Addr).add j=⟨b,p+j,none⟩:=λb p j=>by unfold Addr.add;split<;>simp_all
 have hnews:∀j v,(dJ (m*te.size) M)[j]?=some v->W.cell? ((⟨bx,px,none⟩:Addr).add j)=some v:=λj v hj=>by
  obtain⟨h1,rfl⟩:=mN _ _ hj
  rw[hadd];exact hcx j h1
 have hbytes:(n+m)*inf.bytes<=140737488355328:=by
  rw[hbb]
  have h1:(n+m)*te.bytes<=1048576*te.bytes:=e0v _ hlim
  have h2:1048576*te.bytes<=1048576*1048576:=Nat.mul_le_mul_left _ hby
  omega
 have hcap1:=grownCap_ge W (n+m) cap e
 have hcap2:=grownCap_le_maxLen W (n+m) cap e (by unfold maxLen;omega)
 cases ao with
 |none=>
  obtain⟨rfl,rfl⟩:=hnil rfl
  have hr:=run_append_nil (P:=P) W t o.type e inf te.z hu hi hz ⟨bx,px,none⟩ m capx (dJ (m*te.size) M) (by rw[bK,hsz]) hnews hm (by omega) (by rw[e0f]at hbytes;omega)
  refine tL h hf hk hN hM he.zs (by simpa using hcap1) (by simpa using hcap2) (dP ho ?_)
  rw[hs,hx,hr]
  simp[dJ]
 |some ad=>
  have holds:∀j v,(dJ (n*te.size) N)[j]?=some v->W.cell? (ad.add j)=some v:=λj v hj=>by
   obtain⟨h1,rfl⟩:=mN _ _ hj
   have hn0:n≠0:=by rintro rfl;simp at h1
   obtain⟨b,p,e1,h2⟩:=hao hn0
   cases e1
   rw[hadd];exact h2 j h1
  have hr:=run_append_grow (P:=P) W t o.type e inf te.z hu hi hz ad n cap (dJ (n*te.size) N) (by rw[bK,hsz]) holds ⟨bx,px,none⟩ m capx (dJ (m*te.size) M) (by rw[bK,hsz]) hnews hgrow (by omega) (growslice_fits hgrow hbytes)
  refine tL h hf hk hN hM he.zs hcap1 hcap2 (dP ho ?_)
  rw[hs,hx,hr]
theorem xT (hT:bQ P T)(h:Sat B Fr E st a W){i:Nat}(hf:Fr i){ρ:Operand->Value}(hev:∀x,aK E W (st.ev x) (ρ x))(o:Oper){s x:Operand}{t:Nat}(ho:o.op= .call {callee:= .builtin .append,args:= #[s,x],argTypes:= #[t,t]}){c:Prop}{y:AV}{st':St}
  (hv:nJ T i t (st.ev s) (st.ev x) st=some (c,y,st')) (hc:c):cT P B Fr i st' a W ρ o y:=by
 unfold nJ at hv
 cases ht:T t with
 |none=>rw[ht]at hv;cases hv
 |some ti=>
  rw[ht]at hv
  simp only[]at hv
  split at hv
  ·rename_i e hd
   cases he:T e with
   |none=>rw[he]at hv;cases hv
   |some te=>
    rw[he]at hv
    simp only[]at hv
    cases hb:(Nat.ble te.bytes 1048576&&Nat.blt 0 te.size)with
    |false=>rw[hb]at hv;cases hv
    |true=>
     rw[hb]at hv
     simp only[e0q]at hv
     rw[e0d]at hb
     have hby:=e1n hb.1
     have hpos:=aG.1 hb.2
     have hkt:=hT t ti ht
     have hke:=hT e te he
     cases hsrc:xP st te.size (st.ev x)with
     |none=>rw[hsrc]at hv;cases hv
     |some p=>
      obtain⟨cx,m,g⟩:=p
      rw[hsrc]at hv
      simp only[]at hv
      split at hv
      ·rename_i id k off n e1
       split at hv
       ·rename_i U k' n' f hid
        cases hb2:(Nat.beq off 0&&Nat.beq k te.size&&Nat.beq k' te.size&&Nat.beq U e)with
        |false=>rw[hb2]at hv;cases hv
        |true=>
         rw[hb2]at hv
         simp only[e0q,e0a,e0i]at hv
         obtain⟨rfl,rfl,rfl⟩:=hv
         simp only[e0d]at hb2
         obtain rfl:=d9s hb2.1.1.1
         obtain rfl:=d9s hb2.1.1.2
         have hk':=d9s hb2.1.2
         obtain rfl:=d9s hb2.2
         subst hk'
         obtain⟨hcx,rfl,hlim⟩:=hc
         obtain⟨ax,capx,hux,M,hM,hax⟩:=jR h hpos (hev x) hsrc hcx
         have hs0:=hev s
         rw[e1]at hs0
         have hrow:=h.hp id _ hid
         have hshape:∃ao cap,ρ s= .slice ao n' cap/\n'<=cap/\(ao=none->n'=0/\cap=0):=by
          rcases hs0 with⟨_,rfl,hr⟩|⟨b,p,cap,cc,U',_,hr,hn,_⟩
          ·exact⟨none,0,hr,e0g _,λ_=>⟨rfl,rfl⟩⟩
          ·exact⟨_,cap,hr,hn,by simp⟩
         by_cases hm:m=0
         ·subst hm
          obtain⟨ao,cap,hr,hn,_⟩:=hshape
          have hrun:=dP (P:=P) (W:=W) (ρ:=ρ) ho (v:= .slice ao n' cap) (W':=W) (by rw[hr,hux];exact lG hkt hke hd hn)
          have hun:E.ρ id≠ .un:=by
           rcases hrow with⟨h1,_⟩|⟨b,cc,h1,_⟩<;>rw[h1]<;>simp
          have hr':SatR B E W id (.row true U te.size (n'+0) λj=>if j<n' then f j else g (j-n')):=by
           rcases hrow with⟨h1,h2⟩|⟨b,cc,h1,h2,h3,h4,h5⟩
           ·exact .inl ⟨h1,h2⟩
           ·exact .inr ⟨b,cc,h1,h2,h3,h4,λj hj=>by simp only[e0c (show j<n' from hj)];exact h5 j hj⟩
          have hu:=h.upd (r:= .row true U te.size (n'+0) λj=>if j<n' then f j else g (j-n')) (by rw[hid];simp) hr'
          have hm':=hu.move (id:=id) (i:=i) (cQ _ _ _) hf hun
          rw[sG]at hm'
          refine⟨_,_,_,_,hrun,.inl rfl,hm',?_⟩
          rw[<-hr]
          rcases hs0 with⟨h1,h2,h3⟩|⟨b,p,cap',cc,U',h1,h2,h3,h4,h5,h6⟩
          ·exact .inl ⟨by rw[aF];exact h1,h2,h3⟩
          ·exact .inr ⟨b,p,cap',cc,U',by rw[aF];exact h1,h2,h3,h4,h5,h6⟩
         ·rcases hs0 with⟨h1,rfl,hr⟩|⟨b,p,cap,cc,U',hb',hr,hn,hcm,hh,hsz⟩
          ·have:=fS (h.drop id) hf hkt hke hd ho hby hpos (n:=0) (f:=f) (N:=λ_=>undef) (λj hj=>absurd hj (e3i j)) hM hr hux (by omega) (by omega) hlim (λ_=>⟨rfl,rfl⟩) (λh=>absurd rfl h) hax
           exact this
          ·rcases hrow with⟨h1,_⟩|⟨b2,c2,hb2,hh2,hsz2,hown,hels⟩
           ·rw[hb']at h1;cases h1
           ·rw[hb']at hb2;cases hb2
            rw[hh]at hh2;cases hh2
            have hels':Els E.S W te.size n' f λj=>cc.getD j undef:=hels
            have h0:n'≠0->p=0/\cap*te.size<=cc.size:=by
             intro hn0
             rcases hsz with⟨h1,h2⟩|⟨h1,_⟩
             ·exact⟨by simpa using h1,by simpa using h2⟩
             ·exact absurd h1 hn0
            by_cases hroom:n'+m<=cap
            ·have hp0:p=0/\cap*te.size<=cc.size:=by
              rcases hsz with⟨h1,h2⟩|⟨_,h2⟩
              ·exact⟨by simpa using h1,by simpa using h2⟩
              ·omega
             obtain⟨rfl,hcsz⟩:=hp0
             obtain⟨bx,px,rfl,hcx'⟩:=hax hm
             obtain⟨inf,hi,hz,hisz,hbb⟩:=hke.info
             have hu:=hkt.u
             rw[hd]at hu
             have hadd:∀j,(⟨bx,px,none⟩:Addr).add j=⟨bx,px+j,none⟩:=λj=>by unfold Addr.add;split<;>simp_all
             have hfit:(n'+m)*te.size<=cc.size:=e2h (e0v _ hroom) hcsz
             have hrr:=run_append_room (P:=P) W t o.type U inf hu hi b n' cap cc hh ⟨bx,px,none⟩ m capx (dJ (m*te.size) M) (by rw[bK,hisz]) (λj v hj=>by
              obtain⟨h1,rfl⟩:=mN _ _ hj
              rw[hadd];exact hcx' j h1) (λv hv=>by
              obtain⟨q,hq,rfl⟩:=e0l.1 hv
              exact vP hpos hM (e1e.1 hq)) hroom (by rw[bK,hisz,<-e1s];exact hfit)
             rw[hisz]at hrr
             have hrun:=dP (P:=P) (W:=W) (ρ:=ρ) ho (v:= .slice (some ⟨b,0,none⟩) (n'+m) cap) (W':=W.setRow b (bJ cc (n'*te.size) (dJ (m*te.size) M))) (by rw[hr,hux];exact hrr)
             have hlen:n'*te.size+(dJ (m*te.size) M).length<=cc.size:=by rw[bK,<-e1s];exact hfit
             have hset:=e6t W b cc (bJ cc (n'*te.size) (dJ (m*te.size) M)) U (0,0) hh
             have hown':¬E.S b/\B.ow b:=hown
             have hev':Ev E W E (W.setRow b (bJ cc (n'*te.size) (dJ (m*te.size) M))):=
              ⟨λ_ h=>h,λq hq=>e5v W b q _ (λe=>hown'.1 (e▸hq)),λ_ _=>rfl,λq c3 T3 hq=>by
               by_cases e:q=b
               ·subst e;rw[hh]at hq;cases hq;exact⟨_,hset,aX hlen⟩
               ·exact⟨c3,(e5v W b q _ e).trans hq,rfl⟩⟩
             have hsp:=kD (p:=n') hels' hM hfit
             rcases hsp with hsp|hsp
             ·have hr':SatR B E (W.setRow b (bJ cc (n'*te.size) (dJ (m*te.size) M))) id (.row true U te.size (n'+m) λj=>if j<n' then f j else g (j-n')):=by
               refine .inr ⟨b,_,hb',hset,by rw[aX hlen];exact hfit,hown,λj hj=>?_⟩
               have h2:=hsp j (by omega)
               have e2:(if n'<=j/\j<n'+m then g (j-n')else f j)=if j<n' then f j else g (j-n'):=by
                by_cases hjn:j<n'
                ·rw[e0c hjn,d9z (by omega)]
                ·rw[d9z hjn,e0c (by omega)]
               simp only[e2]at h2
               exact⟨h2.1.ev hev',h2.2⟩
              have hw:=h.write (r:= .row true U te.size (n'+m) λj=>if j<n' then f j else g (j-n')) (by rw[hid];simp) hb' hh hown' (aX hlen) hr'
              have hm':=hw.move (id:=id) (i:=i) (cQ _ _ _) hf (by rw[hb'];simp)
              rw[sG]at hm'
              refine⟨_,_,_,_,hrun,.inl rfl,hm',.inr ⟨b,0,cap,_,U,by rw[aF];exact hb',rfl,hroom,hcm,hset,.inl ⟨by simp,by rw[aX hlen];simpa using hcsz⟩⟩⟩
             ·omega
            ·refine fS (h.drop id) hf hkt hke hd ho hby hpos (n:=n') (f:=f) hels' hM hr hux (by omega) (by omega) hlim (by simp) (λhn0=>⟨b,p,rfl,λj hj=>?_⟩) hax
             obtain⟨rfl,h2⟩:=h0 hn0
             rw[e0f]
             exact cK hh (e1g hj (e2h (e0v _ hn) h2))
       ·cases hv
      ·cases htt:a0o (st.ev s)with
       |false=>rw[htt]at hv;cases hv
       |true=>
        rw[htt]at hv
        simp only[e0q]at hv
        cases hss:xP st te.size (st.ev s)with
        |none=>rw[hss]at hv;cases hv
        |some p=>
         obtain⟨cs,n,f⟩:=p
         rw[hss]at hv
         simp only[e0a,e0i]at hv
         obtain⟨rfl,rfl,rfl⟩:=hv
         obtain⟨hcs,hcx,hm,hlim⟩:=hc
         obtain⟨ax,capx,hux,M,hM,hax⟩:=jR h hpos (hev x) hsrc hcx
         obtain⟨ao,cap,hus,N,hN,hao⟩:=jR h hpos (hev s) hss hcs
         have hcap:cap=n/\(ao=none->n=0/\cap=0):=by
          have hes:=hev s
          cases hse:st.ev s with
          |d z=>
           rw[hse]at htt hes
           cases z with
           |sl tt k n2 f2=>
            simp only[a0o]at htt
            obtain⟨a2,cap2,h1,h2,h3,h4,_⟩:=hes
            rw[hus]at h1
            simp only[Value.slice.injEq]at h1
            obtain⟨h5,h6,h7⟩:=h1
            subst h6 h7
            have h8:=h3 htt
            refine⟨h8,λe=>?_⟩
            have h9:a2=none:=by rw[e]at h5;cases a2 with|none=>rfl|some _=>cases h5
            have:=h4 h9
            omega
           |v y=>
            have h1:ρ s=y:=hes
            rw[hus]at h1
            subst h1
            simp only[a0o]at htt
            split at htt
            ·rename_i e2;cases e2
            ·rename_i e2;cases e2;exact⟨rfl,λ_=>⟨rfl,rfl⟩⟩
            ·cases htt
           |_=>cases htt
          |_=>rw[hse]at htt;cases htt
         by_cases hm0:m=0
         ·subst hm0
          have hnil:d1s (st.ev s)=true:=by
           cases hn:d1s (st.ev s)with
           |true=>rfl
           |false=>unfold nzP at hm;rw[hn]at hm;exact absurd hm (e5g 0)
          have hse:st.ev s= .d (.v (.slice none 0 0)):=by
           unfold d1s at hnil
           split at hnil
           ·assumption
           ·cases hnil
          have hn0:n=0:=by rw[hse]at hss;cases hss;rfl
          subst hn0
          have hvs:ρ s= .slice none 0 0:=by have:=hev s;rw[hse]at this;exact this
          have hrun:=dP (P:=P) (W:=W) (ρ:=ρ) ho (v:= .slice none 0 0) (W':=W) (by rw[hvs,hux];exact lG hkt hke hd (e0g 0))
          exact⟨_,_,_,W,hrun,.inl rfl,h.newNil hf,.inl ⟨aF _ _ _,rfl,rfl⟩⟩
         ·exact fS h hf hkt hke hd ho hby hpos hN hM hus hux (by omega) (by omega) hlim hcap.2 hao hax
  ·cases hv
end
section
variable {P:Program} {T:Nat->Option TI} {B:Base} {Fr:Nat->Prop} {E:Env} {st:St} {a:Act} {W:World}
theorem vQ {b:Nat}{c c':Array Value}{U:TypeId}(hh:W.heap[b]?=some (Obj.cells c U (0,0)))(hn:¬E.S b)(hs:c'.size=c.size):Ev E W E (W.setRow b c'):=
 ⟨λ_ h=>h,λq hq=>e5v W b q _ (λe=>hn (e▸hq)),λ_ _=>rfl,λq c3 T3 hq=>by
  by_cases e:q=b
  ·subst e;rw[hh]at hq;cases hq;exact⟨_,e6t W q c c' U (0,0) hh,hs⟩
  ·exact⟨c3,(e5v W b q _ e).trans hq,rfl⟩⟩
theorem gX (h:Sat B Fr E st a W){id b:Nat}{U k n n2 p:Nat}{f f':Nat->DV}{c:Array Value}{vs:List Value}(hid:st.hp id=some (.row true U k n f))(hb:E.ρ id= .at b)(hh:W.heap[b]?=some (Obj.cells c U (0,0)))
  (hp:p+vs.length<=c.size) (hn2:n2*k<=c.size) (hels:Els E.S W k n2 f' λj=>(bJ c p vs).getD j undef):
  Sat B Fr E (st.set id (some (.row true U k n2 f'))) a (W.setRow b (bJ c p vs)):=by
 rcases h.hp id _ hid with⟨h1,_⟩|⟨b2,c2,hb2,hh2,hsz,hown,_⟩
 ·rw[hb]at h1;cases h1
 ·rw[hb]at hb2;cases hb2
  have hown':¬E.S b/\B.ow b:=hown
  refine h.write (by rw[hid];simp) hb hh hown' (aX hp) (.inr ⟨b,_,hb,e6t W b c _ U (0,0) hh,by rw[aX hp];exact hn2,hown,λj hj=>?_⟩)
  obtain⟨h3,h4⟩:=hels j hj
  exact⟨h3.ev (vQ hh hown'.1 (aX hp)),h4⟩
theorem jS {t:Nat}{ti:TI}(hk:TOk P ti t){b o:Nat}{c:Array Value}{U:TypeId}{u:Value}(hh:W.heap[b]?=some (Obj.cells c U (0,0)))(hs:u.cells.size=ti.size)(hle:o+ti.size<=c.size)(h1:∀j,j<ti.size->(u.cells.getD j undef).oneCell'=true):
  (Instr.storeAt t (.pointer (some ⟨b,o,none⟩)) u).run P W= .ok () (W.setRow b (bJ c o u.cells.toList)):=by
 have hone:∀v∈u.cells.toList,v.oneCell'=true:=by
  intro v hv
  obtain⟨j,hj,rfl⟩:=e3w hv
  have hj':j<u.cells.size:=by simpa using hj
  have:=h1 j (by omega)
  rw[d9x,e0y hj']at this
  simpa using this
 have hr:=e5h P b o U u.cells.toList 0 c W hh (by rw[e1c];omega) hone
 simp only[e2j]at hr
 have hn:¬(u.cells.size≠ti.size):=by simp[hs]
 simp only[Instr.storeAt,Instr.sureAddr,d9t,d9u,d9q,storeVar,hk.sizeOf,hn,e3g]
 exact hr
theorem cR (u:Value)(q:Nat):u.cells.toList.getD q undef=u.cells.getD q undef:=by
 rw[d9x,d9r,e0s]
theorem a5s {S:Nat->Prop}{x:DV}{v:Value}(h:Rep S W x v):Rep S W (d1u x) v:=by
 cases x<;>first|exact trivial|exact h
theorem a3q (hT:bQ P T)(h:Sat B Fr E st a W){ρ:Operand->Value}{ad x:AV}{vad vx:Value}(had:aK E W ad vad)(hx:aK E W x vx){t:Nat}{c:Prop}{st':St}(hv:uV T t ad x st=some (c,st'))(hc:c):
  ∃E' W',(Instr.storeAt t vad vx).run P W= .ok () W'/\Sat B Fr E' st' a W':=by
 unfold uV at hv
 split at hv
 ·rename_i ti m ht hl
  cases hb:Nat.beq m ti.size with
  |false=>rw[hb]at hv;cases hv
  |true=>
   rw[hb]at hv
   simp only[e0q]at hv
   have hms:=d9s hb
   have hk:=hT t ti ht
   obtain⟨hcs,hcj⟩:=pS hx hl
   split at hv
   ·rename_i id off
    split at hv
    ·rename_i n f hid
     simp only[e0a,e0i]at hv
     obtain⟨rfl,rfl⟩:=hv
     obtain⟨b,hbl,rfl⟩:=had
     obtain⟨b2,cc,U,hb2,hh,hsz,hown,hcc⟩:=h.hp id _ hid
     rw[hbl]at hb2;cases hb2
     have hown':¬E.S b/\B.ow b:=hown
     have hle:off+vx.cells.toList.length<=cc.size:=by rw[e1c];omega
     refine⟨E,_,jS hk hh (hcs.trans hms) (by omega) (λj hj=>(hcj j (by omega)).2),?_⟩
     refine h.write (by rw[hid];simp) hbl hh hown' (aX hle) ⟨b,_,U,hbl,e6t W b cc _ U (0,0) hh,by rw[aX hle];exact hsz,hown,λj hj=>?_⟩
     rw[dW hle,e1c,hcs]
     by_cases hin:off<=j/\j<off+m
     ·have e1:(Nat.ble off j&&Nat.blt j (off+m))=true:=by rw[e0d];exact⟨e4c hin.1,aG.2 hin.2⟩
      simp only[e0c hin,e1,e0q,cR]
      obtain⟨h1,h2⟩:=hcj (j-off) (by omega)
      exact⟨h1.ev (vQ hh hown'.1 (aX hle)),h2⟩
     ·have e1:(Nat.ble off j&&Nat.blt j (off+m))=false:=by
       cases hx:(Nat.ble off j&&Nat.blt j (off+m))with
       |false=>rfl
       |true=>rw[e0d]at hx;exact absurd ⟨e1n hx.1,aG.1 hx.2⟩ hin
      simp only[d9z hin,e1,e2n]
      obtain⟨h1,h2⟩:=hcc j hj
      exact⟨h1.ev (vQ hh hown'.1 (aX hle)),h2⟩
    ·cases hv
   ·rename_i id k i off
    split at hv
    ·rename_i U k' n f hid
     cases hkk:Nat.beq k k' with
     |false=>rw[hkk]at hv;cases hv
     |true=>
      rw[hkk]at hv
      simp only[e0q]at hv
      obtain rfl:=d9s hkk
      obtain⟨b,hbl,rfl⟩:=had
      have wr:∀{E1:Env} {st1:St},Sat B Fr E1 st1 a W->st1.hp id=some (.row true U k n f)->E1.ρ=E.ρ->∃cc,W.heap[b]?=some (Obj.cells cc U (0,0))/\n*k<=cc.size/\Els E1.S W k n f λj=>cc.getD j undef:=by
       intro E1 st1 h1 hid1 hρ
       rcases h1.hp id _ hid1 with⟨h2,_⟩|⟨b2,cc,hb2,hh,hsz,_,hels⟩
       ·rw[hρ,hbl]at h2;cases h2
       ·rw[hρ,hbl]at hb2;cases hb2;exact⟨cc,hh,hsz,hels⟩
      have frz:¬id∈bB bH st.hp x->qB bH st.hp x->∃E1,Sat B Fr E1 (st.frzs (bB bH st.hp x)) a W/\E1.ρ=E.ρ/\(st.frzs (bB bH st.hp x)).hp id=some (.row true U k n f)/\pD E1.S W m (dX bH st.hp x) λj=>vx.cells.getD j undef:=by
       intro hni hok
       obtain⟨E1,h1,h2,h3,h4,h5⟩:=h.frzs (bB bH st.hp x)
       exact⟨E1,h1,h4,by rw[h5 id hni];exact hid,zX h h2.s hl hok (λj hj q hq=>h3 j hj (dV _ _ hj) q hq) hx⟩
      cases hwh:(Nat.beq m k&&Nat.beq off 0)with
      |true=>
       rw[hwh]at hv
       simp only[e0q,e0a,e0i]at hv
       obtain⟨rfl,rfl⟩:=hv
       rw[e0d]at hwh
       obtain rfl:=d9s hwh.2
       obtain rfl:=d9s hwh.1
       obtain⟨hok,hin,hni⟩:=hc
       obtain⟨E1,h1,hρ,hid1,hrc⟩:=frz hni hok
       obtain⟨cc,hh,hsz,hels⟩:=wr h1 hid1 hρ
       have hlen:i*m+vx.cells.toList.length<=cc.size:=by
        have:(i+1)*m<=n*m:=e0v _ hin
        rw[e1s]at this
        rw[e1c,hcs];omega
       refine⟨E1,_,jS hk hh (hcs.trans hms) (by rw[e2j];rw[e1c,hcs]at hlen;omega) (λj hj=>(hcj j (by omega)).2),?_⟩
       rw[e2j]
       refine gX h1 hid1 (by rw[hρ];exact hbl) hh hlen hsz λj hj=>?_
       have hval:∀q,q<m->(bJ cc (i*m) vx.cells.toList).getD (j*m+q) undef=if j=i then vx.cells.getD q undef else cc.getD (j*m+q) undef:=by
        intro q hq
        rw[dW hlen,e1c,hcs]
        by_cases e:j=i
        ·subst e
         rw[e0c (by omega),e0c rfl,cR];congr 1;omega
        ·rw[d9z,d9z e]
         rintro⟨h3,h4⟩
         rcases Nat.lt_or_gt_of_ne e with h5|h5
         ·have:(j+1)*m<=i*m:=e0v _ h5
          rw[e1s]at this;omega
         ·have:(i+1)*m<=j*m:=e0v _ h5
          rw[e1s]at this;omega
       by_cases e:j=i
       ·simp only[upE,e0c e]at hval⊢
        exact⟨hrc.congr λq hq=>hval q hq,λq hq=>(e2r Value.oneCell' (hval q hq)).trans (hcj q hq).2⟩
       ·simp only[upE,d9z e]at hval⊢
        obtain⟨h3,h4⟩:=hels j hj
        exact⟨h3.congr λq hq=>hval q hq,λq hq=>(e2r Value.oneCell' (hval q hq)).trans (h4 q hq)⟩
      |false=>
       rw[hwh]at hv
       simp only[e2n]at hv
       cases hk1:Nat.beq k 1 with
       |true=>
        rw[hk1]at hv
        simp only[e0q]at hv
        cases har:Nat.beq off 0 with
        |false=>rw[har]at hv;cases hv
        |true=>
         rw[har]at hv
         simp only[e0q,e0a,e0i]at hv
         obtain⟨rfl,rfl⟩:=hv
         obtain rfl:=d9s har
         obtain rfl:=d9s hk1
         obtain⟨cc,hh,hsz,hels⟩:=wr h hid rfl
         have hlen:i*1+vx.cells.toList.length<=cc.size:=by rw[e1c,hcs];omega
         refine⟨E,_,jS hk hh (hcs.trans hms) (by rw[e1c,hcs]at hlen;omega) (λj hj=>(hcj j (by omega)).2),?_⟩
         rw[e2j]
         refine gX h hid hbl hh hlen hsz λj hj=>?_
         rw[c3w hj]
         have hval:∀q,q<1->(bJ cc (i*1) vx.cells.toList).getD (j*1+q) undef=if i<=j/\j<i+m then vx.cells.getD (j-i) undef else cc.getD (j*1+q) undef:=by
          intro q hq
          rw[dW hlen,e1c,hcs]
          by_cases e:i<=j/\j<i+m
          ·rw[e0c (by omega),e0c e,cR];congr 1;omega
          ·rw[d9z (by omega),d9z e]
         by_cases e:i<=j/\j<i+m
         ·simp only[mid,e0c e]at hval⊢
          refine⟨?_,λq hq=>(e2r Value.oneCell' (hval q hq)).trans (hcj (j-i) (by omega)).2⟩
          refine a6b rfl ?_
          have h3:=hval 0 (by omega)
          show aK E W _ ((bJ cc (i*1) vx.cells.toList).getD (j*1+0) undef)
          rw[h3]
          exact(hcj (j-i) (by omega)).1
         ·simp only[mid,d9z e]at hval⊢
          obtain⟨h3,h4⟩:=hels j hj
          exact⟨h3.congr λq hq=>hval q hq,λq hq=>(e2r Value.oneCell' (hval q hq)).trans (h4 q hq)⟩
       |false=>
        rw[hk1]at hv
        simp only[e2n,e0a,e0i]at hv
        obtain⟨rfl,rfl⟩:=hv
        obtain⟨hok,hpt',hin,hni⟩:=hc
        obtain⟨E1,h1,hρ,hid1,hrc⟩:=frz hni hok
        obtain⟨cc,hh,hsz,hels⟩:=wr h1 hid1 hρ
        have hlen:i*k+off+vx.cells.toList.length<=cc.size:=by
         have:(i+1)*k<=n*k:=e0v _ hin
         rw[e1s]at this
         rw[e1c,hcs];omega
        refine⟨E1,_,jS hk hh (hcs.trans hms) (by rw[e1c,hcs]at hlen;omega) (λj hj=>(hcj j (by omega)).2),?_⟩
        refine gX h1 hid1 (by rw[hρ];exact hbl) hh hlen hsz λj hj=>?_
        have hval:∀q,q<k->(bJ cc (i*k+off) vx.cells.toList).getD (j*k+q) undef=if j=i/\off<=q/\q<off+m then vx.cells.getD (q-off) undef else cc.getD (j*k+q) undef:=by
         intro q hq
         rw[dW hlen,e1c,hcs]
         by_cases e:j=i/\off<=q/\q<off+m
         ·obtain⟨rfl,h3,h4⟩:=e
          rw[e0c (by omega),e0c ⟨rfl,h3,h4⟩,cR];congr 1;omega
         ·rw[d9z,d9z e]
          rintro⟨h3,h4⟩
          apply e
          have hji:j=i:=by
           rcases Nat.lt_trichotomy j i with h5|h5|h5
           ·have:(j+1)*k<=i*k:=e0v _ h5
            rw[e1s]at this;omega
           ·exact h5
           ·have:(i+1)*k<=j*k:=e0v _ h5
            rw[e1s]at this;omega
          subst hji
          exact⟨rfl,by omega,by omega⟩
        obtain⟨h3,h4⟩:=hels j hj
        by_cases e:j=i
        ·subst e
         rw[upE,e0c rfl]
         refine⟨⟨rfl,λq hq=>?_⟩,λq hq=>?_⟩
         ·have hv:=hval q hq
          by_cases hq2:off<=q/\q<off+m
          ·have e1:(Nat.ble off q&&Nat.blt q (off+m))=true:=by rw[e0d];exact⟨e4c hq2.1,aG.2 hq2.2⟩
           simp only[e1,e0q]
           rw[hv,e0c ⟨rfl,hq2⟩]
           exact a5s (kC hrc (by omega))
          ·have e1:(Nat.ble off q&&Nat.blt q (off+m))=false:=by
            cases hx:(Nat.ble off q&&Nat.blt q (off+m))with
            |false=>rfl
            |true=>rw[e0d]at hx;exact absurd ⟨e1n hx.1,aG.1 hx.2⟩ hq2
           simp only[e1,e2n]
           rw[hv,d9z (λhh=>hq2 hh.2)]
           exact a5s (kC h3 hq)
         ·have hv:=hval q hq
          by_cases hq2:off<=q/\q<off+m
          ·rw[e0c ⟨rfl,hq2⟩]at hv;exact(e2r Value.oneCell' hv).trans (hcj (q-off) (by omega)).2
          ·rw[d9z (λhh=>hq2 hh.2)]at hv;exact(e2r Value.oneCell' hv).trans (h4 q hq)
        ·rw[upE,d9z e]
         have hval':∀q,q<k->(bJ cc (i*k+off) vx.cells.toList).getD (j*k+q) undef=cc.getD (j*k+q) undef:=λq hq=>by
          rw[hval q hq,d9z (λhh=>e hh.1)]
         exact⟨h3.congr λq hq=>hval' q hq,λq hq=>(e2r Value.oneCell' (hval' q hq)).trans (h4 q hq)⟩
    ·cases hv
   ·cases hv
 ·cases hv
end
section
variable {P:Program} {T:Nat->Option TI} {B:Base} {Fr:Nat->Prop} {E:Env} {st:St} {a:Act} {W:World}
theorem a1r (hT:bQ P T)(h:Sat B Fr E st a W){ρ:Operand->Value}{x:AV}{vx:Value}(hx:aK E W x vx){t ty:Nat}{c:Prop}{y:AV}{st':St}(hv:tU T t x st=some (c,y,st'))(hc:c):
  ∃W',(Builtin.clear_ #[t] ty #[vx]).run P W= .ok (.tuple #[]) W'/\Sat B Fr E st' a W'/\y= .d .top:=by
 unfold tU at hv
 cases ht:T t with
 |none=>rw[ht]at hv;cases hv
 |some ti=>
  rw[ht]at hv
  simp only[]at hv
  split at hv
  ·rename_i e hd
   cases he:T e with
   |none=>rw[he]at hv;cases hv
   |some te=>
    rw[he]at hv
    simp only[]at hv
    split at hv
    ·rename_i id k off m
     split at hv
     ·rename_i U k' n f hid
      cases hb:(Nat.beq k te.size&&Nat.beq k' te.size&&Nat.blt 0 te.size)with
      |false=>rw[hb]at hv;cases hv
      |true=>
       rw[hb]at hv
       simp only[e0q,e0a,e0i]at hv
       obtain⟨rfl,rfl,rfl⟩:=hv
       simp only[e0d]at hb
       obtain rfl:=d9s hb.1.1
       have hk':=d9s hb.1.2
       have hpos:=aG.1 hb.2
       subst hk'
       have hk:=hT t ti ht
       have hke:=hT e te he
       have hsame:m=0->Sat B Fr E (st.set id (some (.row true U te.size n (mid off m (λ_=>zE te) f)))) a W:=by
        rintro rfl
        refine h.upd (by rw[hid];simp) ?_
        have e1:mid off 0 (λ_=>zE te) f=f:=by
         funext j;unfold mid;rw[d9z (by omega)]
        rw[e1];exact h.hp id _ hid
       rcases hx with⟨_,rfl,rfl⟩|⟨b,o,cap,cc,U',hb',rfl,hn,_,hh,hs⟩
       ·refine⟨W,?_,hsame rfl,rfl⟩
        simp only[Builtin.clear_,e0t,e0w,d9t,hk.und,hd,d9q,d9u]
       ·by_cases hm:m=0
        ·refine⟨W,?_,hsame hm,rfl⟩
         subst hm
         simp only[Builtin.clear_,e0t,e0w,d9t,hk.und,hd,d9q,d9u]
        ·rcases hs with⟨rfl,hsz⟩|⟨h1,_⟩
         ·rcases h.hp id _ hid with⟨h1,_⟩|⟨b2,c2,hb2,hh2,hsz2,hown,hels⟩
          ·rw[hb']at h1;cases h1
          ·rw[hb']at hb2;cases hb2
           rw[hh]at hh2;cases hh2
           have hz2:=(oD hke m E.S W).2
           obtain⟨M',hM'⟩:∃M':Nat->Value,M'=λj=>((Array.range (m*te.size)).map (te.z.cells[· %te.z.cells.size]!)).getD j undef:=⟨_,rfl⟩
           have hzl:(Builtin.zeroCells te.z.cells m).toList=dJ (m*te.size) M':=by
            have e1:Builtin.zeroCells te.z.cells m=(Array.range (m*te.size)).map (te.z.cells[· %te.z.cells.size]!):=by
             unfold Builtin.zeroCells;rw[hke.zs]
            rw[e1]
            apply e3u
            intro j
            rw[e0s,dJ,e0j]
            by_cases hj:j<m*te.size
            ·rw[e3p hj,hM']
             simp only[e1y]
             rw[d9x,e6s,e7b,e0c hj];rfl
            ·rw[e1w (by simpa using hj),e5n (by simpa using hj)];rfl
           have hzM:Els E.S W te.size m (λ_=>zE te) M':=by rw[hM'];exact hz2
           have hfit:(off+m)*te.size<=cc.size:=e2h (e0v _ hc) hsz2
           have hlen:off*te.size+(dJ (m*te.size) M').length<=cc.size:=by rw[bK,<-e1s];exact hfit
           have hrr:=e5h P b (off*te.size) U (dJ (m*te.size) M') 0 cc W hh (by simpa using hlen) (λv hv=>by
            obtain⟨q,hq,rfl⟩:=e0l.1 hv
            exact vP hpos hzM (e1e.1 hq))
           simp only[e2j]at hrr
           refine⟨W.setRow b (bJ cc (off*te.size) (dJ (m*te.size) M')),?_,?_,rfl⟩
           ·have hmm:∀q:Nat,m=q+1->(Builtin.clear_ #[t] ty #[.slice (some ⟨b,off*te.size,none⟩) (q+1) cap]).run P W= .ok (.tuple #[]) (W.setRow b (bJ cc (off*te.size) (dJ (m*te.size) M'))):=by
             rintro q rfl
             simp only[Builtin.clear_,e0t,e0w,d9t,hk.und,hd,d9q,hke.zeroValue,hzl]
             rw[hrr];rfl
            obtain⟨q,hq⟩:∃q,m=q+1:=⟨m-1,by omega⟩
            have:=hmm q hq
            rw[<-hq]at this;exact this
           ·refine gX h hid hb' hh hlen hsz2 ?_
            rcases kD (p:=off) hels hzM hfit with h3|h3
            ·exactλj hj=>h3 j (by omega)
            ·omega
         ·omega
     ·cases hv
    ·rename_i id k i
     split at hv
     ·rename_i U k' n f hid
      cases hb:(Nat.beq k k'&&Nat.beq te.size 1&&Nat.blt 0 k)with
      |false=>rw[hb]at hv;cases hv
      |true=>
       rw[hb]at hv
       simp only[e0q,e0a,e0i]at hv
       obtain⟨rfl,rfl,rfl⟩:=hv
       simp only[e0d]at hb
       obtain rfl:=d9s hb.1.1
       have hte:=d9s hb.1.2
       have hpos:=aG.1 hb.2
       have hk:=hT t ti ht
       have hke:=hT e te he
       obtain⟨b,hb',rfl⟩:=hx
       rcases h.hp id _ hid with⟨h1,_⟩|⟨b2,cc,hb2,hh,hsz,hown,hels⟩
       ·rw[hb']at h1;cases h1
       ·rw[hb']at hb2;cases hb2
        have hz1:(te.z.cells.getD 0 undef).oneCell'=true:=(qS hke (E:=E) (W:=W) 0 (by omega)).2
        have hzl:(Builtin.zeroCells te.z.cells k).toList=List.replicate k (te.z.cells.getD 0 undef):=by
         unfold Builtin.zeroCells;rw[hke.zs,hte]
         apply e3u
         intro j
         rw[e0s,List.getElem?_replicate]
         by_cases hj:j<k
         ·have hm:j %te.z.cells.size=0:=by rw[hke.zs,hte];omega
          have hlt:0<te.z.cells.size:=by rw[hke.zs,hte];omega
          rw[e0c hj,e6s,e7b,e0c (by omega)]
          simp[Nat.mod_one,hlt]
         ·rw[d9z hj,e5n (by simp;omega)]
        have hlen:i*k+(List.replicate k (te.z.cells.getD 0 undef)).length<=cc.size:=by
         have:(i+1)*k<=n*k:=e0v _ hc
         rw[e1s]at this
         rw[List.length_replicate];omega
        have hrr:=e5h P b (i*k) U (List.replicate k (te.z.cells.getD 0 undef)) 0 cc W hh (by simpa using hlen) (λv hv=>by
         rw[(List.mem_replicate.1 hv).2];exact hz1)
        simp only[e2j]at hrr
        refine⟨W.setRow b (bJ cc (i*k) (List.replicate k (te.z.cells.getD 0 undef))),?_,?_,rfl⟩
        ·have hmm:∀q:Nat,k=q+1->(Builtin.clear_ #[t] ty #[.slice (some ⟨b,i*k,none⟩) (q+1) k]).run P W= .ok (.tuple #[]) (W.setRow b (bJ cc (i*k) (List.replicate k (te.z.cells.getD 0 undef)))):=by
          intro q hq
          rw[hq]at hzl
          simp only[Builtin.clear_,e0t,e0w,d9t,hk.und,hd,d9q,hke.zeroValue,hzl]
          rw[<-hq,hrr];rfl
         obtain⟨q,hq⟩:∃q,k=q+1:=⟨k-1,by omega⟩
         have:=hmm q hq
         rw[<-hq]at this;exact this
        ·refine gX h hid hb' hh hlen hsz λj hj=>?_
         have hval:∀q,q<k->(bJ cc (i*k) (List.replicate k (te.z.cells.getD 0 undef))).getD (j*k+q) undef=if j=i then te.z.cells.getD 0 undef else cc.getD (j*k+q) undef:=by
          intro q hq
          rw[dW hlen,List.length_replicate]
          by_cases e:j=i
          ·subst e
           rw[e0c (by omega),e0c rfl,d9r,List.getElem?_replicate,e0c (by omega)];rfl
          ·rw[d9z,d9z e]
           rintro⟨h3,h4⟩
           rcases Nat.lt_or_gt_of_ne e with h5|h5
           ·have:(j+1)*k<=i*k:=e0v _ h5
            rw[e1s]at this;omega
           ·have:(i+1)*k<=j*k:=e0v _ h5
            rw[e1s]at this;omega
         by_cases e:j=i
         ·simp only[upE,e0c e]at hval⊢
          exact⟨⟨rfl,λq hq=>hval q hq⟩,λq hq=>(e2r Value.oneCell' (hval q hq)).trans hz1⟩
         ·simp only[upE,d9z e]at hval⊢
          obtain⟨h3,h4⟩:=hels j hj
          exact⟨h3.congr λq hq=>hval q hq,λq hq=>(e2r Value.oneCell' (hval q hq)).trans (h4 q hq)⟩
     ·cases hv
    ·cases hv
  ·cases hv
theorem a7s (hT:bQ P T)(h:Sat B Fr E st a W){d s:AV}{vd vs:Value}(hd0:aK E W d vd)(hs0:aK E W s vs){t ty:Nat}{c:Prop}{y:AV}{st':St}(hv:a7r T t d s st=some (c,y,st'))(hc:c):
  ∃v W',(Builtin.copy_ #[t,t] ty #[vd,vs]).run P W= .ok v W'/\Sat B Fr E st' a W'/\aK E W' y v:=by
 unfold a7r at hv
 cases ht:T t with
 |none=>rw[ht]at hv;cases hv
 |some ti=>
  rw[ht]at hv
  simp only[]at hv
  split at hv
  ·rename_i e hd
   cases he:T e with
   |none=>rw[he]at hv;cases hv
   |some te=>
    rw[he]at hv
    simp only[]at hv
    cases hsrc:xP st te.size s with
    |none=>rw[hsrc]at hv;cases hv
    |some p=>
     obtain⟨cx,m,g⟩:=p
     rw[hsrc]at hv
     simp only[]at hv
     split at hv
     ·rename_i id k off n
      split at hv
      ·rename_i U k' n' f hid
       cases hb:(Nat.beq k te.size&&Nat.beq k' te.size&&Nat.blt 0 te.size)with
       |false=>rw[hb]at hv;cases hv
       |true=>
        rw[hb]at hv
        simp only[e0q,e0a,e0i]at hv
        obtain⟨rfl,rfl,rfl⟩:=hv
        simp only[e0d]at hb
        obtain rfl:=d9s hb.1.1
        have hk':=d9s hb.1.2
        have hpos:=aG.1 hb.2
        subst hk'
        obtain⟨hcx,hle,rfl⟩:=hc
        have hk:=hT t ti ht
        have hke:=hT e te he
        obtain⟨ax,capx,rfl,M,hM,hax⟩:=jR h hpos hs0 hsrc hcx
        have hshape:∃ao cap,vd= .slice ao m cap:=by
         rcases hd0 with⟨_,rfl,hr⟩|⟨b,o,cap,cc,U',_,hr,_⟩
         ·exact⟨_,_,hr⟩
         ·exact⟨_,_,hr⟩
        have hfirst:(Builtin.firstCells te.size m (.slice ax m capx)).run P W= .ok (dJ (m*te.size) M).toArray W:=by
         by_cases hm:m=0
         ·subst hm
          have e1:dJ (0*te.size) M=[]:=by simp[dJ]
          rw[e1]
          cases ax with
          |none=>exact run_firstCells_none W te.size 0 0 capx
          |some ad=>exact e7h W te.size 0 ad 0 capx [] (by simp) (by simp)
         ·obtain⟨b,p,rfl,hcell⟩:=hax hm
          refine e7h W te.size m _ m capx (dJ (m*te.size) M) (bK _ _) λj v hj=>?_
          obtain⟨h1,rfl⟩:=mN _ _ hj
          have hadd:(⟨b,p,none⟩:Addr).add j=⟨b,p+j,none⟩:=by unfold Addr.add;split<;>simp_all
          rw[hadd];exact hcell j h1
        by_cases hm:m=0
        ·subst hm
         obtain⟨ao,cap,rfl⟩:=hshape
         refine⟨.int .i64 (0:Nat),W,?_,?_,rfl⟩
         ·have e1:dJ (0*te.size) M=[]:=by simp[dJ]
          rw[e1]at hfirst
          cases ao<;>simp[Builtin.copy_,hk.und,hd,Builtin.lenOf,hke.sizeOf,hfirst,storeCells,goInt]
         ·refine h.upd (by rw[hid];simp) ?_
          have e1:mid off 0 g f=f:=by
           funext j;unfold mid;rw[d9z (by omega)]
          rw[e1];exact h.hp id _ hid
        ·rcases hd0 with⟨_,h1,_⟩|⟨b,o,cap,cc,U',hb',rfl,hn,_,hh,hs⟩
         ·exact absurd h1 hm
         ·rcases hs with⟨rfl,hsz⟩|⟨h1,_⟩
          ·rcases h.hp id _ hid with⟨h1,_⟩|⟨b2,c2,hb2,hh2,hsz2,hown,hels⟩
           ·rw[hb']at h1;cases h1
           ·rw[hb']at hb2;cases hb2
            rw[hh]at hh2;cases hh2
            have hfit:(off+m)*te.size<=cc.size:=e2h (e0v _ hle) hsz2
            have hlen:off*te.size+(dJ (m*te.size) M).length<=cc.size:=by rw[bK,<-e1s];exact hfit
            have hrr:=e5h P b (off*te.size) U (dJ (m*te.size) M) 0 cc W hh (by simpa using hlen) (λv hv=>by
             obtain⟨q,hq,rfl⟩:=e0l.1 hv
             exact vP hpos hM (e1e.1 hq))
            simp only[e2j]at hrr
            refine⟨.int .i64 m,W.setRow b (bJ cc (off*te.size) (dJ (m*te.size) M)),?_,?_,rfl⟩
            ·simp only[Builtin.copy_,e0t,e0w,e2c,d9t,hk.und,hd,d9q,Builtin.lenOf,d9u,Nat.min_self,hke.sizeOf,hfirst]
             rw[hrr];rfl
            ·refine gX h hid hb' hh hlen hsz2 ?_
             rcases kD (p:=off) hels hM hfit with h3|h3
             ·exactλj hj=>h3 j (by omega)
             ·omega
          ·omega
      ·cases hv
     ·cases hv
  ·cases hv
end
theorem wC {a b:KT}(h:wB a b=true):a=b:=by
 obtain⟨x,n,u⟩:=a
 obtain⟨y,m,v⟩:=b
 simp only[wB,e0d]at h
 obtain⟨⟨h1,h2⟩,h3⟩:=h
 obtain rfl:=d9s h1
 cases x<;>cases y<;>cases u<;>cases v<;>first|rfl|(cases h2;done)|(cases h3;done)
section
variable {P:Program} {T:Nat->Option TI} {B:Base} {Fr:Nat->Prop} {E:Env} {st:St} {a:Act} {W:World}
theorem iJ {f:Nat->AV}:∀(n j:Nat) (l:List Int),uD f j n=some l->l.length=n/\∀q,q<n->f (j+q)= .d (.v (.int .i64 (l.getD q 0)))
 |0,_,l,h=>by cases h;exact⟨rfl,λq hq=>absurd hq (e3i q)⟩
 |n+1,j,l,h=>by
  unfold uD at h
  split at h
  ·rename_i k x hx
   cases hk:IntKind.eq k .i64 with
   |false=>rw[hk]at h;cases h
   |true=>
    rw[hk]at h
    obtain rfl:=e6k hk
    simp only[e0q]at h
    split at h
    ·rename_i l' hl
     cases h
     obtain⟨h1,h2⟩:=iJ n (j+1) l' hl
     refine⟨by simp[h1],λq hq=>?_⟩
     cases q with
     |zero=>
      unfold asI at hx
      split at hx
      ·rename_i e;simp only[e0a,e0i]at hx;obtain⟨rfl,rfl⟩:=hx;exact e
      ·cases hx
     |succ q=>rw[show j+(q+1)=j+1+q by omega,h2 q (by omega)];rfl
    ·cases h
  ·cases h
theorem kF {kt:KT}{x:AV}{u:Value}{l:List Int}(hx:aK E W x u)(h:c6p kt x=some l):u=aJ kt l/\l.length=kt.n:=by
 unfold c6p at h
 unfold aJ
 cases hg:kt.ag with
 |true=>
  rw[hg]at h
  simp only at h⊢
  split at h
  ·rename_i m f hf
   cases hb:Nat.beq m kt.n with
   |false=>rw[hb]at h;cases h
   |true=>
    rw[hb]at h
    obtain rfl:=d9s hb
    obtain⟨h1,h2⟩:=iJ _ _ _ h
    obtain⟨cs,rfl,h3,h4⟩:=vE hx hf
    refine⟨?_,h1⟩
    unfold eL
    congr 1
    apply Array.ext
    ·simp[h3,h1]
    ·intro j q1 q2
     have hj:j<kt.n:=h3▸q1
     have:=h4 j hj
     have e:=h2 j hj
     rw[e0f]at e
     rw[e]at this
     have:cs.getD j undef= .int .i64 (l.getD j 0):=this
     rw[d9x,e0y q1]at this
     simp only[e2v]at this
     rw[this,d9r,e0e (by omega)]
     simp
  ·cases h
 |false=>
  rw[hg]at h
  simp only at h⊢
  cases hb:Nat.beq kt.n 1 with
  |false=>rw[hb]at h;cases h
  |true=>
   rw[hb]at h
   obtain⟨h1,h2⟩:=iJ _ _ _ h
   have e:=h2 0 (by omega)
   obtain⟨y,rfl⟩:=e2q.1 h1
   subst e
   exact⟨hx,by rw[h1,d9s hb]⟩
theorem a9g {kt:KT}{x:AV}{u:Value}{a:Int}(hx:aK E W x u)(h:d6b kt x=some a):u=jW kt a:=by
 unfold d6b at h
 unfold jW
 cases hv:kt.va with
 |false=>
  rw[hv]at h
  simp only at h⊢
  unfold asI at h
  split at h
  ·rename_i k y h1
   split at h1
   ·simp only[e0a,e0i]at h1
    obtain⟨rfl,rfl⟩:=h1
    rename_i k0 y0
    cases hb:IntKind.eq k0 .i64 with
    |false=>rw[hb]at h;cases h
    |true=>
     rw[hb]at h
     cases h
     obtain rfl:=e6k hb
     exact hx
   ·cases h1
  ·cases h
 |true=>
  rw[hv]at h
  simp only at h⊢
  split at h
  ·rename_i m f hf
   cases hb:Nat.beq m 2 with
   |false=>rw[hb]at h;cases h
   |true=>
    rw[hb]at h
    obtain rfl:=d9s hb
    simp only[e0q]at h
    split at h
    ·rename_i c d hcd
     cases h
     rw[qU,vM]
     obtain⟨h1,h2⟩:=iJ _ _ _ hcd
     obtain⟨cs,rfl,h3,h4⟩:=vE hx hf
     unfold eL
     congr 1
     apply Array.ext
     ·simp[h3]
     ·intro j q1 q2
      have hj:j<2:=h3▸q1
      have:=h4 j hj
      have e:=h2 j hj
      rw[e0f]at e
      rw[e]at this
      have:cs.getD j undef= .int .i64 ([c,d].getD j 0):=this
      rw[d9x,e0y q1]at this
      simp only[e2v]at this
      rw[this]
      match j,hj with
      |0,_=>rfl
      |1,_=>rfl
    ·cases h
  ·cases h
theorem qF {S:Nat->Prop}(kt:KT)(x:Int):Rep S W (c5p kt x) (jW kt x):=by
 unfold c5p jW
 cases kt.va with
 |false=>rfl
 |true=>
  refine⟨_,rfl,rfl,λj hj=>?_⟩
  match j,hj with
  |0,_=>exact⟨rfl,rfl⟩
  |1,_=>exact⟨rfl,rfl⟩
theorem MapOk.find {kT:Nat}{kt:KT}{m:List Int->Option Int}{es:Array MapEntry}{clock:Nat}(ho:MapOk kt m es clock)(hk:KeyOk P kT kt){l:List Int}(hl:l.length=kt.n)(w:World):
  ((Instr.findKey kT (aJ kt l) es.toList).run P w= .ok none w/\m l=none/\∀e∈es.toList,e.key≠aJ kt l)\/
  ∃j e x,(Instr.findKey kT (aJ kt l) es.toList).run P w= .ok (some (j,e.val)) w/\es[j]?=some e/\e.key=aJ kt l/\e.val=jW kt x/\m l=some x:=by
 rcases hk.fnd l es.toList w hl (λe he=>by
  obtain⟨k,_,h1,h2,_⟩:=ho.ent e he
  exact⟨k,h1,h2⟩)with⟨h1,h2⟩|⟨j,e,h1,h2,h3⟩
 ·refine .inl ⟨h1,?_,h2⟩
  cases hm:m l with
  |none=>rfl
  |some x=>
   obtain⟨_,e,he,hke⟩:=ho.all l x hm
   exact absurd hke (h2 e he)
 ·rw[e0s]at h2
  have he:e∈es.toList:=e1p.2 (Array.mem_of_getElem? h2)
  obtain⟨k,x,h4,h5,h6,h7⟩:=ho.ent e he
  obtain rfl:k=l:=keyV_inj ho.wf h4 hl (h5.symm.trans h3)
  exact .inr ⟨j,e,x,h1,h2,h3,h6,h7⟩
theorem a2w {kt:KT}(hw:kt.ag=false->kt.n=1):MapOk kt (λ_=>none) #[] 0:=
 ⟨hw,by simp,λ_ _ h=>(by cases h),by simp,by simp,by simp⟩
theorem a6i {α:Type}{l:List α}{j:Nat}{x:α}(h:l[j]?=some x):l.set j x=l:=by
 apply e3u
 intro q
 rw[e4w]
 by_cases e:j=q
 ·subst e
  rw[e0c rfl,e0c (e1l.1 h).1,h]
 ·rw[d9z e]
theorem iM {es:Array MapEntry}{j:Nat}{e:MapEntry}(hj:es[j]?=some e)(f:MapEntry->MapEntry):(es.modify j f).toList=es.toList.set j (f e):=by
 apply e3u
 intro q
 rw[e0s,Array.getElem?_modify,e4w,e0s]
 by_cases h:j=q
 ·subst h
  rw[e0c rfl,e0c rfl,hj]
  have hl:j<es.toList.length:=by rw[e1c];exact(d9w.1 hj).1
  rw[e0c hl];rfl
 ·rw[d9z h,d9z h]
theorem rU {kt:KT}{m:List Int->Option Int}{es:Array MapEntry}{clock:Nat}(ho:MapOk kt m es clock){l:List Int}(hl:l.length=kt.n){j:Nat}{e:MapEntry}(hj:es[j]?=some e)(hk:e.key=aJ kt l)(x:Int):
  MapOk kt (jV m l x) (es.modify j λe=>{e with key:=aJ kt l,val:=jW kt x}) clock:=by
 have hlist:=iM hj λe=>{e with key:=aJ kt l,val:=jW kt x}
 have hjl:es.toList[j]?=some e:=by rw[e0s];exact hj
 have he:e∈es.toList:=e1j hjl
 have hkeys:(es.toList.set j {e with key:=aJ kt l,val:=jW kt x}).map (·.key)=es.toList.map (·.key):=by
  rw[List.map_set]
  exact a6i (by rw[e0j,hjl];simp[hk])
 have hborns:(es.toList.set j {e with key:=aJ kt l,val:=jW kt x}).map (·.born)=es.toList.map (·.born):=by
  rw[List.map_set]
  exact a6i (by rw[e0j,hjl];rfl)
 have hlt:j<es.toList.length:=(e1l.1 hjl).1
 refine⟨ho.wf,?_,?_,by rw[hlist,hborns];exact ho.nd,?_,by rw[hlist,hkeys];exact ho.kn⟩
 ·intro y hy
  rw[hlist]at hy
  obtain⟨q,hq⟩:=e4e.1 hy
  rw[e4w]at hq
  split at hq
  ·rename_i hqj
   cases hq
   exact⟨l,x,hl,rfl,rfl,by simp[jV]⟩
  ·rename_i hqj
   have hy':y∈es.toList:=e1j hq
   obtain⟨k,z,h1,h2,h3,h4⟩:=ho.ent y hy'
   refine⟨k,z,h1,h2,h3,?_⟩
   have hne:k≠l:=by
    rintro rfl
    have h5:(es.toList.map (·.key))[q]?=some (aJ kt k):=by rw[e0j,hq];simp[h2]
    have h6:(es.toList.map (·.key))[j]?=some (aJ kt k):=by rw[e0j,hjl];simp[hk]
    have:=(e3l (by rw[e0z];exact hlt) ho.kn).1 (h6.trans h5.symm)
    exact hqj this
   simp[jV,hne,h4]
 ·intro k z hz
  unfold jV at hz
  split at hz
  ·rename_i hkl
   subst hkl
   refine⟨hl,{e with key:=aJ kt k,val:=jW kt x},?_,rfl⟩
   rw[hlist]
   exact e4e.2 ⟨j,by rw[e4w,e0c rfl,e0c hlt]⟩
  ·rename_i hkl
   obtain⟨h1,y,hy,hyk⟩:=ho.all k z hz
   refine⟨h1,y,?_,hyk⟩
   obtain⟨q,hq⟩:=e4e.1 hy
   rw[hlist]
   refine e4e.2 ⟨q,?_⟩
   rw[e4w,d9z,hq]
   rintro rfl
   rw[hjl]at hq;cases hq
   exact hkl (keyV_inj ho.wf h1 hl (hyk.symm.trans hk))
 ·intro y hy
  have:y.born∈(es.modify j λe=>{e with key:=aJ kt l,val:=jW kt x}).toList.map (·.born):=e0l.2 ⟨y,hy,rfl⟩
  rw[hlist,hborns]at this
  obtain⟨z,hz,e2⟩:=e0l.1 this
  rw[<-e2];exact ho.lt z hz
theorem uJ {kt:KT}{m:List Int->Option Int}{es:Array MapEntry}{clock:Nat}(ho:MapOk kt m es clock){l:List Int}(hl:l.length=kt.n)(hn:∀e∈es.toList,e.key≠aJ kt l)(x:Int):
  MapOk kt (jV m l x) (es.push {key:=aJ kt l,val:=jW kt x,born:=clock}) (clock+1):=by
 refine⟨ho.wf,?_,?_,?_,?_,?_⟩
 ·intro y hy
  rw[e7a]at hy
  rcases e0x.1 hy with hy|hy
  ·obtain⟨k,z,h1,h2,h3,h4⟩:=ho.ent y hy
   refine⟨k,z,h1,h2,h3,?_⟩
   have hne:k≠l:=λe=>hn y hy (e▸h2)
   simp[jV,hne,h4]
  ·rw[e1k]at hy;subst hy
   exact⟨l,x,hl,rfl,rfl,by simp[jV]⟩
 ·intro k z hz
  rw[e7a]
  unfold jV at hz
  split at hz
  ·rename_i hkl;subst hkl
   exact⟨hl,_,e0n _ (e1k.2 rfl),rfl⟩
  ·obtain⟨h1,y,hy,h2⟩:=ho.all k z hz
   exact⟨h1,y,e0p _ hy,h2⟩
 ·rw[e7a,e1z,e6h]
  refine⟨ho.nd,by simp,λb hb c hc=>?_⟩
  obtain⟨y,hy,rfl⟩:=e0l.1 hb
  simp at hc;subst hc
  have:=ho.lt y hy;omega
 ·intro y hy
  rw[e7a]at hy
  rcases e0x.1 hy with hy|hy
  ·have:=ho.lt y hy;omega
  ·rw[e1k]at hy;subst hy;simp
 ·rw[e7a,e1z,e6h]
  refine⟨ho.kn,by simp,λb hb c hc=>?_⟩
  obtain⟨y,hy,rfl⟩:=e0l.1 hb
  simp at hc;subst hc
  exact hn y hy
theorem rT {kt:KT}{m:List Int->Option Int}{es:Array MapEntry}{clock:Nat}(ho:MapOk kt m es clock){l:List Int}(hl:l.length=kt.n){j:Nat}{e:MapEntry}(hj:es[j]?=some e)(hk:e.key=aJ kt l):
  MapOk kt (a1u m l) (es.eraseIdxIfInBounds j) clock:=by
 have hlist:(es.eraseIdxIfInBounds j).toList=es.toList.eraseIdx j:=by
  have hlt:=(d9w.1 hj).1
  simp[Array.eraseIdxIfInBounds,hlt,e6x]
 have hjl:es.toList[j]?=some e:=by rw[e0s];exact hj
 have hlt:j<es.toList.length:=(e1l.1 hjl).1
 have hsub:(es.toList.eraseIdx j).Sublist es.toList:=e6u ..
 have hmem:∀y,y∈es.toList.eraseIdx j↔y∈es.toList/\y.key≠aJ kt l:=by
  intro y
  constructor
  ·intro hy
   obtain⟨q,hq,hqj⟩:=e5b.1 hy
   refine⟨e1j hqj,λe2=>?_⟩
   have h5:(es.toList.map (·.key))[q]?=some (aJ kt l):=by rw[e0j,hqj];simp[e2]
   have h6:(es.toList.map (·.key))[j]?=some (aJ kt l):=by rw[e0j,hjl];simp[hk]
   exact hq ((e3l (by rw[e0z];exact hlt) ho.kn).1 (h6.trans h5.symm)).symm
  ·rintro⟨hy,hne⟩
   obtain⟨q,hq⟩:=e4e.1 hy
   refine e5b.2 ⟨q,?_,hq⟩
   rintro rfl
   rw[hjl]at hq;cases hq;exact hne hk
 refine⟨ho.wf,?_,?_,?_,?_,?_⟩
 ·intro y hy
  rw[hlist,hmem]at hy
  obtain⟨k,z,h1,h2,h3,h4⟩:=ho.ent y hy.1
  refine⟨k,z,h1,h2,h3,?_⟩
  have hne:k≠l:=by rintro rfl;exact hy.2 h2
  simp[a1u,hne,h4]
 ·intro k z hz
  unfold a1u at hz
  split at hz
  ·cases hz
  ·rename_i hkl
   obtain⟨h1,y,hy,h2⟩:=ho.all k z hz
   refine⟨h1,y,?_,h2⟩
   rw[hlist,hmem]
   exact⟨hy,λe2=>hkl (keyV_inj ho.wf h1 hl (h2.symm.trans e2))⟩
 ·rw[hlist];exact(hsub.map _).nodup ho.nd
 ·intro y hy
  rw[hlist]at hy
  exact ho.lt y (hsub.subset hy)
 ·rw[hlist];exact(hsub.map _).nodup ho.kn
theorem uK {kt:KT}{m:List Int->Option Int}{es:Array MapEntry}{clock:Nat}(ho:MapOk kt m es clock){l:List Int}(hn:m l=none):MapOk kt (a1u m l) es clock:=by
 have:a1u m l=m:=by
  funext k
  unfold a1u
  split
  ·rename_i h;rw[h,hn]
  ·rfl
 rw[this];exact ho
theorem aH {r:Nat}{o:Obj}(h:W.heap[r]?=some o)(hs:∀c T f,o≠ .cells c T f:=by simp):(getObj r).run P W= .ok o W:=by
 cases o<;>first|exact absurd rfl (hs _ _ _)|simp[getObj,Sem.run,h]
theorem aU {r:Nat}{o o':Obj}(h:W.heap[r]?=some o)(hs:∀c T f,o≠ .cells c T f)(_:∀ds,o≠ .deferred ds):(setObj r o').run P W= .ok () (W.putObj r o'):=by
 simp only[setObj,Sem.run,h];rfl
theorem oW:∀(l:List Int),((l.map (Value.int .i64)).zip (l.map (Value.int .i64))).all (λp=>Instr.sameBits 9999 p.1 p.2)=true
 |[]=>rfl
 |x::l=>by
  simp only[e0o,List.zip_cons_cons,List.all_cons,e0d]
  exact⟨by simp[Instr.sameBits],oW l⟩
theorem a5f (kt:KT)(l:List Int):(Instr.keyThatStays (aJ kt l) (aJ kt l)).run P W= .ok (aJ kt l) W:=by
 have:Instr.sameBits 10000 (aJ kt l) (aJ kt l)=true:=by
  unfold aJ
  cases kt.ag with
  |true=>
   simp only[eL]
   have:=oW l
   simp only[Instr.sameBits,beq_self_eq_true,Bool.true_and]
   exact this
  |false=>simp[Instr.sameBits]
 unfold Instr.keyThatStays
 rw[e0c this];rfl
theorem fV (hT:bQ P T){t:Nat}{kt:KT}(h:kmp T t=some kt):d1e P t kt:=by
 unfold kmp at h
 split at h
 ·rename_i ti ht;exact(hT t ti ht).mp kt h
 ·cases h
theorem wL (hT:bQ P T)(h:Sat B Fr E st a W){i:Nat}(hf:Fr i){ρ:Operand->Value}(o:Oper){t:Nat}(ho:o.op= .makeMap t none){c:Prop}{x:AV}{st':St}(hv:iL T i t st=some (c,x,st')):
  cT P B Fr i st' a W ρ o x:=by
 unfold iL at hv
 split at hv
 ·rename_i kt hk
  cases hv
  obtain⟨kT,eT,hu,hko,_⟩:=fV hT hk
  refine⟨E.set i (.at W.heap.size),_,.map (some W.heap.size),W.alloc (.map #[] 0),?_,.inl rfl,h.newO hf ⟨W.heap.size,#[],0,aF _ _ _,dZ _ _,mH h _ _,a2w hko.wf⟩,⟨W.heap.size,aF _ _ _,rfl⟩⟩
  simp only[execOp,ho,e4m,Instr.makeMap,d9t,d9u]
  rfl
 ·cases hv
theorem a0u (hT:bQ P T)(h:Sat B Fr E st a W){m k v:AV}{um uk uv:Value}(hm:aK E W m um)(hk:aK E W k uk)(hx:aK E W v uv){t:Nat}{c:Prop}{x:AV}{st':St}(hv:b9w T t m k v st=some (c,x,st')):
  ∃W',(Instr.mapUpdate t um uk uv).run P W= .ok () W'/\Sat B Fr E st' a W'/\x= .d .top:=by
 unfold b9w at hv
 split at hv
 ·rename_i kt id h1
  split at hv
  ·rename_i kt' f l y hid hl h2
   cases hb:wB kt kt' with
   |false=>rw[hb]at hv;cases hv
   |true=>
    rw[hb]at hv
    obtain rfl:=wC hb
    simp only[e0q,e0a,e0i]at hv
    obtain⟨-,rfl,rfl⟩:=hv
    obtain⟨kT,eT,hu,hko,_⟩:=fV hT h1
    obtain⟨b,hb',rfl⟩:=hm
    obtain⟨b2,es,clock,hb2,hh,hown,hmo⟩:=h.hp id _ hid
    rw[hb']at hb2;cases hb2
    have hown':¬E.S b/\B.ow b:=hown
    obtain⟨rfl,hlen⟩:=kF hk hl
    have huv:uv=jW kt y:=a9g hx h2
    subst huv
    have hpre:∀K:Option (Nat×Value)->Sem Unit,((do
      let .map keyType _ <-underlying t|stuck "MapUpdate: map type expected"
      let .map es clock <-getObj b|stuck "MapUpdate: map expected"
      Instr.checkKey false 10000 keyType (aJ kt l)
      K (<-Instr.findKey keyType (aJ kt l) es.toList)):Sem Unit).run P W=((Instr.findKey kT (aJ kt l) es.toList).run P W).andThen λr w'=>(K r).run P w':=by
     intro K
     simp only[d9t,e0k hu,aH hh,d9q,hko.chk false l W hlen]
    have hfin:∀es' clock',MapOk kt (jV f l y) es' clock'->Sat B Fr E (st.set id (some (.mp true kt (jV f l y)))) a (W.putObj b (.map es' clock')):=by
     intro es' clock' ho'
     refine h.writeO (by rw[hid];simp) hb' hh (by simp) (by simp) hown' ⟨b,es',clock',hb',e2z (d9w.1 hh).1,hown,ho'⟩
    rcases hmo.find hko hlen W with⟨hf,hn,hne⟩|⟨j,e,z,hf,hj,hke,hev,hfl⟩
    ·refine⟨_,?_,hfin _ _ (uJ hmo hlen hne y),rfl⟩
     simp only[Instr.mapUpdate,d9t,e0k hu,aH hh,d9q,hko.chk false l W hlen,hf]
     exact aU hh (by simp) (by simp)
    ·refine⟨_,?_,hfin _ _ (rU hmo hlen hj hke y),rfl⟩
     simp only[Instr.mapUpdate,d9t,e0k hu,aH hh,d9q,hko.chk false l W hlen,hf,hj,e1y,e2v,hke,a5f]
     exact aU hh (by simp) (by simp)
  ·cases hv
 ·cases hv
theorem b0z (hT:bQ P T)(h:Sat B Fr E st a W){m k:AV}{um uk:Value}(hm:aK E W m um)(hk:aK E W k uk){t u ty:Nat}{c:Prop}{x:AV}{st':St}(hv:c6n T t m k st=some (c,x,st')):
  ∃W',(Builtin.delete_ #[t,u] ty #[um,uk]).run P W= .ok (.tuple #[]) W'/\Sat B Fr E st' a W'/\x= .d .top:=by
 unfold c6n at hv
 split at hv
 ·rename_i kt id h1
  split at hv
  ·rename_i kt' f l hid hl
   cases hb:wB kt kt' with
   |false=>rw[hb]at hv;cases hv
   |true=>
    rw[hb]at hv
    obtain rfl:=wC hb
    simp only[e0q,e0a,e0i]at hv
    obtain⟨-,rfl,rfl⟩:=hv
    obtain⟨kT,eT,hu,hko,_⟩:=fV hT h1
    obtain⟨b,hb',rfl⟩:=hm
    obtain⟨b2,es,clock,hb2,hh,hown,hmo⟩:=h.hp id _ hid
    rw[hb']at hb2;cases hb2
    have hown':¬E.S b/\B.ow b:=hown
    obtain⟨rfl,hlen⟩:=kF hk hl
    have hfin:∀es' clock',MapOk kt (a1u f l) es' clock'->Sat B Fr E (st.set id (some (.mp true kt (a1u f l)))) a (W.putObj b (.map es' clock')):=by
     intro es' clock' ho'
     refine h.writeO (by rw[hid];simp) hb' hh (by simp) (by simp) hown' ⟨b,es',clock',hb',e2z (d9w.1 hh).1,hown,ho'⟩
    rcases hmo.find hko hlen W with⟨hf,hn,hne⟩|⟨j,e,z,hf,hj,hke,hev,hfl⟩
    ·refine⟨_,?_,hfin _ _ (uK hmo hn),rfl⟩
     simp only[Builtin.delete_,e0t,e0w,e2c,d9t,e0k hu,aH hh,d9q,hko.chk es.isEmpty l W hlen,hf]
     rw[aU hh (by simp) (by simp)];rfl
    ·refine⟨_,?_,hfin _ _ (rT hmo hlen hj hke),rfl⟩
     simp only[Builtin.delete_,e0t,e0w,e2c,d9t,e0k hu,aH hh,d9q,hko.chk es.isEmpty l W hlen,hf]
     rw[aU hh (by simp) (by simp)];rfl
  ·cases hv
 ·cases hv
theorem a8h (h:Sat B Fr E st a W){m:AV}{um:Value}(hm:aK E W m um){kt:KT}{f:List Int->Option Int}{co:Bool}(hv:b2q st co m=some (kt,f)):∃r es clock f',um= .map (some r)/\W.heap[r]?=some (.map es clock)/\MapOk kt f' es clock/\(∀l,(f' l).getD 0=(f l).getD 0)/\(co=true->f'=f):=by
 unfold b2q at hv
 split at hv
 ·rename_i id
  split at hv
  ·rename_i hid
   cases hv
   obtain⟨b,hb',rfl⟩:=hm
   obtain⟨b2,es,clock,hb2,hh,_,hmo⟩:=h.hp id _ hid
   rw[hb']at hb2;cases hb2
   exact⟨b,es,clock,f,rfl,hh,hmo,λ_=>rfl,λ_=>rfl⟩
  ·rename_i mt kt' f0 l0 g0 hid
   split at hv
   ·cases hv
   ·cases hv
    obtain⟨b,hb',rfl⟩:=hm
    obtain⟨b2,es,clock,hb2,hh,_,hmo,_⟩:=h.hp id _ hid
    rw[hb']at hb2;cases hb2
    refine⟨b,es,clock,_,rfl,hh,hmo,λl=>?_,λe=>by cases e⟩
    unfold jV
    by_cases e:l=l0
    ·subst e;rw[e0c rfl];rfl
    ·rw[d9z e]
  ·cases hv
 ·cases hv
  obtain⟨r,es,clock,rfl,_,hh,hmo⟩:=hm
  exact⟨r,es,clock,f,rfl,hh,hmo,λ_=>rfl,λ_=>rfl⟩
 ·cases hv
theorem a8j (hT:bQ P T)(h:Sat B Fr E st a W){m k:AV}{um uk:Value}(hm:aK E W m um)(hk:aK E W k uk){t:Nat}{co:Bool}{c:Prop}{x:AV}{st':St}(hv:pM T t m k co st=some (c,x,st')):
  ∃v,(Instr.lookup t um uk co).run P W= .ok v W/\aK E W x v/\st'=st:=by
 unfold pM at hv
 split at hv
 ·rename_i kt kt' f h1 h2
  split at hv
  ·rename_i l hl
   cases hb:wB kt kt' with
   |false=>rw[hb]at hv;cases hv
   |true=>
    rw[hb]at hv
    obtain rfl:=wC hb
    simp only[e0q,e0a,e0i]at hv
    obtain⟨-,rfl,rfl⟩:=hv
    obtain⟨kT,eT,hu,hko,hz⟩:=fV hT h1
    obtain⟨r,es,clock,f',rfl,hh,hmo,hff,hco⟩:=a8h h hm h2
    obtain⟨rfl,hlen⟩:=kF hk hl
    have key:∃v0,(Instr.lookup t (.map (some r)) (aJ kt l) co).run P W= .ok (if co then .tuple #[jW kt v0,.bool (f' l).isSome]else jW kt v0) W/\v0=(f l).getD 0:=by
     rw[<-hff l]
     rcases hmo.find hko hlen W with⟨hf,hn,hne⟩|⟨j,e,z,hf,hj,hke,hev,hfl⟩
     ·refine⟨0,?_,by rw[hn];rfl⟩
      simp only[Instr.lookup,d9t,e0k hu,aH hh,d9q,hko.chk es.isEmpty l W hlen,hf,hz,d9u,hn]
      cases co<;>rfl
     ·refine⟨z,?_,by rw[hfl];rfl⟩
      simp only[Instr.lookup,d9t,e0k hu,aH hh,d9q,hko.chk es.isEmpty l W hlen,hf,d9u,hev,hfl]
      cases co<;>rfl
    obtain⟨v0,hr,rfl⟩:=key
    refine⟨_,hr,?_,rfl⟩
    cases co with
    |false=>exact qF kt _
    |true=>
     rw[hco rfl]
     refine⟨_,rfl,rfl,λj hj=>?_⟩
     match j,hj with
     |0,_=>exact qF kt _
     |1,_=>rfl
  ·cases hv
 ·cases hv
theorem tH (hT:bQ P T)(h:Sat B Fr E st a W){i:Nat}(hf:Fr i){ρ:Operand->Value}(hev:∀x,aK E W (st.ev x) (ρ x))(o:Oper){t:Nat}{y:Operand}(ho:o.op= .range t y){c:Prop}{x:AV}{st':St}(hv:fL T i t (st.ev y) st=some (c,x,st')):
  cT P B Fr i st' a W ρ o x:=by
 unfold fL at hv
 split at hv
 ·rename_i kt0 h1
  obtain⟨kT,eT,hu,_,_⟩:=fV hT h1
  have fin:∀{E1:Env} {st1:St} {kt:KT} {f:List Int->Option Int} {r:Nat} {es:Array MapEntry} {clock:Nat},Sat B Fr E1 st1 a W->ρ y= .map (some r)->E1.S r->W.heap[r]?=some (.map es clock)->MapOk kt f es clock->
    cT P B Fr i (st1.set i (some (.it true kt f [] none))) a W ρ o (.ref i 0):=by
   intro E1 st1 kt f r es clock hs hy hS hh hmo
   have hrl:r<W.heap.size:=(d9w.1 hh).1
   refine⟨E1.set i (.at W.heap.size),_,.pointer (some ⟨W.heap.size,0,none⟩),W.alloc (.mapIter (some r) clock #[] clock),?_,.inl rfl,hs.newO hf ?_,⟨W.heap.size,aF _ _ _,rfl⟩⟩
   ·simp only[execOp,ho,hy,Instr.range,d9t,e0k hu,aH hh,d9q,d9u]
    rfl
   ·refine⟨W.heap.size,r,es,clock,#[],aF _ _ _,dZ _ _,mH hs _ _,hS,?_,hmo,λe _=>⟨λhx=>by simp at hx,λ⟨k,hk,_⟩=>by cases hk⟩,λk x hx=>by cases hx⟩
    show(W.heap.push _)[r]?=_
    rw[Array.getElem?_push,d9z (by omega)];exact hh
  split at hv
  ·rename_i kt f hy
   cases hv
   have:=hev y
   rw[hy]at this
   obtain⟨r,es,clock,h2,h3,h4,h5⟩:=this
   exact fin h h2 h3 h4 h5
  ·rename_i id hy
   split at hv
   ·rename_i mt kt f hid
    cases hv
    have:=hev y
    rw[hy]at this
    obtain⟨b,hb,h2⟩:=this
    obtain⟨b2,es,clock,hb2,hh,_,hmo⟩:=h.hp id _ hid
    rw[hb]at hb2;cases hb2
    have hfr:=h.frz hid
    have e:st.frz id=st.set id (some (Res.mp mt kt f).imm):=by unfold St.frz;rw[hid]
    rw[e]
    exact fin hfr h2 (.inr hb) hh hmo
   ·cases hv
  ·cases hv
 ·cases hv
theorem a5e {S:Nat->Prop}(kt:KT)(l:List Int)(hl:l.length=kt.n):Rep S W (c8c kt l) (aJ kt l):=by
 unfold c8c aJ
 cases kt.ag with
 |true=>
  refine⟨_,rfl,by simp[hl],λj hj=>?_⟩
  have:((l.map (Value.int .i64)).toArray).getD j undef= .int .i64 (l.getD j 0):=by
   rw[d9x,e0t,e0j,e0e (by omega),d9r,e0e (by omega)]
   rfl
  rw[this]
  exact⟨by show Rep S W (b8r l j) _;rw[b3c];rfl,rfl⟩
 |false=>cases l<;>exact rfl
theorem a2a (h:Sat B Fr E st a W){y:AV}{u:Value}(hy:aK E W y u){c:Prop}{x:AV}{st':St}(hv:qX y st=some (c,x,st')):
  ∃v,(Instr.entry u).run P W= .ok v W/\aK E W x v/\st'=st:=by
 unfold qX at hv
 split at hv
 ·rename_i id
  split at hv
  ·rename_i mt kt f seen l z hid
   cases hv
   obtain⟨b,hb,rfl⟩:=hy
   obtain⟨b2,r,es,clock,sn,hb2,hh,_,_,hm,hmo,_,hcur⟩:=h.hp id _ hid
   rw[hb]at hb2;cases hb2
   obtain⟨hlen,e,sn',rfl,he,hk,hx⟩:=hcur l z rfl
   have hrun:=run_entry_at (P:=P) W b r clock sn' es clock e hh hm he hmo.nd
   refine⟨_,hrun,?_,rfl⟩
   refine⟨_,rfl,rfl,λj hj=>?_⟩
   match j,hj with
   |0,_=>
    show Rep E.S W (c8c kt l) e.key
    rw[hk]
    exact a5e kt l hlen
   |1,_=>show Rep E.S W (c5p kt z) e.val;rw[hx];exact qF kt z
  ·cases hv
 ·cases hv
theorem mO {α β:Type}{f:α->β}{l:List α}(h:(l.map f).Nodup){x y:α}(hx:x∈l)(hy:y∈l)(e:f x=f y):x=y:=by
 obtain⟨i,hi⟩:=e4e.1 hx
 obtain⟨j,hj⟩:=e4e.1 hy
 have h1:(l.map f)[i]?=some (f x):=by rw[e0j,hi];rfl
 have h2:(l.map f)[j]?=some (f x):=by rw[e0j,hj,e];rfl
 have:=(e3l (by rw[e0z];exact(e1l.1 hi).1) h).1 (h1.trans h2.symm)
 subst this
 rw[hi]at hj;cases hj;rfl
theorem a8s (h:Sat B Fr E st a W){id:Nat}{u:Value}(hy:aK E W (.ref id 0) u){kt:KT}{f:List Int->Option Int}{seen:List (List Int)}{cur:Option (List Int×Int)}(hid:st.hp id=some (.it true kt f seen cur))(ty:Nat):
  ((Instr.next u false ty).run P W= .ok (.tuple #[.bool false]) W/\∀k x,f k=some x->k∈seen)\/
  ∃k x W',f k=some x/\k∉seen/\k.length=kt.n/\(Instr.next u false ty).run P W= .ok (.tuple #[.bool true,aJ kt k,jW kt x]) W'/\Sat B Fr E (st.set id (some (.it true kt f (k::seen) (some (k,x))))) a W':=by
 obtain⟨b,hb,rfl⟩:=hy
 obtain⟨b2,r,es,clock,sn,hb2,hh,hown,hS,hm,hmo,hseen,hcur⟩:=h.hp id _ hid
 rw[hb]at hb2;cases hb2
 have hown':¬E.S b/\B.ow b:=hown
 have hbr:r≠b:=λe=>hown'.1 (e▸hS)
 rcases run_next_at (P:=P) W ty b r clock clock sn es clock hh hm (λx hx=>hmo.lt x hx) (e0g _)with⟨h1,h2⟩|⟨e,he,W1,hW1,h2⟩
 ·refine .inl ⟨h2,λk x hk=>?_⟩
  obtain⟨hlen,e,he,hke⟩:=hmo.all k x hk
  have:e.born∈sn:=by
   cases hc:sn.contains e.born with
   |true=>exact e6q.1 hc
   |false=>
    exfalso
    have:e∈leftOf es sn:=by
     unfold leftOf
     rw[e6m]
     exact⟨e1p.1 he,by rw[hc];rfl⟩
    have h3:=Array.size_pos_of_mem this
    omega
  obtain⟨k',hk',hl',hke'⟩:=(hseen e he).1 this
  rw[keyV_inj hmo.wf hlen hl' (hke.symm.trans hke')];exact hk'
 ·right
  have he':=e1p.1 he
  unfold leftOf at he'
  rw[e6m]at he'
  obtain⟨hes,hns⟩:=he'
  have hes':e∈es.toList:=e1p.2 hes
  have hns':e.born∉sn:=λhc=>by rw[e6q.2 hc]at hns;cases hns
  obtain⟨k,x,hlen,hkey,hval,hfk⟩:=hmo.ent e hes'
  have hsW1:Sat B Fr E st a W1:=by
   rcases hW1 with rfl|rfl
   ·exact h
   ·exact h.drew
  have hh1:W1.heap[b]?=some (.mapIter (some r) clock sn clock):=by rcases hW1 with rfl|rfl<;>exact hh
  have hm1:W1.heap[r]?=some (.map es clock):=by rcases hW1 with rfl|rfl<;>exact hm
  have hlt:b<W1.heap.size:=(d9w.1 hh1).1
  rw[hkey,hval]at h2
  refine⟨k,x,_,hfk,λhks=>hns' ((hseen e hes').2 ⟨k,hks,hlen,hkey⟩),hlen,h2,?_⟩
  refine hsW1.writeO (o':= .mapIter (some r) clock (sn.push e.born) clock) (by rw[hid];simp) hb hh1 (by simp) (by simp) hown' ?_
  refine⟨b,r,es,clock,sn.push e.born,hb,e2z hlt,hown,hS,(e1x hbr).trans hm1,hmo,λe2 he2=>?_,λk2 x2 hk2=>?_⟩
  ·constructor
   ·intro hx
    rcases Array.mem_push.1 hx with hx|hx
    ·obtain⟨k',h3,h4⟩:=(hseen e2 he2).1 hx
     exact⟨k',d9v _ h3,h4⟩
    ·obtain rfl:=mO hmo.nd he2 hes' hx
     exact⟨k,d9y ..,hlen,hkey⟩
   ·rintro⟨k',hk',hl',hke'⟩
    rcases e0b.1 hk' with rfl|hk'
    ·obtain rfl:=mO hmo.kn he2 hes' (hke'.trans hkey.symm)
     exact Array.mem_push_self
    ·exact Array.mem_push_of_mem _ ((hseen e2 he2).2 ⟨k',hk',hl',hke'⟩)
  ·cases hk2
   exact⟨hlen,e,sn,rfl,hes',hkey,hval⟩
theorem tJ (hT:bQ P T)(h:Sat B Fr E st a W){t:Nat}{y:AV}{u:Value}(hy:aK E W y u){c:Prop}{x:AV}{st':St}(hv:gY T t y st=some (c,x,st'))(hc:c):
  ∃v,(Instr.sliceAt t u none none none).run P W= .ok v W/\aK E W x v/\st'=st:=by
 unfold gY at hv
 split at hv
 ·rename_i ti ht
  split at hv
  ·rename_i len e hd
   cases he:T e with
   |none=>rw[he]at hv;cases hv
   |some te=>
    rw[he]at hv
    simp only at hv
    cases h1:Nat.beq te.size 1 with
    |false=>rw[h1]at hv;cases hv
    |true=>
     rw[h1]at hv
     simp only[e0q]at hv
     have hts:=d9s h1
     split at hv
     ·rename_i id k i
      split at hv
      ·rename_i mt U k' n f hid
       cases h2:Nat.beq k k' with
       |false=>rw[h2]at hv;cases hv
       |true=>
        rw[h2]at hv
        obtain rfl:=d9s h2
        simp only[e0q]at hv
        obtain⟨b,hb,rfl⟩:=hy
        have hk:=hT t ti ht
        have hke:=hT e te he
        have hrun:(Instr.sliceAt t (.pointer (some ⟨b,i*k+0,none⟩)) none none none).run P W= .ok (.slice (some ⟨b,i*k,none⟩) len len) W:=by
         have hadd:(⟨b,i*k,none⟩:Addr).add 0=⟨b,i*k,none⟩:=by unfold Addr.add;split<;>simp_all
         simp only[Instr.sliceAt,d9t,hk.und,hd,d9q,Instr.sureAddr,Instr.sliceBounds,d9u,hke.sizeOf]
         by_cases h0:len=0
         ·simp[h0]
         ·simp[h0,hadd]
        refine⟨_,hrun,?_⟩
        rcases h.hp id _ hid with⟨h3,_⟩|⟨b2,cc,hb2,hh,hsz,_⟩
        ·rw[hb]at h3;cases h3
        ·rw[hb]at hb2;cases hb2
         cases hk1:Nat.beq k 1 with
         |true=>
          rw[hk1]at hv
          obtain rfl:=d9s hk1
          simp only[e0q]at hv
          cases hml:Nat.ble len 65536 with
          |false=>rw[hml]at hv;cases hv
          |true=>
           rw[hml]at hv
           simp only[e0q,e0a,e0i]at hv
           obtain⟨rfl,rfl,rfl⟩:=hv
           obtain⟨rfl,rfl⟩:=hc
           have:=e1n hml
           refine⟨.inr ⟨b,0,n,cc,U,hb,by simp,e0g _,e2h this (by decide),hh,.inl ⟨by simp,by omega⟩⟩,rfl⟩
         |false=>
          rw[hk1]at hv
          simp only[e2n]at hv
          cases hk2:Nat.beq k len with
          |false=>rw[hk2]at hv;cases hv
          |true=>
           rw[hk2]at hv
           obtain rfl:=d9s hk2
           simp only[e0q,e0a,e0i]at hv
           obtain⟨rfl,rfl,rfl⟩:=hv
           exact⟨⟨b,hb,rfl⟩,rfl⟩
      ·cases hv
     ·cases hv
  ·cases hv
 ·cases hv
theorem wZ (hT:bQ P T)(h:Sat B Fr E st a W){ρ:Operand->Value}(hev:∀x,aK E W (st.ev x) (ρ x)){t:Nat}{y:AV}{u:Value}(hy:aK E W y u){hi:Operand}{hv':Int}(hhi:pP st.ev (some hi)=some (some hv')){c:Prop}{x:AV}{st':St}(hv:kQ T t y hv' st=some (c,x,st'))(hc:c):
  ∃v,(Instr.sliceAt t u none (some (ρ hi)) none).run P W= .ok v W/\aK E W x v/\st'=st:=by
 unfold kQ at hv
 split at hv
 ·rename_i ti ht
  split at hv
  ·rename_i len e hd
   cases he:T e with
   |none=>rw[he]at hv;cases hv
   |some te=>
    rw[he]at hv
    simp only at hv
    cases h1:Nat.beq te.size 1 with
    |false=>rw[h1]at hv;cases hv
    |true=>
     rw[h1]at hv
     simp only[e0q]at hv
     have hts:=d9s h1
     split at hv
     ·rename_i id k i
      split at hv
      ·rename_i mt U k' n f hid
       cases h2:(Nat.beq k k'&&Nat.beq k 1&&Nat.ble len 65536)with
       |false=>rw[h2]at hv;cases hv
       |true=>
        rw[h2]at hv
        simp only[e0d]at h2
        obtain rfl:=d9s h2.1.1
        obtain rfl:=d9s h2.1.2
        have hml:=e1n h2.2
        simp only[e0q,e0a,e0i]at hv
        obtain⟨rfl,rfl,rfl⟩:=hv
        obtain⟨rfl,rfl,hc1,hc2⟩:=hc
        obtain⟨b,hb,rfl⟩:=hy
        have hk:=hT t ti ht
        have hke:=hT e te he
        have hbn:=dQ (P:=P) (W:=W) (isS:=false) (len:=n) (cap:=n) (nW hev (x:=none) rfl) (nW hev hhi) (nW hev (x:=none) rfl) (by rintro i e;cases e) (by rintro i e;cases e;simp only[oI];omega) (by rintro i e;cases e)
        simp only[e1y,e4m]at hbn
        have hrun:(Instr.sliceAt t (.pointer (some ⟨b,0*1+0,none⟩)) none (some (ρ hi)) none).run P W= .ok (.slice (some ⟨b,0,none⟩) hv'.toNat n) W:=by
         have hadd:(⟨b,0,none⟩:Addr).add 0=⟨b,0,none⟩:=by unfold Addr.add;split<;>simp_all
         simp only[Instr.sliceAt,d9t,hk.und,hd,d9q,Instr.sureAddr,d9u,hbn,hke.sizeOf,oN]
         by_cases h0:n=0
         ·simp[h0]
         ·simp[h0,hadd]
        refine⟨_,hrun,?_,rfl⟩
        rcases h.hp id _ hid with⟨h3,_⟩|⟨b2,cc,hb2,hh,hsz,_⟩
        ·rw[hb]at h3;cases h3
        ·rw[hb]at hb2;cases hb2
         exact .inr ⟨b,0,n,cc,U,hb,rfl,by omega,e2h hml (by decide),hh,.inl ⟨by simp,by omega⟩⟩
      ·cases hv
     ·cases hv
  ·cases hv
 ·cases hv
theorem Sat.fr_none (h:Sat B Fr E st a W){i:Nat}(hf:Fr i):st.hp i=none:=by
 cases hr:st.hp i with
 |none=>rfl
 |some r=>
  exfalso
  have hu:=h.fr i hf
  have:=h.hp i r hr
  cases r with
  |cs mt n f=>obtain⟨b,c,T,h1,_⟩:=this;rw[hu]at h1;cases h1
  |row mt T k n f=>
   rcases this with⟨h1,_⟩|⟨b,c,h1,_⟩<;>(rw[hu]at h1;cases h1)
  |mp mt kt m=>obtain⟨b,es,c,h1,_⟩:=this;rw[hu]at h1;cases h1
  |it mt kt m seen cur=>obtain⟨b,r,es,c,sn,h1,_⟩:=this;rw[hu]at h1;cases h1
  |me mt kt m l g=>obtain⟨b,es,c,h1,_⟩:=this;rw[hu]at h1;cases h1
theorem Sat.ghost (h:Sat B Fr E st a W){i:Nat}(hf:Fr i)(lo:Loc):Sat B (λj=>Fr j/\j≠i) (E.set i lo) st a W:=by
 have hun:=h.fr i hf
 have hno:=h.fr_none hf
 have hev:Ev E W (E.set i lo) W:=Ev.set hun
 have hne:∀j,j≠i->(E.set i lo).ρ j=E.ρ j:=λj e=>by show(bif Nat.beq j i then _ else _)=_;rw[cG e];rfl
 have hji:∀j,st.hp j≠none->j≠i:=λj hj e=>hj (e▸hno)
 refine⟨h.size,λj hj=>(h.tm j hj).ev hev,λj r' hj=>(h.hp j r' hj).ev hev (λ_ _=>rfl) (λ_ _ _ hn=>hn),λj k b hj hk h1 h2=>?_,λj hj=>?_,h.sub,h.sup,h.s0,h.df,h.dn,h.dd,h.g,hev.r0 h.r0⟩
 ·rw[hne j (hji j hj)]at h1;rw[hne k (hji k hk)]at h2
  exact h.dist j k b hj hk h1 h2
 ·rw[hne j hj.2];exact h.fr j hj.1
theorem iO {es:Array MapEntry}{j:Nat}{e:MapEntry}(hj:es[j]?=some e){f g:MapEntry->MapEntry}(h:f e=g e):es.modify j f=es.modify j g:=by
 rw[<-e2w,iM hj,iM hj,h]
theorem a8o (hT:bQ P T)(h:Sat B Fr E st a W){i:Nat}(hf:Fr i){ρ:Operand->Value}(hev:∀x,aK E W (st.ev x) (ρ x))(o:Oper){t:Nat}{m k:Operand}(ho:o.op= .mapEntry t m k){c:Prop}{x:AV}{st':St}(hv:zG T i t (st.ev m) (st.ev k) st=some (c,x,st')):
  cT P B Fr i st' a W ρ o x:=by
 have hm:=hev m
 have hk:=hev k
 unfold zG at hv
 split at hv
 ·rename_i kt id h1 h2
  rw[h2]at hm
  split at hv
  ·rename_i kt' f l hid hl
   cases hb:(wB kt kt'&& !kt.va)with
   |false=>rw[hb]at hv;cases hv
   |true=>
    rw[hb]at hv
    rw[e0d]at hb
    obtain rfl:=wC hb.1
    have hva:kt.va=false:=by have:=hb.2;revert this;cases kt.va<;>simp
    have hvv:∀x,jW kt x= .int .i64 x:=λx=>by unfold jW;rw[hva]
    simp only[e0q,e0a,e0i]at hv
    obtain⟨-,rfl,rfl⟩:=hv
    obtain⟨kT,eT,hu,hko,hz⟩:=fV hT h1
    simp only[hvv]at hz
    obtain⟨b,hb',hum⟩:=hm
    obtain⟨b2,es,clock,hb2,hh,hown,hmo⟩:=h.hp id _ hid
    rw[hb']at hb2;cases hb2
    have hown':¬E.S b/\B.ow b:=hown
    obtain⟨huk,hlen⟩:=kF hk hl
    have hun:=h.fr i hf
    have hidi:id≠i:=λe=>by rw[e]at hb';rw[hun]at hb';cases hb'
    have fin:∀(es':Array MapEntry) (clock' v0:_) (e:MapEntry),MapOk kt (jV f l ((f l).getD 0)) es' clock'->e∈es'.toList->e.key=aJ kt l->(f l).getD 0=v0->
      (Instr.mapEntry t (.map (some b)) (aJ kt l)).run P W= .ok (.tuple #[.int .i64 v0,.int .i64 e.born]) (W.putObj b (.map es' clock'))->
      cT P B Fr i (st.set id (some (.me true kt f l i))) a W ρ o (.tp 2 (λj=>match j with
       |0=> .d (.v (.int .i64 ((f l).getD 0)))
       |_=> .stp i)):=by
     intro es' clock' v0 e ho' he hke hv0 hrun
     have hg:=h.ghost hf (.at e.born)
     have hbi:(E.set i (.at e.born)).ρ id= .at b:=by show(bif Nat.beq id i then _ else _)=_;rw[cG hidi];exact hb'
     have hw:=hg.writeO (o':= .map es' clock') (by rw[hid];simp) hbi hh (by simp) (by simp) hown' (r:= .me true kt f l i)
      ⟨b,es',clock',hbi,e2z (d9w.1 hh).1,hown',ho',hlen,e,he,hke,aF _ _ _⟩
     refine⟨_,_,.tuple #[.int .i64 v0,.int .i64 e.born],_,?_,.inl rfl,hw,?_⟩
     ·simp only[execOp,ho,hum,huk,d9t,hrun,d9q,d9u]
     ·refine⟨_,rfl,rfl,λj hj=>?_⟩
      match j,hj with
      |0,_=>show Value.int .i64 v0=_;rw[hv0]
      |1,_=>exact⟨e.born,aF _ _ _,rfl⟩
    rcases hmo.find hko hlen W with⟨hfd,hn,hne⟩|⟨j,e,z,hfd,hj,hke,hez,hfl⟩
    ·refine fin (es.push {key:=aJ kt l,val:= .int .i64 0,born:=clock}) (clock+1) 0 {key:=aJ kt l,val:= .int .i64 0,born:=clock} ?_ (by simp) rfl (by rw[hn];rfl) ?_
     ·have:=uJ hmo hlen hne 0
      rw[hvv]at this
      rw[hn];exact this
     ·simp only[Instr.mapEntry,d9t,e0k hu,aH hh,d9q,hko.chk false l W hlen,hfd,hz]
      rw[aU hh (by simp) (by simp)]
      simp[d9q,goInt]
    ·have hjl:es.toList[j]?=some e:=by rw[e0s];exact hj
     rw[hvv]at hez
     have hsame:(es.modify j λe=>{e with key:=aJ kt l,val:= .int .i64 z})=es.modify j λe=>{e with key:=aJ kt l}:=iO hj (by rw[<-hez])
     have hall:(es.modify j λe=>{e with key:=aJ kt l})=es:=by
      rw[<-e2w,iM hj]
      rw[show({e with key:=aJ kt l}:MapEntry)=e by rw[<-hke]]
      apply e3u
      intro q
      rw[e4w]
      by_cases eq:j=q
      ·subst eq;rw[e0c rfl,e0c (e1l.1 hjl).1,hjl]
      ·rw[d9z eq]
     refine fin (es.modify j λe=>{e with key:=aJ kt l}) clock z e ?_ ?_ hke (by rw[hfl];rfl) ?_
     ·have:=rU hmo hlen hj hke z
      rw[hvv]at this
      rw[hfl]
      rw[hsame]at this;exact this
     ·rw[hall];exact e1j hjl
     ·simp only[Instr.mapEntry,d9t,e0k hu,aH hh,d9q,hko.chk false l W hlen,hfd,hj,e1y,e2v,hke,a5f]
      rw[aU hh (by simp) (by simp)]
      simp[d9q,goInt,hez]
  ·cases hv
 ·cases hv
theorem a8q (h:Sat B Fr E st a W){m s v:AV}{um us uv:Value}(hm:aK E W m um)(hs:aK E W s us)(hx:aK E W v uv){t:Nat}{c:Prop}{x:AV}{st':St}(hv:a8p m s v st=some (c,x,st')):
  ∃W',(Instr.entryStore t um us uv).run P W= .ok () W'/\Sat B Fr E st' a W'/\x= .d .top:=by
 unfold a8p at hv
 split at hv
 ·rename_i id g vk y h2
  split at hv
  ·rename_i kt f l g' hid
   cases hb:(Nat.beq g g'&&IntKind.eq vk .i64&& !kt.va)with
   |false=>rw[hb]at hv;cases hv
   |true=>
    rw[hb]at hv
    rw[e0d,e0d]at hb
    have hva:kt.va=false:=by have:=hb.2;revert this;cases kt.va<;>simp
    have hvv:∀x,jW kt x= .int .i64 x:=λx=>by unfold jW;rw[hva]
    obtain rfl:=d9s hb.1.1
    obtain rfl:=e6k hb.1.2
    simp only[e0q,e0a,e0i]at hv
    obtain⟨-,rfl,rfl⟩:=hv
    obtain⟨b,hb',rfl⟩:=hm
    obtain⟨b2,es,clock,hb2,hh,hown,hmo,hlen,e,he,hke,hge⟩:=h.hp id _ hid
    rw[hb']at hb2;cases hb2
    have hown':¬E.S b/\B.ow b:=hown
    obtain⟨bs,hbs,rfl⟩:=hs
    rw[hge]at hbs;cases hbs
    have huv:uv= .int .i64 y:=by
     unfold asI at h2
     split at h2
     ·simp only[e0a,e0i]at h2;obtain⟨rfl,rfl⟩:=h2;exact hx
     ·cases h2
    subst huv
    obtain⟨j,hj⟩:=e4e.1 he
    have hja:es[j]?=some e:=by rw[<-e0s];exact hj
    have hfi:es.findIdx? (λx=>((x.born:Nat):Int)==((e.born:Nat):Int))=some j:=by
     rw[Array.findIdx?_eq_some_iff_getElem]
     have hlt:=(d9w.1 hja).1
     refine⟨hlt,by rw[(d9w.1 hja).2];simp,λq hq=>?_⟩
     have hql:q<es.size:=by omega
     intro hc
     have hb:es[q].born=e.born:=by have h:=eq_of_beq hc;omega
     have h1:(es.toList.map (·.born))[q]?=some e.born:=by rw[e0j,e0s,e0y hql];simp[hb]
     have h2:(es.toList.map (·.born))[j]?=some e.born:=by rw[e0j,hj];rfl
     have:=(e3l (by simpa using hql) hmo.nd).1 (h1.trans h2.symm)
     omega
    have hmod:(es.modify j λx=>{x with key:=aJ kt l,val:= .int .i64 y})=es.modify j λx=>{x with val:= .int .i64 y}:=iO hja (by rw[<-hke])
    have hset:=rU hmo hlen hja hke y
    rw[hvv,hmod]at hset
    have hupd:jV (jV f l ((f l).getD 0)) l y=jV f l y:=by
     funext q
     unfold jV
     by_cases e:q=l
     ·rw[e0c e,e0c e]
     ·rw[d9z e,d9z e,d9z e]
    rw[hupd]at hset
    refine⟨_,?_,h.writeO (o':= .map (es.modify j λx=>{x with val:= .int .i64 y}) clock) (by rw[hid];simp) hb' hh (by simp) (by simp) hown' ⟨b,_,clock,hb',e2z (d9w.1 hh).1,hown,hset⟩,rfl⟩
    simp only[Instr.entryStore,d9t,aH hh,d9q,asInt,asIntOf,d9u,hfi]
    exact aU hh (by simp) (by simp)
  ·cases hv
 ·cases hv
end
end Go.Px
end
