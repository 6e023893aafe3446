/- The statement TopSievedPot: FROM TABLES TO POTS: each sack fills three pots; of a sack that always has more than so many wild seeds the first pot is weak: the lots of these sacks are the best explanation, each of them is always to blame, no other one is, and the weak pots are apart. Conditions: none. -/
import Derived.Test.YtcpijpmabkbdkaaGreatRows
import Derived.Test.YtcpijpmabkbdkaaGreatJ6
import Derived.Test.YtcpijpmabkbdkaaGreatJ25
import Derived.Test.YtcpijpmabkbdkaaGreatJ26
set_option linter.unusedVariables false
set_option linter.unusedSimpArgs false
set_option maxRecDepth 100000
set_option maxHeartbeats 64000000
noncomputable section
namespace Go.Proofs.YtcpijpmabkbdkaaGreat.topSievedPotDone
open Go.ChangeShapes Go.WideShapes Go.ChangeAt Go.RowKit
open Go.Px
open Go.Px.Tryz (own a2o)
theorem lifted (os:Os)(started:os.Started)(H:Type)(enc:TypeId×Value->H):
  ReturnsInHanded {} Tryz.checked os 3 .any (Rows.topSievedPotSpec.pre6 enc Tryz.prog Tryz.f3 Rows.topSievedPotRow.domain false) (Rows.topSievedPotSpec.post enc Tryz.prog Tryz.f3 false true false false):=by
 refine returnsInHanded_of_change (C:=Tryz.checked) own started (by kernel_rfl) Tryz.func3
  (ChangeSpec.witness6 (enc:=enc) (C:=Tryz.checked) false ⟨#[],#[.agg #[.slice none 0 0,.slice none 0 0,.slice none 0 0],.int .u8 0],[]⟩ 8 (by kernel_rfl) (by kernel_rfl) (by kernel_rfl) (by kernel_rfl)) ?_
 intro W base args ds gs before hval0 hW hcnd _
 have hval:∀(j:Nat) t v,Tryz.f3.params[j]?=some t->args[j]?=some v->Value.okWide Tryz.prog W .any base t v:=hval0
 have hW':=hW
 obtain⟨p,q,hA0,hV,rfl,hfz,hnd⟩:=hW
 have hA:DataW.TrodAll enc Tryz.prog W 0 (λ_=>true) true Tryz.f3.params.toList args.toList ds p:=hA0
 rw[Tryz.params3]at hA hval
 obtain⟨v0,vs0,d0,ds0,p0,q0,hargs,rfl,rfl,h0,r0⟩:=trodAll_cons hA
 obtain⟨v1,vs1,d1,ds1,p1,q1,rfl,rfl,rfl,h1,r1⟩:=trodAll_cons r0
 obtain⟨rfl,rfl,rfl⟩:=trodAll_nil r1
 obtain rfl:args= #[v0,v1]:=by cases args;simp_all
 obtain⟨rfl,rfl⟩:=trodVars_none hV
 have lt0:∀x∈p0,x.block<W.heap.size:=by have k:=h0;obtain⟨m,hm⟩:=k;exact DataW.trod_lt m _ _ _ hm
 obtain⟨x0,g0,e0⟩:=Go.Px.Tryz.tab_arg h0 (hval 0 25 v0 rfl rfl)
 have lt1:∀x∈p1,x.block<W.heap.size:=by have k:=h1;obtain⟨m,hm⟩:=k;exact DataW.trod_lt m _ _ _ hm
 obtain⟨x1,g1,e1⟩:=Go.Px.Tryz.u8_arg h1 (hval 1 5 v1 rfl rfl)
 clear hA0 hval0
 refine((Go.Px.Tryz.Po.law_all x0.1 x0.2.1 x0.2.2 x1 g0 g1).2 (All W) W [v0,v1] (λ_ h=>h) ⟨e0,e1,trivial⟩).mono λe W' ⟨v,S',he,hr,_,_,bel⟩=>?_
 obtain rfl:v= .bool true:=hr
 subst he
 exact⟨_,rfl,_,_,_,[],_,[],hW',trodAll_mk1 (shut_bool Tryz.underlying4 _),(trodAll_cons_mk (Below.trod a2o (by kernel_rfl) (e2u (by kernel_rfl)) h0 bel lt0) (trodAll_cons_mk (Below.trod a2o (by kernel_rfl) (e2u (by kernel_rfl)) h1 bel lt1) trodAll_mk0)),rfl,bel.frame _,λh=>by cases h⟩
theorem a3d:Rows.topSievedPotRow.holds Tryz.pinned (OpenSpec.ofChange Rows.topSievedPotSpec):=
 OpenClaim.holds_of_wide 3 Tryz.f3 rfl rfl rfl rfl rfl rfl rfl ⟨rfl,rfl,rfl,rfl,rfl⟩ rfl rfl rfl rfl rfl (by kernel_rfl) Tryz.func3 Go.Px.Tryz.facts
  (e2u (by kernel_rfl)) (by unfold Func.isWrapper;first|(rw[e0c (by decide+kernel)];kernel_rfl)|(rw[d9z (by decide+kernel)];exact⟨rfl,rfl⟩))
  (λos started H enc _=>lifted os started H enc)
theorem proved:Rows.TopSievedPotSaid:=a3d
#print axioms proved
end Go.Proofs.YtcpijpmabkbdkaaGreat.topSievedPotDone
end
