/- Texts of this proof, joined. No statement of the seat is proved here. -/
import Derived.Test.YtcpijpmabkbdkaaGreatJ12
import Derived.Test.YtcpijpmabkbdkaaGreatRows
import Derived.Shelf.SlMaps.Clone
set_option linter.unusedVariables false
set_option linter.unusedSimpArgs false
set_option maxRecDepth 1000000
set_option maxHeartbeats 64000000
noncomputable section
namespace Go.Kx.Tryz
open Go Go.Proofs Go.Kx
def hs (oc:List Oc):Hs:=⟨[⟨319,53,[],[(7,[0])]⟩,⟨266,51,[],[(3,[])]⟩,⟨282,36,[],[(4,[])]⟩,⟨92,13,[],[(3,[])]⟩,⟨92,46,[],[(3,[])]⟩,⟨90,12,[5],[]⟩,⟨42,17,[],[(0,[4])]⟩,⟨34,83,[15],[]⟩],[346],oc⟩
theorem mixed:Tryz.prog.follows .mixedOrders=true:=by kernel_rfl
abbrev _root_.e7p:=@Kx.Tryz.mixed
theorem pT:a1f Tryz.prog 346:=by
 intro t b es clock W hb
 rw[run_callFunc_extern (fn:=Tryz.f346) (by kernel_rfl) (by kernel_rfl) (by kernel_rfl) (by kernel_rfl) (e:=Extern.MapsClone.clone) (by kernel_rfl),Go.Proofs.run_maps_clone_sl W t hb]
 rfl
theorem hs_ok {oc:List Oc}(h:∀o,o∈oc->dO Tryz.prog o):HsOk Tryz.prog (hs oc):=by
 refine⟨λg hg=>?_,h⟩
 rcases e0b.1 hg with rfl|hg
 ·exact pT
 ·cases hg
abbrev _root_.e7q:=@Kx.Tryz.hs_ok
def im (n:Nat):Id:=⟨dig (n/4096 %8),dig (n/512 %8),dig (n/64 %8),dig (n/8 %8),dig (n %8)⟩
def ii (n:Int):V:= .i .i64 n
def il (l:List Int):List V:=l.map ii
end Go.Kx.Tryz
end
