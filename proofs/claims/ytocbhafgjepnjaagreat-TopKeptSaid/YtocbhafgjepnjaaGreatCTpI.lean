/- Texts of the row's proof. Conditions: none. -/
import Derived.Test.YtocbhafgjepnjaaGreatCLib
import Derived.Test.YtocbhafgjepnjaaGreatK41
namespace Go.Proofs.YtocbhafgjepnjaaGreat
set_option maxRecDepth 100000
set_option maxHeartbeats 8000000
open Go.ChangeShapes Go.WideShapes Go.ChangeAt Go.RowKit
variable {H:Type} {enc:TypeId×Value→H} {P:Program} {w:World} {base:Nat} {spare:Nat→Bool} {held:Bool}
variable {H:Type} {enc:TypeId×Value→H} {W:World} {base:Nat} {v:Value} {d:DataW H} {p:List MemPlace}
def Is_Coming (_:World) (v:Value):Prop:=∃ a b c d,v=.agg #[.int .i64 a,.int .i64 b,.int .i64 c,.int .i64 d]∧EZ a∧EZ b∧EZ c∧EZ d
theorem opn_Coming (hv:Value.okWide Tryz.prog W .any base 87 v) (h:DataW.Trod enc Tryz.prog W 0 (fun _=>true) true 87 v d p) (_hz:∀ y∈d.weights Tryz.prog 87,y≤reachBytes):Is_Coming W v:=by
 obtain ⟨cs,rfl,hc⟩:=open_flat 6 Tryz.underlying87 (by kernel_rfl:jS Tryz.prog 6 87=some [some .i64,some .i64,some .i64,some .i64]) hv h
 obtain ⟨a,_,rfl,wa,hc0⟩:=jy hc
 obtain ⟨b,_,rfl,wb,hc1⟩:=jy hc0
 obtain ⟨c,_,rfl,wc,hc2⟩:=jy hc1
 obtain ⟨d,_,rfl,wd,hc3⟩:=jy hc2
 obtain rfl:=sQ hc3
 exact ⟨a,b,c,d,rfl,kW wa,kW wb,kW wc,kW wd⟩
end Go.Proofs.YtocbhafgjepnjaaGreat
