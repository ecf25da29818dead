/- Texts of the row's proof. Conditions: none. -/
import Derived.Test.YtneailjecbfljaaGreatDoorK02
namespace Go.Proofs.YtneailjecbfljaaGreatDoor
set_option maxRecDepth 100000
set_option maxHeartbeats 8000000
open Go.ChangeShapes Go.WideShapes Go.ChangeAt Go.RowKit
variable {H:Type} {enc:TypeId×Value→H} {W:World} {base:Nat} {v:Value} {d:DataW H} {p:List MemPlace}
def Is_int (_:World) (v:Value):Prop:=∃ n,v=.int .i64 n∧EE n
theorem opn_int (hv:Value.okWide Tryz.prog W .any base 3 v) (h:DataW.Trod enc Tryz.prog W 0 (fun _=>true) true 3 v d p) (_hz:∀ y∈d.weights Tryz.prog 3,y≤reachBytes):Is_int W v:=by
 obtain ⟨x,rfl,_,_,wx⟩:=ChangeShapes.open_int Tryz.underlying3 hv h
 exact ⟨x,rfl,kW wx⟩
end Go.Proofs.YtneailjecbfljaaGreatDoor
