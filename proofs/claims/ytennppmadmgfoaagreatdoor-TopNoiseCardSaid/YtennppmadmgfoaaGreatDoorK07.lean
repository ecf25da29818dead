/- Texts of the row's proof. Conditions: none. -/
import Derived.Deep.AppendLies
import Derived.Deep.RegionLaw
import Derived.Test.YtennppmadmgfoaaGreatDoorK05
namespace Go.Proofs.YtennppmadmgfoaaGreatDoor
open Proofs.Tryz
set_option maxRecDepth 100000
set_option maxHeartbeats 8000000
section
open Go.RowKit
theorem Br:(prog.info? 176).map (fun i=>(i.zero,i.size,i.bytes))=some (some (.agg #[.int .i64 0,.int .i64 0,.int .i64 0,.int .i64 0,.int .i64 0]),5,40):=by kernel_rfl
theorem jc (X:List Lf):∀ c∈X.map Lf.cells,c.length=6:=by
 exact Q28
theorem nj (X:List Rq):∀ c∈X.map Rq.cells,c.length=5:=by
 exact Q28
theorem rx {w:World} {B B' e sz n:Nat} {v:Value} {cs:List Value} (J:w.ownsRow B e sz v n cs) (hB:B'<=B):w.ownsRow B' e sz v n cs:=by
 obtain ⟨h,K|⟨I,z,E,U,W,Y,Z⟩⟩:=J
 ·exact ⟨h,Or.inl K⟩
 ·exact ⟨h,Or.inr ⟨I,z,E,U,Lz hB W,Y,Z⟩⟩
end
end Go.Proofs.YtennppmadmgfoaaGreatDoor
