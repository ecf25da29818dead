/- Texts of the row's proof. Conditions: none. -/
import Derived.Test.YtennppmadmgfoaaGreatDoorRows
import Derived.RowKitTokens
import Derived.LaidLaws
namespace Go.Proofs.YtennppmadmgfoaaGreatDoor
open Proofs.Tryz
set_option maxRecDepth 100000
set_option maxHeartbeats 8000000
open Go.RowKit
section
open Go.ChangeShapes Go.WideShapes Go.RowKit
theorem erT_of_laid {W:World} (h:laidMetH prog Rows.topNoiseRow.laid W):W.cell? ⟨0,0,none⟩=some (.iface 214 (.agg #[.pointer (some ⟨1,118,none⟩)])):=by
 have h':laidMet prog [] W/\handlesMet prog Rows.topNoiseRow.laid W:=h
 obtain ⟨name,u,ty,e1,e2,e3,e4,e5⟩:=h'.2 _ (List.mem_singleton.2 rfl)
 obtain rfl:name=[101,114,114,111,114]:=(Option.some.inj e1).symm
 obtain rfl := Option.some.inj ((show (prog.cutTypes.find? (·.1 == "internal/reflectlite.rtype")).map (·.2) = some 214 by kernel_rfl).symm.trans e2)
 have hm:ty∈(List.range prog.types.size).filter fun t=>prog.rowNamed t [101,114,114,111,114]:=List.mem_filter.2 ⟨List.mem_range.2 e3,e4⟩
 rw [show ((List.range prog.types.size).filter fun t=>prog.rowNamed t [101,114,114,111,114])=[118] by kernel_rfl] at hm
 obtain rfl:=List.mem_singleton.1 hm
 rw [show typeHandle prog 118=.pointer (some ⟨1,118,none⟩) by kernel_rfl] at e5
 simpa using World.var?_cell (show prog.globalNamed "errors.errorType" = some 0 by kernel_rfl) e5 0
end
end Go.Proofs.YtennppmadmgfoaaGreatDoor
