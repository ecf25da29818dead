/- Texts of the row's proof. Conditions: none. -/
import Derived.Laws.AppendOwnNone
import Derived.Test.YtneailjecbfljaaGreatDoorK02
namespace Go.Proofs.YtneailjecbfljaaGreatDoor
set_option maxRecDepth 100000
set_option maxHeartbeats 8000000
section
open Go.RowKit
theorem Q84 {p:Prop} (h:p:=by
 rw [run_slice_h W 173 _ _ _ ht .i64 _ (by omega) (by omega),he,hz];simp [Result.andThen,sliced,Addr.add_lit]):p:=h
theorem Q85 {p:Prop} (h:p:=by
 rw [run_slice_h W 40 _ _ _ ht .i64 _ (by omega) (by omega),he,hz];simp [Result.andThen,sliced,Addr.add_lit]):p:=h
end
end Go.Proofs.YtneailjecbfljaaGreatDoor
