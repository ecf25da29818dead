/- Texts of the row's proof. Conditions: none. -/
import Derived.Laws.AppendOwnNone
import Derived.Test.YtfliffgmeobclaaGreatK02
namespace Go.Proofs.YtfliffgmeobclaaGreat
set_option maxRecDepth 100000
set_option maxHeartbeats 8000000
section
open Go.RowKit
theorem Q85 {p:Prop} (h:p:=by
 rw [run_slice_h W 153 _ _ _ ht .i64 _ (by omega) (by omega),he,hz];simp [Result.andThen,sliced,Addr.add_lit]):p:=h
theorem Q86 {p:Prop} (h:p:=by
 rw [run_slice_h W 48 _ _ _ ht .i64 _ (by omega) (by omega),he,hz];simp [Result.andThen,sliced,Addr.add_lit]):p:=h
end
end Go.Proofs.YtfliffgmeobclaaGreat
