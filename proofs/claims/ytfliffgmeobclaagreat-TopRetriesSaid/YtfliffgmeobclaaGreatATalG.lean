/- Texts of the row's proof. Conditions: none. -/
import Derived.Test.YtfliffgmeobclaaGreatATallyOf
namespace Go.Proofs.YtfliffgmeobclaaGreat
set_option maxRecDepth 100000
set_option maxHeartbeats 8000000
theorem talV_get (X:List Out) (j:Nat) (hj:j<17):(talV X)[j]?=some (.int .i64 (cnt X j)):=by
 unfold talV
 rw [I0,List.getElem?_map,List.getElem?_range hj]
 rfl
end Go.Proofs.YtfliffgmeobclaaGreat
