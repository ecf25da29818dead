/- Texts of the row's proof. Conditions: none. -/
import Derived.Test.YtocbhafgjepnjaaGreatK41
namespace Go.Proofs.YtocbhafgjepnjaaGreat
set_option maxRecDepth 100000
set_option maxHeartbeats 8000000
open Go.RowKit
def actN (L:List Lf):List Nat:=(List.range 12).filter fun b=>gp L (b:Nat) == 2
end Go.Proofs.YtocbhafgjepnjaaGreat
