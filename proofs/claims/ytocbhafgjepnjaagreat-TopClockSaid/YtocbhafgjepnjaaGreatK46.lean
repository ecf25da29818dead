/- Texts of the row's proof. Conditions: none. -/
import Derived.Test.YtocbhafgjepnjaaGreatK41
namespace Go.Proofs.YtocbhafgjepnjaaGreat
set_option maxRecDepth 100000
set_option maxHeartbeats 8000000
section
open Go.RowKit
theorem Ej {X:Wd} (h:WdMay X) {e:Ev} (he:EvMay X e):(ib X e).1.now=(if e.kind=7 then X.now+1 else X.now)∧(ib X e).1.wnow=(if e.kind=7 then X.now+1 else X.now):=by
 have h1:=yz h he;exact ⟨h1,by rw [(zM h he).gw.wn];exact h1⟩
end
end Go.Proofs.YtocbhafgjepnjaaGreat
