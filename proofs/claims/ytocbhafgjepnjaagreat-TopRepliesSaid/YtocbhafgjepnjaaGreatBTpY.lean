/- Texts of the row's proof. Conditions: none. -/
import Derived.Test.YtocbhafgjepnjaaGreatK43
import Derived.Test.YtocbhafgjepnjaaGreatK44
import Derived.Test.YtocbhafgjepnjaaGreatK45
namespace Go.Proofs.YtocbhafgjepnjaaGreat
set_option maxRecDepth 100000
set_option maxHeartbeats 8000000
open Go.RowKit
theorem GRo.rn {p o:Nat} {w:World} {X:Wd} {V:Vs} (h:GRo p o w X V):∃ al cl,w.cell? ⟨p,o+20,none⟩=some (.slice al X.reqs.length cl):=by
 obtain ⟨al,cl,el,_⟩:=aj h.wa.ro.re.1
 exact ⟨al,cl,by rw [← el];exact h.c 20 _ rfl⟩
end Go.Proofs.YtocbhafgjepnjaaGreat
