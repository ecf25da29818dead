/- Texts of the row's proof. Conditions: none. -/
import Derived.Test.YtocbhafgjepnjaaGreatK41
namespace Go.Proofs.YtocbhafgjepnjaaGreat
set_option maxRecDepth 100000
set_option maxHeartbeats 8000000
open Go.RowKit
theorem do_some {X:Wd} {e:Ev} (h:e.kind≠7):(ib X e).2≠[]:=by
 unfold ib
 rw [if_neg h]
 split
 ·unfold ep
  split
  ·simp
  ·split<;>simp
 ·split
  ·unfold oL jb
   simp only
   split
   ·simp
   ·split<;>simp
  ·unfold ez
   split
   ·simp
   ·split
    ·unfold g9;simp
    ·split
     ·simp
     ·split
      ·simp
      ·split
       ·simp
       ·unfold eu
        simp only
        split
        ·unfold g9;simp
        ·split
         ·unfold g9;simp
         ·simp
end Go.Proofs.YtocbhafgjepnjaaGreat
