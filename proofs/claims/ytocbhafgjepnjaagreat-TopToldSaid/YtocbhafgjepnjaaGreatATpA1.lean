/- Texts of the row's proof. Conditions: none. -/
import Derived.Test.YtocbhafgjepnjaaGreatATpZ
import Derived.Test.YtocbhafgjepnjaaGreatATpT
import Derived.Test.YtocbhafgjepnjaaGreatATpN
namespace Go.Proofs.YtocbhafgjepnjaaGreat
set_option maxRecDepth 100000
set_option maxHeartbeats 8000000
open Go.RowKit
def outsA (P:kY):List Out:=outsK P P.steps.length
theorem outsA_is (P:kY):outsA P=P.steps.flatMap (fun s=>s.out):=by unfold outsA outsK;rw [List.take_length]
theorem outsA_do (P:kY) (e:Ev):outsA (sE P e)=outsA P++(ib P.last e).2:=by
 rw [outsA_is,outsA_is]
 show ((P.steps++[_]).flatMap _)=_
 rw [List.flatMap_append];simp
theorem three_join (X:Wd):∀ {k:Nat},k≤3→k≤(outsA (nY X k)).length
 | 0,_=>Ik _
 | k+1,hk=>by
  have h1:=three_join X (k:=k) (by omega)
  have h2:1≤(ib (nY X k).last (ff (1000+(k:Nat)) (k:Nat) (2+(k:Nat)))).2.length:=List.length_pos_iff.2 (do_some (by show (5:Int)≠7;decide))
  rw [gz,outsA_do,It]
  omega
theorem three_fold:∀ (L:List Dd) (P:kY),3≤(outsA P).length→3≤(outsA (L.foldl wJ P)).length
 | [],_,h=>h
 | d :: L,P,h=>by
  rw [List.foldl_cons]
  refine three_fold L _ ?_
  unfold wJ
  rw [outsA_do,It]
  omega
theorem three_play (X:Wd) (L:List Dd) (most:Nat):3≤(outsA (fW X L most)).length:=by
 refine three_fold _ _ ?_
 rw [ue,outsA_do,It]
 have:=three_join X (Ij 3)
 omega
theorem told_all {c:Cf} {P:kY} (h:zU c P):∀ o∈outsA P,Told o:=by
 intro o ho
 rw [outsA_is] at ho
 obtain ⟨s,hs,ho⟩:=List.mem_flatMap.1 ho
 rw [(h.st s hs).2.2.2.2.2.1] at ho
 exact told_do ho
theorem Told.w {o:Out} (h:Told o) (hk:o.kind≠6):o.why=0:=Classical.byContradiction fun g=>hk (h.y.2 g)
theorem Told.n {o:Out} (h:Told o) (h8:o.kind≠8) (h2:o.kind≠2) (h10:o.kind≠10):o.code=0:=Classical.byContradiction fun g=>by
 rcases (h.c h8).2 g with e|e
 ·exact h2 e
 ·exact h10 e
end Go.Proofs.YtocbhafgjepnjaaGreat
