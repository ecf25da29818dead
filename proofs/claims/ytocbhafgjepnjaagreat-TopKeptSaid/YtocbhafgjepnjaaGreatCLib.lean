/- Texts of the row's proof. Conditions: none. -/
import Derived.Test.YtocbhafgjepnjaaGreatK01
namespace Go.Proofs.YtocbhafgjepnjaaGreat
set_option maxRecDepth 100000
set_option maxHeartbeats 8000000
open Go.ChangeShapes Go.WideShapes Go.ChangeAt Go.RowKit
variable {H:Type} {enc:TypeId×Value→H} {P:Program} {w:World} {base:Nat} {spare:Nat→Bool} {held:Bool}
theorem open_flat {t:TypeId} {ks:List (Option IntKind)} {v:Value} {d:DataW H} {p:List MemPlace} {fs:Array Field} (n:Nat) (hs:P.underlying t=some (.struct fs)) (hk:jS P n t=some ks)
  (hv:Value.okWide P w .any base t v) (h:DataW.Trod enc P w 0 (fun _=>true) true t v d p):∃ cs:List Value,v=.agg cs.toArray∧dC ks cs:=by
 unfold Value.okWide at hv
 rw [hs] at hv
 obtain ⟨cs,rfl,_,_⟩:=hv
 obtain ⟨fuel,hf⟩:=h
 exact ⟨cs.toList,by simp,mF n t ks hk fuel _ _ hf⟩
end Go.Proofs.YtocbhafgjepnjaaGreat
