/- Texts of the row's proof. Conditions: none. -/
import Derived.Test.YtocbhafgjepnjaaGreatETpY
import Derived.Test.YtocbhafgjepnjaaGreatETpN
namespace Go.Proofs.YtocbhafgjepnjaaGreat
set_option maxRecDepth 100000
set_option maxHeartbeats 8000000
open Go.RowKit
theorem rg_af {w:World} {b o:Nat} {s:Stp} {m:Ms} (h:w.rangeAt b o (lc s m)):w.rangeAt b (o+34) (cQ s.af m.a):=by
 intro j v hj
 have hj26:j<(cQ s.af m.a).length:=by
  rcases Nat.lt_or_ge j (cQ s.af m.a).length with g|g
  ·exact g
  ·rw [IB g] at hj;cases hj
 have h8:(Ev.cells s.ev).length=8:=rfl
 have h26:=fH s.be m.b
 have:=h (34+j) v (by
  unfold lc
  rw [IS (by omega),IS (by omega),show 34+j - (Ev.cells s.ev).length - (cQ s.be m.b).length=j by omega,IR hj26]
  exact hj)
 rw [Nat.add_assoc]
 exact this
def actU (L:List Lf) (j:Nat):Nat:=((List.range j).filter fun b=>gp L (b:Nat) == 2).length
theorem actU_y {L:List Lf} {j:Nat} (h:gp L (j:Nat)=2):actU L (j+1)=actU L j+1:=by
 unfold actU
 rw [List.range_succ,List.filter_append,It]
 simp [h]
theorem actU_n {L:List Lf} {j:Nat} (h:¬ gp L (j:Nat)=2):actU L (j+1)=actU L j:=by
 unfold actU
 rw [List.range_succ,List.filter_append,It]
 simp [h]
theorem actU_le (L:List Lf) (j:Nat):actU L j≤j:=by
 unfold actU
 have h:=List.length_filter_le (fun b:Nat=>gp L (b:Nat) == 2) (List.range j)
 rw [List.length_range] at h
 exact h
end Go.Proofs.YtocbhafgjepnjaaGreat
