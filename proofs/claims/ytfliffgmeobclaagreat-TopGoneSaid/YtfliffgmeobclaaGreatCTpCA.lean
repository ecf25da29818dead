/- Texts of the row's proof. Conditions: none. -/
import Derived.Test.YtfliffgmeobclaaGreatCTpC9
import Derived.Test.YtfliffgmeobclaaGreatCTpO
namespace Go.Proofs.YtfliffgmeobclaaGreat
set_option maxRecDepth 100000
set_option maxHeartbeats 8000000
open Go.RowKit
theorem gr_next {P:lA} {k:Nat} (h:k<P.steps.length):(grL (P.steps.take (k+1))).length=(grL (P.steps.take k)).length+if grS (P.steps.getD k Stp.zero)=true then 1 else 0:=by
 unfold grL
 rw [I3 h,List.filter_append,Ij,I5,aN h,List.filter_cons]
 split<;>simp
theorem gq_next {O:List Out} {k:Nat} (h:k<O.length):gq (O.take (k+1))=gq (O.take k)++if (O.getD k Out.zero).kind=9 then [(O.getD k Out.zero).request] else []:=by
 rw [I3 h,gq_app,aN h]
 congr 1
 unfold gq
 rw [List.filter_cons]
 by_cases h9:O[k].kind=9<;>simp [h9]
theorem gq_mem {O:List Out}:∀ {k j:Nat},j<k→k≤O.length→(O.getD j Out.zero).kind=9→(O.getD j Out.zero).request∈gq (O.take k)
 | 0,_,h,_,_=>by omega
 | k+1,j,h,hk,h9=>by
  rw [gq_next (by omega)]
  rcases (show j<k∨j=k by omega) with g|rfl
  ·exact List.mem_append_left _ (gq_mem g (by omega) h9)
  ·rw [if_pos h9];exact List.mem_append_right _ (by simp)
theorem gq_two {O:List Out} (hn:(gq O).Nodup) {j k:Nat} (hj:j<k) (hk:k<O.length) (h1:(O.getD j Out.zero).kind=9) (h2:(O.getD k Out.zero).kind=9):(O.getD j Out.zero).request≠(O.getD k Out.zero).request:=by
 intro e
 have hm:=gq_mem hj (by omega) h1
 have h3:gq O=gq (O.take (k+1))++gq (O.drop (k+1)):=by rw [← gq_app,Ig]
 rw [h3,gq_next hk,if_pos h2,List.append_assoc,List.nodup_append] at hn
 exact hn.2.2 _ hm _ (by simp) e
def drU (L:List Lf) (j:Nat):Nat:=((List.range j).filter fun b=>gL L (b:Nat) == 3).length
theorem drU_y {L:List Lf} {j:Nat} (h:gL L (j:Nat)=3):drU L (j+1)=drU L j+1:=by
 unfold drU
 rw [List.range_succ,List.filter_append,I5]
 simp [h]
theorem drU_n {L:List Lf} {j:Nat} (h:¬ gL L (j:Nat)=3):drU L (j+1)=drU L j:=by
 unfold drU
 rw [List.range_succ,List.filter_append,I5]
 simp [h]
theorem drU_le (L:List Lf) (j:Nat):drU L j≤j:=by
 unfold drU
 have h:=List.length_filter_le (fun b:Nat=>gL L (b:Nat) == 3) (List.range j)
 rw [List.length_range] at h
 exact h
theorem drU_dq {L:List Lf} {R:List Rq} (h:bF L R):(dq L).length=drU L 12:=by
 unfold dq drU
 rw [I2,← List.countP_eq_length_filter,cnt_range h]
 congr 2
 funext b
 unfold gL
 cases dt L (b:Nat) with
 | none=>rfl
 | some x=>rfl
theorem gone_sum {c:Cf} {P:lA} (h:zH c P) (q:GoneP P):(grL P.steps).length=(gq (outsA P)).length+drU P.last.lives 12∧(gq (outsA P)).Nodup:=by
 have h1:=q.p.length_eq
 rw [I5,drU_dq h.wd.gw.bk] at h1
 refine ⟨by omega,?_⟩
 have h2:=q.p.nodup_iff.1 q.n
 exact (List.nodup_append.1 h2).2.1
end Go.Proofs.YtfliffgmeobclaaGreat
