/- Texts of the row's proof. Conditions: none. -/
import Derived.Test.YtfliffgmeobclaaGreatK41
namespace Go.Proofs.YtfliffgmeobclaaGreat
set_option maxRecDepth 100000
set_option maxHeartbeats 8000000
open Go.RowKit
theorem cnt_range {L:List Lf} {R:List Rq} (h:bF L R) (q:Lf→Bool):L.countP q=((List.range 12).filter fun b=>match dt L (b:Nat) with|some x=>q x|none=>false).length:=by
 have hs:=cG h
 have hp:((L.filter q).map fun x=>x.backend.toNat).Perm ((List.range 12).filter fun b=>match dt L (b:Nat) with|some x=>q x|none=>false):=by
  refine (List.perm_ext_iff_of_nodup ?_ ((List.nodup_range).sublist List.filter_sublist)).2 fun b=>?_
  ·rw [List.nodup_iff_pairwise_ne,List.pairwise_map]
   refine (hs.filter q).imp_of_mem fun {x y} hx hy hxy=>?_
   have h1:=eO h (List.mem_filter.1 hx).1;have h2:=eO h (List.mem_filter.1 hy).1
   have:=h1.1;have:=h2.1
   omega
  ·rw [Ik,List.mem_filter,List.mem_range]
   constructor
   ·rintro ⟨x,hx,rfl⟩
    obtain ⟨hx,hq⟩:=List.mem_filter.1 hx
    have h1:=eO h hx
    have h0:=h1.1;have h11:=h1.2.1
    refine ⟨by omega,?_⟩
    rw [Int.toNat_of_nonneg h0,j4 hs hx]
    exact hq
   ·rintro ⟨hb,hq⟩
    cases hl:dt L (b:Nat) with
    | none=>rw [hl] at hq;simp at hq
    | some x=>
     rw [hl] at hq
     obtain ⟨hx,he⟩:=dz hl
     exact ⟨x,List.mem_filter.2 ⟨hx,hq⟩,by omega⟩
 rw [List.countP_eq_length_filter,← hp.length_eq,I2]
end Go.Proofs.YtfliffgmeobclaaGreat
