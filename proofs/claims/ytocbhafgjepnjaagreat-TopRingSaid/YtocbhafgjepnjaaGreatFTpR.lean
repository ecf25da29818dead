/- Texts of the row's proof. Conditions: none. -/
import Derived.Test.YtocbhafgjepnjaaGreatK41
namespace Go.Proofs.YtocbhafgjepnjaaGreat
set_option maxRecDepth 100000
set_option maxHeartbeats 8000000
open Go.RowKit
theorem BE {X:Wd} (h:GwMay X) {b:Int} (h0:0≤b) (h1:b≤11):(gC X.tab X.tab.length).getD b.toNat 0=((X.flows.countP fun f=>f.backend == b:Nat):Int):=by
 have hl:(gC X.tab X.tab.length).getD b.toNat 0=((iO X.tab b X.tab.length).length:Int):=by
  rw [aK (by rw [gO];omega)]
  simp only [gC,List.getElem_map,List.getElem_range]
  rw [Int.toNat_of_nonneg h0]
 have hp:(dt X.tab b).Perm ((X.flows.filter fun f=>f.backend == b).map Fl.slot):=by
  refine (List.perm_ext_iff_of_nodup (iS _ _) ?_).2 fun s=>?_
  ·rw [List.nodup_iff_pairwise_ne,List.pairwise_map]
   exact (h.so.filter _).imp fun {x y} hxy=>by omega
  ·rw [jf h,II]
   constructor
   ·rintro ⟨f,hf,hb,hs⟩;exact ⟨f,List.mem_filter.2 ⟨hf,by simpa using hb⟩,hs⟩
   ·rintro ⟨f,hf,hs⟩
    obtain ⟨hf,hb⟩:=List.mem_filter.1 hf
    exact ⟨f,hf,by simpa using hb,hs⟩
 have hlen:=hp.length_eq
 unfold dt at hlen
 rw [Iq,Iq] at hlen
 rw [hl,List.countP_eq_length_filter,hlen]
end Go.Proofs.YtocbhafgjepnjaaGreat
