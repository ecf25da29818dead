/- Texts of the row's proof. Conditions: none. -/
import Derived.Test.YtocbhafgjepnjaaGreatK41
namespace Go.Proofs.YtocbhafgjepnjaaGreat
set_option maxRecDepth 100000
set_option maxHeartbeats 8000000
open Go.RowKit
def actN (L:List Lf):List Nat:=(List.range 12).filter fun b=>gp L (b:Nat) == 2
theorem lwts_pos {L:List Lf} {R:List Rq} (h:bF L R) {b:Nat} (hb:b<12):0<(dK L).getD b 0↔gp L (b:Nat)=2:=by
 rw [fc L hb]
 unfold gp
 cases hl:cW L (b:Nat) with
 | none=>simp
 | some x=>
  have:=(dz h (dj hl).1).2.2.1
  simp only [Option.map_some,IJ]
  by_cases h2:x.state=2
  ·rw [if_pos h2];exact ⟨fun _=>h2,fun _=>by omega⟩
  ·rw [if_neg h2];exact ⟨fun h=>absurd h (by omega),fun h=>absurd h h2⟩
theorem walk_act {X:Wd} (h:GwMay X) (a b:Int):b∈gR X.ring a↔gp X.lives b=2:=by
 rw [xA]
 constructor
 ·rintro ⟨s,hs,rfl⟩
  have hr:=h.ring.1 s hs
  obtain ⟨n,hn⟩:=Iy hr.1
  have hn12:n<12:=by omega
  rw [hn]
  refine (lwts_pos h.bk hn12).1 ?_
  have h1:=uR (dK X.lives) hn12
  rw [← h.rg] at h1
  have h2:0<jX X.ring n:=List.countP_pos_iff.2 ⟨s,hs,by simp [hn]⟩
  omega
 ·intro hb
  have hbd:=Cr h.bk (Or.inl hb)
  obtain ⟨n,rfl⟩:=Iy hbd.1
  have hn12:n<12:=by omega
  have h0:=(lwts_pos h.bk hn12).2 hb
  have h1:=uR (dK X.lives) hn12
  rw [← h.rg] at h1
  have h2:0<jX X.ring n:=by omega
  obtain ⟨s,hs,he⟩:=List.countP_pos_iff.1 h2
  exact ⟨s,hs,by simpa using he⟩
theorem walk_len {X:Wd} (h:GwMay X) (a:Int):(gR X.ring a).length=(actN X.lives).length:=by
 have hp:(gR X.ring a).Perm ((actN X.lives).map fun b:Nat=>(b:Int)):=by
  refine (List.perm_ext_iff_of_nodup (uD _) ?_).2 fun b=>?_
  ·rw [List.nodup_iff_pairwise_ne,List.pairwise_map]
   have:=(List.nodup_range (n:=12)).sublist (List.filter_sublist (p:=fun b:Nat=>gp X.lives (b:Nat) == 2))
   exact (List.nodup_iff_pairwise_ne.1 this).imp fun hab e=>hab (by omega)
  ·show b∈gR X.ring a↔_
   rw [walk_act h]
   constructor
   ·intro hb
    have hbd:=Cr h.bk (Or.inl hb)
    obtain ⟨n,rfl⟩:=Iy hbd.1
    exact II.2 ⟨n,List.mem_filter.2 ⟨List.mem_range.2 (by omega),by simpa using hb⟩,rfl⟩
   ·intro hb
    obtain ⟨n,hn,rfl⟩:=II.1 hb
    simpa using (List.mem_filter.1 hn).2
 rw [hp.length_eq,Iq]
end Go.Proofs.YtocbhafgjepnjaaGreat
