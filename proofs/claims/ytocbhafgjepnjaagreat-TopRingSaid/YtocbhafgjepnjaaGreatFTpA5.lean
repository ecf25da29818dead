/- Texts of the row's proof. Conditions: none. -/
import Derived.Test.YtocbhafgjepnjaaGreatFTpR
import Derived.Test.YtocbhafgjepnjaaGreatFTpH
import Derived.Test.YtocbhafgjepnjaaGreatK41
namespace Go.Proofs.YtocbhafgjepnjaaGreat
set_option maxRecDepth 100000
set_option maxHeartbeats 8000000
open Go.RowKit
theorem info_loadR:(Tryz.prog.info? 80).map (fun i=>(i.zero,i.size,i.bytes))=some (some (.agg #[.int .i64 0,.int .i64 0,.int .i64 0]),3,24):=by kernel_rfl
theorem ld_one (x:Ld):∀ u∈Ld.cells x,u.oneCell'=true:=by
 intro u hu
 simp [Ld.cells] at hu
 rcases hu with rfl|rfl|rfl<;>rfl
theorem eq_of_lt:∀ {l1 l2:List Nat},l1.Pairwise (· < ·)→l2.Pairwise (· < ·)→(∀ x,x∈l1↔x∈l2)→l1=l2
 | [],[],_,_,_=>rfl
 | [],y :: _,_,_,hm=>by have:=(hm y).2 (ID ..);simp at this
 | x :: _,[],_,_,hm=>by have:=(hm x).1 (ID ..);simp at this
 | x :: l1,y :: l2,h1,h2,hm=>by
  rw [List.pairwise_cons] at h1 h2
  have e:x=y:=by
   rcases List.mem_cons.1 ((hm x).1 (ID ..)) with g|g
   ·exact g
   ·rcases List.mem_cons.1 ((hm y).2 (ID ..)) with g2|g2
    ·exact g2.symm
    ·have a1:=h2.1 x g;have a2:=h1.1 y g2;omega
  subst e
  congr 1
  refine eq_of_lt h1.2 h2.2 fun z=>⟨fun hz=>?_,fun hz=>?_⟩
  ·rcases List.mem_cons.1 ((hm z).1 (IF _ hz)) with g|g
   ·have:=h1.1 z hz;omega
   ·exact g
  ·rcases List.mem_cons.1 ((hm z).2 (IF _ hz)) with g|g
   ·have:=h2.1 z hz;omega
   ·exact g
def ldU (X:Wd) (b:Nat):Ld:=⟨(b:Int),l9 X (b:Int),((flB X (b:Int):Nat):Int)⟩
def ldsU (X:Wd) (j:Nat):List Ld:=((List.range j).filter fun b=>gp X.lives (b:Nat) == 2).map (ldU X)
theorem ldsU_y {X:Wd} {j:Nat} (h:gp X.lives (j:Nat)=2):ldsU X (j+1)=ldsU X j++[ldU X j]:=by
 unfold ldsU
 rw [List.range_succ,List.filter_append,IH]
 simp [h]
theorem ldsU_n {X:Wd} {j:Nat} (h:¬ gp X.lives (j:Nat)=2):ldsU X (j+1)=ldsU X j:=by
 unfold ldsU
 rw [List.range_succ,List.filter_append,IH]
 simp [h]
theorem ldsU_le (X:Wd) (j:Nat):(ldsU X j).length≤j:=by
 unfold ldsU
 have h:=List.length_filter_le (fun b:Nat=>gp X.lives (b:Nat) == 2) (List.range j)
 rw [List.length_range] at h
 rw [Iq]
 exact h
theorem lds_range {X:Wd} (h:GwMay X):ldsU X 12=dx X (-1):=by
 have hs:=bZ h.bk
 have hL:((List.range 12).filter fun b=>gp X.lives (b:Nat) == 2)=(X.lives.filter fun x=>x.state == 2).map fun x=>x.backend.toNat:=by
  refine eq_of_lt ((List.pairwise_lt_range).filter _) ?_ fun b=>?_
  ·rw [List.pairwise_map]
   refine (hs.filter _).imp_of_mem fun {x y} hx hy hxy=>?_
   have h1:=(dz h.bk (List.mem_filter.1 hx).1).1
   have h2:=(dz h.bk (List.mem_filter.1 hy).1).1
   omega
  ·rw [List.mem_filter,List.mem_range,II]
   constructor
   ·rintro ⟨hb,hq⟩
    have hq2:gp X.lives (b:Nat)=2:=by simpa using hq
    unfold gp at hq2
    cases hl:cW X.lives (b:Nat) with
    | none=>rw [hl] at hq2;simp at hq2
    | some x=>
     rw [hl] at hq2
     obtain ⟨hx,he⟩:=dj hl
     exact ⟨x,List.mem_filter.2 ⟨hx,by simpa using hq2⟩,by omega⟩
   ·rintro ⟨x,hx,rfl⟩
    obtain ⟨hx,hq⟩:=List.mem_filter.1 hx
    have h1:=dz h.bk hx
    have h0:=h1.1;have h11:=h1.2.1
    refine ⟨by omega,?_⟩
    unfold gp
    rw [Int.toNat_of_nonneg h0,gI hs hx]
    exact hq
 unfold ldsU dx
 rw [hL,List.map_map]
 refine List.map_congr_left fun x hx=>?_
 obtain ⟨hx,hq⟩:=List.mem_filter.1 hx
 have h1:=dz h.bk hx
 have h0:=h1.1;have h11:=h1.2.1
 have hq2:x.state=2:=by simpa using hq
 show ldU X x.backend.toNat=rC X (-1) x
 unfold ldU rC
 rw [Int.toNat_of_nonneg h0]
 have e1:l9 X x.backend=jn X x:=by unfold l9;rw [gI hs hx];simp only;rw [if_pos hq2]
 have e2:((flB X x.backend:Nat):Int)=ny X (-1) x.backend:=by
  unfold ny vq flB
  rw [BE h h0 h11]
  simp
 rw [e1,e2]
def RingS (s:Stp):Prop:=∀ o,s.out=[o]→o.kind=1→s.ev.kind=1∧dp s.be s.ev.key.toNat (-1)=(o.backend,0)
theorem ring_do {X:Wd} {e:Ev} {o:Out} (ho:(ib X e).2=[o]) (hk:o.kind=1):e.kind=1∧dp X e.key.toNat (-1)=(o.backend,0):=by
 have hm:o∈(ib X e).2:=by rw [ho];exact ID ..
 unfold ib at ho hm
 split at ho
 ·rename_i h1
  refine ⟨h1,?_⟩
  unfold ep at ho
  split at ho
  ·simp only [List.cons.injEq,and_true] at ho;rw [← ho] at hk;simp at hk
  ·split at ho
   ·simp only [List.cons.injEq,and_true] at ho;rw [← ho] at hk;simp at hk
   ·rename_i h2 h3
    simp only [List.cons.injEq,and_true] at ho
    rw [← ho]
    exact Prod.ext rfl (Decidable.not_not.1 h3)
 ·rename_i h1
  exfalso
  rw [if_neg h1] at hm
  split at hm
  ·rcases zR hm with g|g<;>rw [g] at hk<;>simp at hk
  ·split at hm
   ·rcases uF hm with g|g|g<;>rw [g] at hk<;>simp at hk
   ·exact vX hm hk
theorem ringS_play {c:Cf} {P:kY} (h:zU c P):∀ s∈P.steps,RingS s:=by
 intro s hs o ho hk
 have h1:=h.st s hs
 rw [h1.2.2.2.2.2.1] at ho
 exact ring_do ho hk
end Go.Proofs.YtocbhafgjepnjaaGreat
