/- Texts of the row's proof. Conditions: none. -/
import Derived.Test.YtfliffgmeobclaaGreatK43
import Derived.Test.YtfliffgmeobclaaGreatK41
import Derived.Laws.AppendOwnNone
namespace Go.Proofs.YtfliffgmeobclaaGreat
set_option maxRecDepth 100000
set_option maxHeartbeats 8000000
open Go.RowKit
def outsK (P:lA) (k:Nat):List Out:=(P.steps.take k).flatMap (fun s=>s.out)
theorem outsK_succ {P:lA} {k:Nat} (h:k<P.steps.length):outsK P (k+1)=outsK P k++(P.steps.getD k Stp.zero).out:=by
 unfold outsK
 rw [I3 h,List.flatMap_append,aN h]
 simp
def outsA (P:lA):List Out:=outsK P P.steps.length
theorem outsA_is (P:lA):outsA P=P.steps.flatMap (fun s=>s.out):=by unfold outsA outsK;rw [List.take_length]
theorem outsA_do (P:lA) (e:Ev):outsA (sD P e)=outsA P++(mP P.last e).2:=by
 rw [outsA_is,outsA_is]
 show ((P.steps++[_]).flatMap _)=_
 rw [List.flatMap_append];simp
theorem spared_ou (X:Wd) (b:Int):(bZ X b).2.length≤1:=by
 obtain ⟨_,_,_,h⟩:=jw X b
 exact h
theorem end_ou (X:Wd) (i:Nat) (k y:Int):(gQ X i k y).2.length≤2:=by
 unfold gQ
 exact Nat.succ_le_succ (spared_ou _ _)
theorem fail_ou (X:Wd) (i:Nat) (why:Int):(eU X i why).2.length≤2:=by
 unfold eU
 simp only
 split
 ·exact end_ou _ _ _ _
 ·split
  ·exact end_ou _ _ _ _
  ·split
   ·simp
   ·exact Nat.succ_le_succ (spared_ou _ _)
theorem do_ou {X:Wd} (h:WdMay X) {e:Ev} (he:EvMay X e):(mP X e).2.length≤160:=by
 unfold mP
 split
 ·unfold gj
  split
  ·simp
  ·split<;>simp
 ·split
  ·unfold uh jF
   simp only
   split
   ·simp
   ·split
    ·simp
    ·exact Ii (Nat.succ_le_succ (spared_ou _ _)) (by omega)
  ·split
   ·rename_i h7
    have h1:=EU h (he.tk h7)
    have h2:=(uG h (he.tk h7)).ou
    omega
   ·unfold fj
    split
    ·simp
    ·split
     ·exact Ii (end_ou _ _ _ _) (by omega)
     ·split
      ·simp
      ·split
       ·simp
       ·split
        ·simp
        ·exact Ii (fail_ou _ _ _) (by omega)
theorem outs_le {c:Cf} {P:lA} (h:zH c P):∀ k,k≤P.steps.length→(outsK P k).length≤k*160
 | 0,_=>by simp [outsK]
 | k+1,hk=>by
  have hs:=h.st (P.steps.getD k Stp.zero) (by rw [aN (by omega)];exact I8 _)
  have h1:=outs_le h k (by omega)
  have h2:=do_ou hs.1 hs.2.2.2.1
  rw [← hs.2.2.2.2.2.1] at h2
  rw [outsK_succ (by omega),I5]
  omega
theorem info_uouts:(Tryz.prog.info? 79).map (fun i=>(i.zero,i.size,i.bytes))=some (some (.agg #[.int .i64 0,.int .i64 0,.int .i64 0,.int .i64 0,.int .i64 0,.int .i64 0,.int .i64 0]),7,56):=by kernel_rfl
theorem len_uouts (X:List Out):∀ c∈X.map Out.cells,c.length=7:=by
 intro c hc
 simp only [Ik] at hc
 obtain ⟨x,_,rfl⟩:=hc
 rfl
theorem one_uouts (X:List Out):∀ u∈(X.map Out.cells).flatten,u.oneCell'=true:=by
 intro u hu
 simp only [List.mem_flatten,Ik] at hu
 obtain ⟨c,⟨x,_,rfl⟩,hu⟩:=hu
 simp [Out.cells] at hu
 rcases hu with rfl|rfl|rfl|rfl|rfl|rfl|rfl<;>rfl
def OutsPost (w:World) (P:lA) (e:Ending) (w':World):Prop:=∃ v,e=.returned v∧aM w.heap.size w' 7 v ((outsK P P.steps.length).map Out.cells)∧Below w.heap.size w w'
theorem prog_outputs {B p:Nat} {w:World} {c:Cf} {P:lA} {VL:Vs} {MS:List Ms} {vs vg:Value} (h:PG B p w c P VL MS vs vg) (hok:zH c P) (hn:P.steps.length≤2000):Calls Tryz.prog 10 #[.pointer (some ⟨p,0,none⟩)] w (OutsPost w P):=by
 obtain ⟨i0,hi,hi0,hi1,hi2⟩:=info_parts info_uouts
 obtain ⟨as_,cs_,hx16,hst⟩:=h.rd
 have hlp:=lt_of_block h.bk
 have HX16:=Hm hx16
 have HSt:=Hm hst
 have HLp:=Hm hlp
 have HPg:=Hm h
 have HOl:=Hm (outs_le hok)
 clear hx16 hst hlp h hok
 go_enter Tryz.func10,Tryz.ntmps10
 go_wp2
 go_loopw [3,4] (fun l i wr=>∃ k:Nat,k≤P.steps.length∧i=.int .i64 k∧wr.ownsRow w.heap.size 79 7 l (outsK P k).length ((outsK P k).map Out.cells).flatten∧Below w.heap.size w wr) (fun _ i _=>P.steps.length - (intOf i).toNat)
 case atStart=>exact ⟨0,Hx _,rfl,Im _ _ _ _,Hn _ _⟩
 case round=>
  obtain ⟨k,hk,rfl,hown,hbr⟩:=hrel
  obtain ⟨al,cl,rfl,_⟩:=aC hown
  have HBr:=Hm hbr
  have HOw:=Hm hown
  have hzr:=hbr.size
  have x16:=ah hbr HX16.out HLp.out
  have hol:=HOl.out k hk
  clear hbr hown
  rcases (show k<P.steps.length∨k=P.steps.length by omega) with hlt|rfl
  ·have hlt':(k:Int)<(P.steps.length:Int):=by omega
   have k0:(0:Int)≤(k:Int):=by omega
   obtain ⟨bs,os,rfl,hbs,hrg⟩:=HSt.out (by omega)
   have hws:=(HPg.out.below HBr.out).ws k hlt
   obtain ⟨a,cap,em,h1,h2,h3,h4⟩:=hws.o.1
   have c60:wr.cell? ⟨bs,os+k*61+60,none⟩=some (.slice a (P.steps.getD k Stp.zero).out.length cap):=by
    refine Cm HBr.out hbs (hrg k hlt) 60 _ ?_
    rw [show (P.steps.getD k Stp.zero).out.length=((P.steps.getD k Stp.zero).out.map Out.cells).length by rw [I2],← em]
    rfl
   have hno:=outsK_succ hlt
   have hl2:=HOl.out (k+1) (by omega)
   have hkk:k*160≤320000:=by omega
   rw [hno,I5] at hl2
   obtain ⟨O,hO⟩:∃ O,O=(P.steps.getD k Stp.zero).out:=⟨_,rfl⟩
   rw [← hO] at c60 hno hl2 h1 h4
   have HNo:=Hm hno
   have hlen:=len_uouts O
   have hone:=one_uouts O
   cases a with
   | none=>
    have hc0:cap=0:=h3 rfl
    have hX:O=[]:=List.length_eq_zero_iff.1 (by rw [I2] at h1;omega)
    subst hX hc0
    rw [List.append_nil] at hno
    have HN1:=Hm hno
    clear h1 h2 h3 h4 hno hws hrg hlen hone hO em
    go_wp2_with (at_builtin;refine wpList_append_own_none rfl _ _ 36 rfl w.heap.size 79 i0 7 Tryz.underlying36 hi _ _ _ rfl HOw.out rfl ?_)
    go_roundw
    case rel=>exact ⟨k+1,by omega,by go_num,by rw [HN1.out];exact HOw.out,HBr.out⟩
    case measure=>simp [intOf];omega
   | some ad=>
    have hnews:∀ j u,(O.map Out.cells).flatten[j]?=some u→wr.cell? (ad.add j)=some u:=by
     by_cases hX:O=[]
     ·subst hX;intro j u hu;simp at hu
     ·obtain ⟨b,off,hab,_,hcell⟩:=h4 (by simpa using hX)
      simp only [Option.some.injEq] at hab
      subst hab
      exact yE (by decide) hlen hcell
    have hfl:(O.map Out.cells).flatten.length=O.length*7:=by rw [aO hlen,I2]
    have A:=Hm (And.intro hone (And.intro hnews hfl))
    clear h1 h2 h3 h4 hno hws hrg hlen hone hO em hnews hfl
    go_wp2_with (at_builtin;go_loud (refine wpList_append_own _ rfl _ _ 36 rfl w.heap.size 79 i0 (.agg #[.int .i64 0,.int .i64 0,.int .i64 0,.int .i64 0,.int .i64 0,.int .i64 0,.int .i64 0]) 7 56 Tryz.underlying36 hi hi0 hi1 hi2 rfl (by decide) _ _ _ rfl HOw.out ad O.length cap ((O.map Out.cells).flatten) rfl A.out.2.2 A.out.2.1 A.out.1 ?c1 ?c2 ?c3 ?_))
    case c1=>unfold maxLen;omega
    case c2=>omega
    case c3=>exact hzr
    intro v' w6 hown' hgrow _
    have hO6:w6.ownsRow w.heap.size 79 7 v' (outsK P (k+1)).length ((outsK P (k+1)).map Out.cells).flatten:=by
     rw [HNo.out,I5,Ij,Ie];exact hown'
    have hb6:=cM (B:=w.heap.size) (Hn _ wr) hzr HOw.out hgrow
    have HO6:=Hm hO6
    have HB6:=Hm hb6
    obtain ⟨a6,c6,rfl,_⟩:=aC hO6
    clear hown' hgrow hb6 hO6
    go_wp2_with fail
    exact ⟨⟨k+1,by omega,by go_num,HO6.out,HBr.out.trans HB6.out⟩,by simp [intOf];omega⟩
  ·have hge:¬ (P.steps.length:Int)<(P.steps.length:Int):=by omega
   go_wp2
   go_ret
   exact ⟨_,rfl,aD HOw.out (by simp) (len_uouts _),HBr.out⟩
end Go.Proofs.YtfliffgmeobclaaGreat
