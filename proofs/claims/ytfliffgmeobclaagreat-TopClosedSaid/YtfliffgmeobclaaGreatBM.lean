/- Texts of the row's proof. Conditions: none. -/
import Derived.Test.YtfliffgmeobclaaGreatK43
namespace Go.Proofs.YtfliffgmeobclaaGreat
set_option maxRecDepth 100000
set_option maxHeartbeats 8000000
open Go.RowKit
def A0f (P:lA) (k:Nat):List Out:=(P.steps.take k).flatMap (fun s=>s.out)
theorem A0s {P:lA} {k:Nat} (h:k<P.steps.length):A0f P (k+1)=A0f P k++(P.steps.getD k Stp.zero).out:=by
 unfold A0f
 rw [Ia h,List.flatMap_append,aN h]
 simp
def A0a (P:lA):List Out:=A0f P P.steps.length
theorem A0p (P:lA):A0a P=P.steps.flatMap (fun s=>s.out):=by unfold A0a A0f;rw [List.take_length]
theorem A1q (P:lA) (e:Ev):A0a (sI P e)=A0a P++(mP P.last e).2:=by
 rw [A0p,A0p]
 show ((P.steps++[_]).flatMap _)=_
 rw [List.flatMap_append];simp
theorem A0n (X:Wd) (b:Int):(bZ X b).2.length≤1:=by
 obtain ⟨_,_,_,h⟩:=jw X b
 exact h
theorem A0y (X:Wd) (i:Nat) (k y:Int):(gQ X i k y).2.length≤2:=by
 unfold gQ
 exact Nat.succ_le_succ (A0n _ _)
theorem A2a (X:Wd) (i:Nat) (why:Int):(eU X i why).2.length≤2:=by
 unfold eU
 simp only
 split
 ·exact A0y _ _ _ _
 ·split
  ·exact A0y _ _ _ _
  ·split
   ·simp
   ·exact Nat.succ_le_succ (A0n _ _)
theorem A2k {X:Wd} (h:WdMay X) {e:Ev} (he:EvMay X e):(mP X e).2.length≤160:=by
 unfold mP
 split
 ·unfold gj
  split
  ·simp
  ·split<;>simp
 ·split
  ·unfold um jF
   simp only
   split
   ·simp
   ·split
    ·simp
    ·exact Iq (Nat.succ_le_succ (A0n _ _)) (by omega)
  ·split
   ·rename_i h7
    have h1:=F3 h (he.tk h7)
    have h2:=(uL h (he.tk h7)).ou
    omega
   ·unfold fj
    split
    ·simp
    ·split
     ·exact Iq (A0y _ _ _ _) (by omega)
     ·split
      ·simp
      ·split
       ·simp
       ·split
        ·simp
        ·exact Iq (A2a _ _ _) (by omega)
theorem A0u {c:Cf} {P:lA} (h:zO c P):∀ k,k≤P.steps.length→(A0f P k).length≤k*160
 | 0,_=>by simp [A0f]
 | k+1,hk=>by
  have hs:=h.st (P.steps.getD k Stp.zero) (by rw [aN (by omega)];exact If _)
  have h1:=A0u h k (by omega)
  have h2:=A2k hs.1 hs.2.2.2.1
  rw [← hs.2.2.2.2.2.1] at h2
  rw [A0s (by omega),Ic]
  omega
theorem A1j:(Tryz.prog.info? 79).map (fun i=>(i.zero,i.size,i.bytes))=some (some (.agg #[.int .i64 0,.int .i64 0,.int .i64 0,.int .i64 0,.int .i64 0,.int .i64 0,.int .i64 0]),7,56):=by kernel_rfl
theorem A0w (X:List Out):∀ c∈X.map Out.cells,c.length=7:=by
 intro c hc
 simp only [It] at hc
 obtain ⟨x,_,rfl⟩:=hc
 rfl
theorem A1k (X:List Out):∀ u∈(X.map Out.cells).flatten,u.oneCell'=true:=by
 intro u hu
 simp only [List.mem_flatten,It] at hu
 obtain ⟨c,⟨x,_,rfl⟩,hu⟩:=hu
 simp [Out.cells] at hu
 rcases hu with rfl|rfl|rfl|rfl|rfl|rfl|rfl<;>rfl
def A1r (w:World) (P:lA) (e:Ending) (w':World):Prop:=∃ v,e=.returned v∧aM w.heap.size w' 7 v ((A0f P P.steps.length).map Out.cells)∧Below w.heap.size w w'
theorem A0z {B p:Nat} {w:World} {c:Cf} {P:lA} {VL:Vs} {MS:List Ms} {vs vg:Value} (h:PG B p w c P VL MS vs vg) (hok:zO c P) (hn:P.steps.length≤2000):Calls Tryz.prog 10 #[.pointer (some ⟨p,0,none⟩)] w (A1r w P):=by
 obtain ⟨i0,hi,hi0,hi1,hi2⟩:=info_parts A1j
 obtain ⟨as_,cs_,hx16,hst⟩:=h.rd
 have hlp:=lt_of_block h.bk
 have HX16:=Hu hx16
 have HSt:=Hu hst
 have HLp:=Hu hlp
 have HPg:=Hu h
 have HOl:=Hu (A0u hok)
 clear hx16 hst hlp h hok
 go_enter Tryz.func10,Tryz.ntmps10
 go_wp2
 go_loopw [3,4] (fun l i wr=>∃ k:Nat,k≤P.steps.length∧i=.int .i64 k∧wr.ownsRow w.heap.size 79 7 l (A0f P k).length ((A0f P k).map Out.cells).flatten∧Below w.heap.size w wr) (fun _ i _=>P.steps.length - (intOf i).toNat)
 case atStart=>exact ⟨0,I4 _,rfl,Iv _ _ _ _,Hv _ _⟩
 case round=>
  obtain ⟨k,hk,rfl,hown,hbr⟩:=hrel
  obtain ⟨al,cl,rfl,_⟩:=aC hown
  have HBr:=Hu hbr
  have HOw:=Hu hown
  have hzr:=hbr.size
  have x16:=ah hbr HX16.out HLp.out
  have hol:=HOl.out k hk
  clear hbr hown
  rcases (show k<P.steps.length∨k=P.steps.length by omega) with hlt|rfl
  ·have hlt':(k:Int)<(P.steps.length:Int):=by omega
   have k0:(0:Int)≤(k:Int):=by omega
   obtain ⟨bs,os,rfl,hbs,hrg⟩:=HSt.out (by omega)
   have hws:=(HPg.out.below HBr.out).ws k hlt
   obtain ⟨a,cap,em,h1,h2,h3,h4⟩:=hws.o.1
   have c60:wr.cell? ⟨bs,os+k*61+60,none⟩=some (.slice a (P.steps.getD k Stp.zero).out.length cap):=by
    refine Ct HBr.out hbs (hrg k hlt) 60 _ ?_
    rw [show (P.steps.getD k Stp.zero).out.length=((P.steps.getD k Stp.zero).out.map Out.cells).length by rw [I9],← em]
    rfl
   have hno:=A0s hlt
   have hl2:=HOl.out (k+1) (by omega)
   have hkk:k*160≤320000:=by omega
   rw [hno,Ic] at hl2
   obtain ⟨O,hO⟩:∃ O,O=(P.steps.getD k Stp.zero).out:=⟨_,rfl⟩
   rw [← hO] at c60 hno hl2 h1 h4
   have HNo:=Hu hno
   have hlen:=A0w O
   have hone:=A1k O
   cases a with
   | none=>
    have hc0:cap=0:=h3 rfl
    have hX:O=[]:=List.length_eq_zero_iff.1 (by rw [I9] at h1;omega)
    subst hX hc0
    rw [List.append_nil] at hno
    have HN1:=Hu hno
    clear h1 h2 h3 h4 hno hws hrg hlen hone hO em
    go_wp2_with (at_builtin;refine wpList_append_own_none rfl _ _ 36 rfl w.heap.size 79 i0 7 Tryz.underlying36 hi _ _ _ rfl HOw.out rfl ?_)
    go_roundw
    case rel=>exact ⟨k+1,by omega,by go_num,by rw [HN1.out];exact HOw.out,HBr.out⟩
    case measure=>simp [intOf];omega
   | some ad=>
    have hnews:∀ j u,(O.map Out.cells).flatten[j]?=some u→wr.cell? (ad.add j)=some u:=by
     by_cases hX:O=[]
     ·subst hX;intro j u hu;simp at hu
     ·obtain ⟨b,off,hab,_,hcell⟩:=h4 (by simpa using hX)
      simp only [Option.some.injEq] at hab
      subst hab
      exact yK (by decide) hlen hcell
    have hfl:(O.map Out.cells).flatten.length=O.length*7:=by rw [aO hlen,I9]
    have A:=Hu (And.intro hone (And.intro hnews hfl))
    clear h1 h2 h3 h4 hno hws hrg hlen hone hO em hnews hfl
    go_wp2_with (at_builtin;go_loud (refine wpList_append_own _ rfl _ _ 36 rfl w.heap.size 79 i0 (.agg #[.int .i64 0,.int .i64 0,.int .i64 0,.int .i64 0,.int .i64 0,.int .i64 0,.int .i64 0]) 7 56 Tryz.underlying36 hi hi0 hi1 hi2 rfl (by decide) _ _ _ rfl HOw.out ad O.length cap ((O.map Out.cells).flatten) rfl A.out.2.2 A.out.2.1 A.out.1 ?c1 ?c2 ?c3 ?_))
    case c1=>unfold maxLen;omega
    case c2=>omega
    case c3=>exact hzr
    intro v' w6 hown' hgrow _
    have hO6:w6.ownsRow w.heap.size 79 7 v' (A0f P (k+1)).length ((A0f P (k+1)).map Out.cells).flatten:=by
     rw [HNo.out,Ic,Ir,Il];exact hown'
    have hb6:=cM (B:=w.heap.size) (Hv _ wr) hzr HOw.out hgrow
    have HO6:=Hu hO6
    have HB6:=Hu hb6
    obtain ⟨a6,c6,rfl,_⟩:=aC hO6
    clear hown' hgrow hb6 hO6
    go_wp2_with fail
    exact ⟨⟨k+1,by omega,by go_num,HO6.out,HBr.out.trans HB6.out⟩,by simp [intOf];omega⟩
  ·have hge:¬ (P.steps.length:Int)<(P.steps.length:Int):=by omega
   go_wp2
   go_ret
   exact ⟨_,rfl,aD HOw.out (by simp) (A0w _),HBr.out⟩
def kc (k:Int) (O:List Out):Nat:=O.countP fun o=>o.kind == k
theorem A0j (k:Int) (A B:List Out):kc k (A++B)=kc k A+kc k B:=List.countP_append
theorem A0e (k:Int) (o:Out) (O:List Out):kc k (o :: O)=kc k O+if o.kind=k then 1 else 0:=by
 unfold kc
 rw [List.countP_cons]
 by_cases h:o.kind=k<;>simp [h]
theorem A0x {k:Int} {O:List Out} (h:∀ o∈O,o.kind≠k):kc k O=0:=by
 unfold kc
 rw [List.countP_eq_zero]
 intro o ho
 simpa using h o ho
theorem A1l {X:Wd} {b:Int}:(bZ X b).1.tok=X.tok∧(bZ X b).1.cf=X.cf∧∀ o∈(bZ X b).2,o.kind=9:=by
 unfold bZ
 cases hl:dt X.lives b with
 | none=>exact ⟨rfl,rfl,fun o h=>absurd h (by simp)⟩
 | some x=>
  simp only
  split
  ·exact ⟨rfl,rfl,fun o h=>by simp only [List.mem_singleton] at h;rw [h]⟩
  ·exact ⟨rfl,rfl,fun o h=>absurd h (by simp)⟩
section
structure A0l (R:Wd→Wd→List Out→Prop):Prop where
 nil:∀ X,R X X []
 app:∀ X Y Z A B,R X Y A→R Y Z B→R X Z (A++B)
 en:∀ X i k y,GwMay X→i<X.flows.length→(k=6∨k=7)→R X (gQ X i k y).1 (gQ X i k y).2
 fa:∀ X i why,GwMay X→i<X.flows.length→R X (eU X i why).1 (eU X i why).2
variable {R:Wd→Wd→List Out→Prop}
theorem A0l.due (hR:A0l R):∀ (S:List Int) (P:Wd×List Out),GwMay P.1→S.Nodup→(∀ s∈S,∃ f∈P.1.flows,f.slot=s)→∃ O,(S.foldl lX P).2=P.2++O∧R P.1 (S.foldl lX P).1 O
 | [],P,_,_,_=>⟨[],by simp,hR.nil _⟩
 | s :: S,P,h,hn,hS=>by
  rw [List.nodup_cons] at hn
  have hf:=mH h (hS s (Im ..))
  have h1:=DO h hf
  obtain ⟨O2,e2,r2⟩:=hR.due S (lX P s) (DQ h hf) hn.2 (fun t ht=>by
   obtain ⟨f,hfm,hfs⟩:=hS t (Ip _ ht)
   exact ⟨f,h1.ke f hfm (fun e=>hn.1 (by rw [← e,hfs];exact ht)),hfs⟩)
  have h3:∃ O,(lX P s).2=P.2++O∧R P.1 (lX P s).1 O:=by
   unfold lX
   split
   ·exact ⟨_,rfl,hR.en _ _ _ _ h hf.2 (Or.inl rfl)⟩
   ·exact ⟨_,rfl,hR.fa _ _ _ h hf.2⟩
  obtain ⟨O1,e1,r1⟩:=h3
  exact ⟨O1++O2,by rw [List.foldl_cons,e2,e1,List.append_assoc],by rw [List.foldl_cons];exact hR.app _ _ _ _ _ r1 r2⟩
theorem A0l.cut (hR:A0l R):∀ (S:List Int) (P:Wd×List Out),GwMay P.1→S.Nodup→(∀ s∈S,∃ f∈P.1.flows,f.slot=s)→∃ O,(S.foldl oQ P).2=P.2++O∧R P.1 (S.foldl oQ P).1 O
 | [],P,_,_,_=>⟨[],by simp,hR.nil _⟩
 | s :: S,P,h,hn,hS=>by
  rw [List.nodup_cons] at hn
  have hf:=mH h (hS s (Im ..))
  have h1:=DT h hf
  obtain ⟨O2,e2,r2⟩:=hR.cut S (oQ P s) (DV h hf) hn.2 (fun t ht=>by
   obtain ⟨f,hfm,hfs⟩:=hS t (Ip _ ht)
   exact ⟨f,(h1.fl f).2 ⟨hfm,(fun e=>hn.1 (by rw [← e,hfs];exact ht))⟩,hfs⟩)
  have r1:R P.1 (oQ P s).1 (gQ P.1 (eY P.1 s) 6 2).2:=hR.en _ _ _ _ h hf.2 (Or.inl rfl)
  exact ⟨(gQ P.1 (eY P.1 s) 6 2).2++O2,by rw [List.foldl_cons,e2];unfold oQ;rw [List.append_assoc],by rw [List.foldl_cons];exact hR.app _ _ _ _ _ r1 r2⟩
theorem A0l.drain (hR:A0l R):∀ (L:List Lf) (P:Wd×List Out),GwMay P.1→∃ O,(L.foldl gb P).2=P.2++O∧R P.1 (L.foldl gb P).1 O
 | [],P,_=>⟨[],by simp,hR.nil _⟩
 | x :: L,P,h=>by
  obtain ⟨O2,e2,r2⟩:=hR.drain L (gb P x) (Bs h x).gw
  have h3:∃ O,(gb P x).2=P.2++O∧R P.1 (gb P x).1 O:=by
   unfold gb
   split
   ·exact ⟨[],by simp,hR.nil _⟩
   ·exact hR.cut _ _ h (nX _ _) fun s hs=>by
     obtain ⟨f,hf,_,hfs⟩:=(nk h).1 hs
     exact ⟨f,hf,hfs⟩
  obtain ⟨O1,e1,r1⟩:=h3
  exact ⟨O1++O2,by rw [List.foldl_cons,e2,e1,List.append_assoc],by rw [List.foldl_cons];exact hR.app _ _ _ _ _ r1 r2⟩
theorem A0l.tick (hR:A0l R) {X:Wd} (h:WdMay X) (hn:X.now<1099511626776) (h0:R X (iU X) []):R X (jc X).1 (jc X).2:=by
 obtain ⟨O1,e1,r1⟩:=hR.due (eN X) (iU X,[]) (Ai h hn) (sg h.gw) (fun s hs=>by
  obtain ⟨f,hf,_,hfs⟩:=(tQ h.gw).1 hs
  exact ⟨f,by rw [(k9 X).1];exact hf,hfs⟩)
 obtain ⟨O2,e2,r2⟩:=hR.drain (bV X).1.lives (bV X) (mO h hn).gw
 have e3:(jc X).2=O1++O2:=by
  show ((bV X).1.lives.foldl gb (bV X)).2=_
  rw [e2]
  show ((eN X).foldl lX (iU X,[])).2++O2=_
  rw [e1];rfl
 rw [e3]
 have h9:=hR.app _ _ _ _ _ h0 (hR.app _ _ _ _ _ r1 r2)
 rw [List.nil_append] at h9
 exact h9
end
structure ClR (X Y:Wd) (O:List Out):Prop where
 c:Y.flows.length+kc 6 O+kc 7 O=X.flows.length+kc 1 O
 f:∀ f∈Y.flows,∃ g∈X.flows,g.slot=f.slot∧g.gen=f.gen
theorem A0g (X:Wd) (b:Int):(bZ X b).1.flows=X.flows:=by
 obtain ⟨L,e,_⟩:=jw X b
 rw [e]
theorem A0v {k:Int} (hk:k≠9) {X:Wd} {b:Int}:kc k (bZ X b).2=0:=A0x fun o ho=>by rw [A1l.2.2 o ho];exact fun e=>hk e.symm
theorem A0t {X:Wd} {i:Nat} {k y:Int} (hi:i<X.flows.length) (hk:k=6∨k=7):ClR X (gQ X i k y).1 (gQ X i k y).2:=by
 have hf:(gQ X i k y).1.flows=X.flows.take i++X.flows.drop (i+1):=by unfold gQ;rw [A0g];rfl
 refine ⟨?_,fun f h=>?_⟩
 ·rw [hf]
  unfold gQ
  rw [A0e,A0e,A0e,A0v (by decide),A0v (by decide),A0v (by decide)]
  simp only [Ic,Ii,List.length_drop]
  rcases hk with rfl|rfl<;>simp<;>omega
 ·rw [hf] at h
  rcases List.mem_append.1 h with g|g
  ·exact ⟨f,List.mem_of_mem_take g,rfl,rfl⟩
  ·exact ⟨f,List.mem_of_mem_drop g,rfl,rfl⟩
theorem A1a {X:Wd} {i:Nat} (hi:i<X.flows.length) {f':Fl} (h1:f'.slot=(X.flows.getD i Fl.zero).slot) (h2:f'.gen=(X.flows.getD i Fl.zero).gen):∀ f∈X.flows.set i f',∃ g∈X.flows,g.slot=f.slot∧g.gen=f.gen:=by
 intro f hf
 rcases List.mem_or_eq_of_mem_set hf with g|g
 ·exact ⟨f,g,rfl,rfl⟩
 ·exact ⟨X.flows.getD i Fl.zero,by rw [aN hi];exact If hi,by rw [g,h1],by rw [g,h2]⟩
theorem A1m:A0l ClR where
 nil X:=⟨rfl,fun f h=>⟨f,h,rfl,rfl⟩⟩
 app X Y Z A B h k:=⟨by rw [A0j,A0j,A0j];have:=h.c;have:=k.c;omega,fun f hf=>by
  obtain ⟨g,hg,e1,e2⟩:=k.f f hf
  obtain ⟨g2,hg2,e3,e4⟩:=h.f g hg
  exact ⟨g2,hg2,e3.trans e1,e4.trans e2⟩⟩
 en X i k y _ hi hk:=A0t hi hk
 fa X i why _ hi:=by
  have hn:∀ Y O,ClR (bU X (X.flows.getD i Fl.zero).backend.toNat true) Y O→ClR X Y O:=fun Y O h=>⟨h.c,h.f⟩
  unfold eU
  simp only
  split
  ·exact hn _ _ (A0t hi (Or.inl rfl))
  ·split
   ·exact hn _ _ (A0t hi (Or.inl rfl))
   ·have hset:=fun b=>A1a hi (f':={ X.flows.getD i Fl.zero with backend:=b,retries:=(X.flows.getD i Fl.zero).retries+1,due:=X.now+X.cf.connect }) rfl rfl
    split
    ·refine ⟨?_,hset _⟩
     rw [A0e,A0e,A0e]
     show (X.flows.set i _).length+_+_=_
     rw [Ig]
     simp [kc]
    ·refine ⟨?_,?_⟩
     ·rw [A0e,A0e,A0e,A0v (by decide),A0v (by decide),A0v (by decide),A0g]
      show (X.flows.set i _).length+_+_=_
      rw [Ig]
      simp
     ·rw [A0g]
      exact hset _
theorem A2l {X:Wd} (h:WdMay X) {e:Ev} (he:EvMay X e):(mP X e).1.flows.length+kc 6 (mP X e).2+kc 7 (mP X e).2=X.flows.length+kc 1 (mP X e).2∧∀ f∈(mP X e).1.flows,(∃ g∈X.flows,g.slot=f.slot∧g.gen=f.gen)∨∃ g∈nN (mP X e).2,g.slot=f.slot∧g.gen=f.gen:=by
 have go:∀ Y O,ClR X Y O→Y.flows.length+kc 6 O+kc 7 O=X.flows.length+kc 1 O∧∀ f∈Y.flows,(∃ g∈X.flows,g.slot=f.slot∧g.gen=f.gen)∨∃ g∈nN O,g.slot=f.slot∧g.gen=f.gen:=fun Y O r=>⟨r.c,fun f hf=>Or.inl (r.f f hf)⟩
 have same:∀ Y O,Y.flows=X.flows→(∀ o∈O,o.kind≠6∧o.kind≠7∧o.kind≠1)→ClR X Y O:=fun Y O hf h=>⟨by rw [A0x fun o ho=>(h o ho).1,A0x fun o ho=>(h o ho).2.1,A0x fun o ho=>(h o ho).2.2,hf],fun f hm=>⟨f,hf ▸ hm,rfl,rfl⟩⟩
 unfold mP
 split
 ·unfold gj
  split
  ·exact go _ _ (same _ _ rfl (by simp))
  ·split
   ·exact go _ _ (same _ _ rfl (by simp))
   ·rename_i h1 _
    rcases bJ fh X.tab Sl.zero with ⟨e,_⟩|⟨i,hi,e,_⟩
    ·omega
    ·rw [e]
     refine ⟨?_,fun f hf=>?_⟩
     ·show (lU X.flows _).length+_+_=_
      rw [(sy _ _).length_eq,A0e,A0e,A0e]
      simp [kc]
     ·have hf':f∈lU X.flows _:=hf
      rw [(sy _ _).mem_iff] at hf'
      rcases List.mem_append.1 hf' with g|g
      ·exact Or.inl ⟨f,g,rfl,rfl⟩
      ·simp only [List.mem_singleton] at g
       right
       refine ⟨⟨(i:Int),(X.tab.getD i Sl.zero).gen⟩,?_,?_,?_⟩
       ·simp [nN]
       ·rw [g];simp
       ·rw [g];simp
 ·split
  ·have h9:∀ o∈(um X e).2,o.kind=8∨o.kind=9:=fun o ho=>zL ho
   have hf:(um X e).1.flows=X.flows:=by
    unfold um jF
    simp only
    split
    ·rfl
    ·split
     ·rfl
     ·rw [A0g]
   exact go _ _ (same _ _ hf fun o ho=>by rcases h9 o ho with g|g<;>omega)
  ·split
   ·rename_i h7
    exact go _ _ (A1m.tick h (he.tk h7) (same _ _ (k9 X).1 (by simp)))
   ·unfold fj
    by_cases hc:ub X.tab e.slot e.gen≠0
    ·rw [if_pos hc];exact go _ _ (same _ _ rfl (by simp))
    ·rw [if_neg hc]
     obtain ⟨_,hi,_,_⟩:=yz h.gw (Decidable.not_not.1 hc)
     split
     ·exact go _ _ (A0t hi (Or.inr rfl))
     ·split
      ·refine go _ _ ?_
       split
       ·refine ⟨?_,A1a hi rfl rfl⟩
        show (X.flows.set _ _).length+_+_=_
        rw [Ig];simp [kc]
       ·exact same _ _ rfl (by simp)
      ·split
       ·exact go _ _ (same _ _ rfl (by simp))
       ·split
        ·refine go _ _ ⟨?_,?_⟩
         ·show ((X.flows.set _ _).set _ _).length+_+_=_
          rw [Ig,Ig];simp [kc]
         ·intro f hf
          have hf':f∈(X.flows.set (eY X e.slot) { X.flows.getD (eY X e.slot) Fl.zero with serving:=true }).set (eY X e.slot) _:=hf
          rcases List.mem_or_eq_of_mem_set hf' with g|g
          ·exact A1a hi (f':={ X.flows.getD (eY X e.slot) Fl.zero with serving:=true }) rfl rfl f g
          ·refine ⟨X.flows.getD (eY X e.slot) Fl.zero,h.gw.at_ hi,?_,?_⟩
           ·rw [g]
            show _=((X.flows.set (eY X e.slot) _).getD (eY X e.slot) Fl.zero).slot
            rw [cO hi,if_pos rfl]
           ·rw [g]
            show _=((X.flows.set (eY X e.slot) _).getD (eY X e.slot) Fl.zero).gen
            rw [cO hi,if_pos rfl]
        ·exact go _ _ (A1m.fa _ _ _ h.gw hi)
theorem A1s {X:Wd} (h:GwMay X) (hd:Hd):nN (mP X (gY 3 hd false)).2=[]∧∀ f∈(mP X (gY 3 hd false)).1.flows,f∈X.flows∧¬ (f.slot=hd.slot∧f.gen=hd.gen):=by
 have e3:(gY 3 hd false).kind=3:=rfl
 have hd_:mP X (gY 3 hd false)=fj X (gY 3 hd false):=by unfold mP;rw [if_neg (by rw [e3];decide),if_neg (by rw [e3];decide),if_neg (by rw [e3];decide)]
 rw [hd_]
 refine ⟨kV fun o ho=>wB ho,fun f hf=>?_⟩
 unfold fj at hf
 by_cases hc:ub X.tab hd.slot hd.gen≠0
 ·have hc':ub X.tab (gY 3 hd false).slot (gY 3 hd false).gen≠0:=hc
  rw [if_pos hc'] at hf
  refine ⟨hf,fun e=>hc ?_⟩
  obtain ⟨s,hs,hs',h2,_⟩:=h.num hf
  unfold ub
  rw [← e.1,← e.2,hs,if_neg (by omega),Id,h2,if_pos ⟨rfl,rfl⟩]
 ·have hc':¬ ub X.tab (gY 3 hd false).slot (gY 3 hd false).gen≠0:=hc
  rw [if_neg hc',if_pos e3] at hf
  obtain ⟨_,hi,hs,_⟩:=yz h (Decidable.not_not.1 hc)
  obtain ⟨i,hii⟩:∃ i,i=eY X hd.slot:=⟨_,rfl⟩
  have hf2:f∈(gQ X (eY X hd.slot) 7 0).1.flows:=hf
  rw [← hii] at hf2 hi hs
  have hfl:(gQ X i 7 0).1.flows=X.flows.take i++X.flows.drop (i+1):=by unfold gQ;rw [A0g];rfl
  rw [hfl] at hf2
  have hsp:X.flows=X.flows.take i++X.flows.getD i Fl.zero :: X.flows.drop (i+1):=by rw [aN hi,List.getElem_cons_drop,Io]
  have hso:=h.so
  rw [hsp,List.pairwise_append,List.pairwise_cons] at hso
  rcases List.mem_append.1 hf2 with g|g
  ·have:=hso.2.2 f g _ (Im ..)
   exact ⟨List.mem_of_mem_take g,fun e=>by omega⟩
  ·have:=hso.2.1.1 f g
   exact ⟨List.mem_of_mem_drop g,fun e=>by omega⟩
structure A0q (P:lA):Prop where
 c:P.last.flows.length+kc 6 (A0a P)+kc 7 (A0a P)=kc 1 (A0a P)
 h:∀ f∈P.last.flows,∃ g∈P.given,g.slot=f.slot∧g.gen=f.gen
theorem A1n {c:Cf} {P:lA} {n:Nat} (h:PlyAt c P n) (hn:n≤100000) {e:Ev} (he:EvGood e) (q:A0q P):A0q (sI P e):=by
 have hm:EvMay P.last e:=he.may (by have:=h.ok.nw;have:=h.len;omega)
 have h1:=A2l h.ok.wd hm
 refine ⟨?_,fun f hf=>?_⟩
 ·rw [A1q,A0j,A0j,A0j]
  show (mP P.last e).1.flows.length+_+_=_
  have:=h1.1;have:=q.c;omega
 ·rcases h1.2 f hf with ⟨g,hg,e1,e2⟩|⟨g,hg,e1⟩
  ·obtain ⟨g2,hg2,e3,e4⟩:=q.h g hg
   exact ⟨g2,List.mem_append_left _ hg2,e3.trans e1,e4.trans e2⟩
  ·exact ⟨g,List.mem_append_right _ hg,e1⟩
theorem A1t {c:Cf} (hc:ju c) (L:List Dd) {most:Nat} (hm:most≤1000):A0q (iI (dy c) L most):=
 play_ind hc (Q:=A0q) L hm ⟨by simp [A0a,A0f,kc,dy],fun f hf=>absurd hf (by simp [dy])⟩ fun P n e h hn he q=>A1n h (by omega) he q
def clP (P:lA) (k:Nat):lA:=(P.given.take k).foldl (fun Q g=>sI Q (gY 3 g false)) P
theorem A1b {P:lA} {k:Nat} (hk:k<P.given.length) (d:Hd):clP P (k+1)=sI (clP P k) (gY 3 (P.given.getD k d) false):=by
 unfold clP
 rw [Ia hk,List.foldl_append,aN hk]
 rfl
structure A1z (c:Cf) (P Q:lA) (n k:Nat):Prop where
 at_:PlyAt c Q (n+k)
 g:Q.given=P.given
 q:A0q Q
 d:∀ f∈Q.last.flows,∀ g∈P.given.take k,¬ (f.slot=g.slot∧f.gen=g.gen)
theorem A1c {c:Cf} {P:lA} {n:Nat} (h:PlyAt c P n) (q:A0q P) (hn:n≤1000):∀ {k:Nat},k≤P.given.length→A1z c P (clP P k) n k
 | 0,_=>⟨h,rfl,q,fun f _ g hg=>absurd hg (by simp)⟩
 | k+1,hk=>by
  have hi:=A1c h q hn (k:=k) (by omega)
  have hgl:=h.gl
  obtain ⟨x,hx⟩:∃ x,x=P.given.getD k ⟨0,0⟩:=⟨_,rfl⟩
  have hxm:x∈P.given:=by rw [hx,aN (by omega)];exact If _
  have hgood:EvGood (gY 3 x false):=zD (Or.inr rfl) (h.ok.gi x hxm)
  have hc:=A1s hi.at_.ok.wd.gw x
  rw [A1b (by omega) ⟨0,0⟩,← hx]
  refine ⟨hi.at_.doP hgood (by omega),?_,A1n hi.at_ (by omega) hgood hi.q,fun f hf g hg=>?_⟩
  ·show (clP P k).given++nN _=_
   rw [hc.1,List.append_nil,hi.g]
  ·have hf2:=hc.2 f hf
   rw [Ia (by omega)] at hg
   rcases List.mem_append.1 hg with hg|hg
   ·exact hi.d f hf2.1 g hg
   ·simp only [List.mem_singleton] at hg
    have:g=x:=by rw [hg,hx,aN (by omega)]
    rw [this]
    exact hf2.2
theorem A2b {c:Cf} {P:lA} {n:Nat} (h:PlyAt c P n) (q:A0q P) (hn:n≤1000):(clP P P.given.length).last.flows=[]∧kc 6 (A0a (clP P P.given.length))+kc 7 (A0a (clP P P.given.length))=kc 1 (A0a (clP P P.given.length))∧∀ b,gL (clP P P.given.length).last.lives b≠3:=by
 have hi:=A1c h q hn (I3 _)
 have hf:(clP P P.given.length).last.flows=[]:=by
  rw [List.eq_nil_iff_forall_not_mem]
  intro f hf
  obtain ⟨g,hg,e1,e2⟩:=hi.q.h f hf
  rw [hi.g] at hg
  exact hi.d f hf g (by rw [List.take_length];exact hg) ⟨e1.symm,e2.symm⟩
 refine ⟨hf,?_,fun b hb=>?_⟩
 ·have:=hi.q.c
  rw [hf] at this
  simpa using this
 ·unfold gL at hb
  cases hl:dt (clP P P.given.length).last.lives b with
  | none=>rw [hl] at hb;simp at hb
  | some x=>
   rw [hl] at hb
   obtain ⟨f,hfm,_⟩:=hi.at_.ok.wd.gw.dr x (dz hl).1 (by simpa using hb)
   rw [hf] at hfm
   simp at hfm
def A0h (j:Nat) (o:Out):Bool:=if j<11 then decide (o.kind=j) else decide (o.kind=6∧o.why=(j:Int) - 11)
def cnt (X:List Out) (j:Nat):Nat:=X.countP (A0h j)
theorem A0o (X:List Out) (j:Nat):cnt X j≤X.length:=List.countP_le_length
theorem A1d (X:List Out) (o:Out) (j:Nat):cnt (X++[o]) j=cnt X j+if A0h j o then 1 else 0:=by
 unfold cnt;rw [List.countP_append,List.countP_singleton]
def A0d (o:Out):Prop:=1≤o.kind∧o.kind≤10∧0≤o.why∧o.why≤5
theorem A1u (o:Out) (w:World) (h:A0d o):Calls Tryz.prog 20 #[.agg #[.int .i64 o.kind,.int .i64 o.slot,.int .i64 o.gen,.int .i64 o.backend,.int .i64 o.request,.int .i64 o.code,.int .i64 o.why]] w fun e w'=>e=.returned (.bool true)∧Below w.heap.size w w':=by
 obtain ⟨h1,h2,h3,h4⟩:=h
 go_enter Tryz.func20,Tryz.ntmps20
 go_wp2
 all_goals exact Zf
def A0c (w:World) (b:Nat) (X:List Out):Prop:=∃ (arr:Array Value) (T:TypeId),w.heap[b]?=some (.cells arr T (0,0))∧arr.size=17∧∀ j,j<17→arr[j]?=some (.int .i64 (cnt X j))
theorem A0c.cell {w:World} {b:Nat} {X:List Out} (h:A0c w b X) {j:Nat} (hj:j<17):w.cell? ⟨b,j,none⟩=some (.int .i64 (cnt X j)):=by
 obtain ⟨arr,T,h1,_,h2⟩:=h
 simp [World.cell?,h1,h2 j hj]
theorem A0c.free {w:World} {b:Nat} {X:List Out} (h:A0c w b X) (j:Nat):w.frozen? ⟨b,j,none⟩=false:=by
 obtain ⟨arr,T,h1,_,h2⟩:=h
 simp [World.frozen?,h1]
theorem A0c.lt {w:World} {b:Nat} {X:List Out} (h:A0c w b X):b<w.heap.size:=by
 obtain ⟨arr,T,h1,_,_⟩:=h;exact lt_of_block h1
theorem A0i {w:World} {b j:Nat} {arr:Array Value} {T:TypeId} {fr:Nat×Nat} (h:w.heap[b]?=some (.cells arr T fr)) (u:Value):(w.setCell ⟨b,j,none⟩ u).heap[b]?=some (.cells (arr.setIfInBounds j u) T fr):=by
 have hlt:=lt_of_block h
 have h':w.heap[b]=.cells arr T fr:=by simpa [Array.getElem?_eq_getElem hlt] using h
 show (w.heap.modify b _)[b]?=_
 rw [Array.getElem?_eq_getElem (by simpa using hlt),Array.getElem_modify_self,h']
 rfl
theorem A0c.below {w w':World} {b B:Nat} {X:List Out} (h:A0c w b X) (hb:Below B w w') (hB:b<B):A0c w' b X:=by
 obtain ⟨arr,T,h1,h2,h3⟩:=h
 exact ⟨arr,T,(hb.block b hB).trans h1,h2,h3⟩
theorem A0c.one {w:World} {b:Nat} {X:List Out} (h:A0c w b X) (o:Out) (K:Nat) (hK:o.kind=K) (h1:K≤10) (h6:K≠6):A0c (w.setCell ⟨b,K,none⟩ (.int .i64 ((cnt X K:Int)+1))) b (X++[o]):=by
 obtain ⟨arr,T,g1,g2,g3⟩:=h
 refine ⟨_,T,A0i g1 _,by simpa using g2,fun j hj=>?_⟩
 rw [Array.getElem?_setIfInBounds,A1d]
 by_cases hj2:K=j
 ·subst hj2
  rw [if_pos rfl,if_pos (by omega)]
  have:A0h K o=true:=by unfold A0h;rw [if_pos (by omega)];simpa using hK
  rw [this];simp
 ·rw [if_neg hj2,g3 j hj]
  have:A0h j o=false:=by
   unfold A0h
   split
   ·simp;omega
   ·simp;intro h;omega
  rw [this];simp
theorem A0c.two {w:World} {b:Nat} {X:List Out} (h:A0c w b X) (o:Out) (Y:Nat) (hK:o.kind=6) (hY:o.why=Y) (h1:Y≤5):A0c ((w.setCell ⟨b,6,none⟩ (.int .i64 ((cnt X 6:Int)+1))).setCell ⟨b,11+Y,none⟩ (.int .i64 ((cnt X (11+Y):Int)+1))) b (X++[o]):=by
 obtain ⟨arr,T,g1,g2,g3⟩:=h
 refine ⟨_,T,A0i (A0i g1 _) _,by simpa using g2,fun j hj=>?_⟩
 rw [Array.getElem?_setIfInBounds,Array.getElem?_setIfInBounds,A1d]
 by_cases hj2:11+Y=j
 ·subst hj2
  rw [if_pos rfl,if_pos (by simp;omega)]
  have:A0h (11+Y) o=true:=by unfold A0h;rw [if_neg (by omega)];simp;omega
  rw [this];simp
 ·rw [if_neg hj2]
  by_cases hj3:6=j
  ·subst hj3
   rw [if_pos rfl,if_pos (by omega)]
   have:A0h 6 o=true:=by unfold A0h;rw [if_pos (by omega)];simpa using hK
   rw [this];simp
  ·rw [if_neg hj3,g3 j hj]
   have:A0h j o=false:=by
    unfold A0h
    split
    ·simp;omega
    ·simp;intro h;omega
   rw [this];simp
theorem A1o {α:Type} (X:List α) (d:α) (k:Nat) (hk:k<X.length):X.take (k+1)=X.take k++[X.getD k d]:=by
 rw [Ia hk];simp [List.getD,hk]
def A0b (X:List Out):Array Value:=((List.range 17).map fun j=>Value.int .i64 (cnt X j)).toArray
theorem A2n (X:List Out):A0b X=#[.int .i64 (cnt X 0),.int .i64 (cnt X 1),.int .i64 (cnt X 2),.int .i64 (cnt X 3),.int .i64 (cnt X 4),.int .i64 (cnt X 5),.int .i64 (cnt X 6),.int .i64 (cnt X 7),.int .i64 (cnt X 8),.int .i64 (cnt X 9),.int .i64 (cnt X 10),.int .i64 (cnt X 11),.int .i64 (cnt X 12),.int .i64 (cnt X 13),.int .i64 (cnt X 14),.int .i64 (cnt X 15),.int .i64 (cnt X 16)]:=rfl
theorem A0c.block {w:World} {b:Nat} {X:List Out} (h:A0c w b X):∃ T,w.heap[b]?=some (.cells (A0b X) T (0,0)):=by
 obtain ⟨arr,T,h1,h2,h3⟩:=h
 refine ⟨T,?_⟩
 rw [h1]
 congr 2
 refine Array.ext (by rw [h2];rfl) (fun i hi _=>?_)
 have h4:=h3 i (by omega)
 rw [Array.getElem?_eq_getElem hi] at h4
 simp only [Option.some.injEq] at h4
 rw [h4]
 simp [A0b]
theorem A2m (X:List Out):(A0b X).size=17:=rfl
theorem A0r (X:List Out):(A0b X).all (·.oneCell')=true:=by simp [A0b];intro x _;rfl
def A2f (w wr:World) (X:List Out) (k:Nat):Prop:=k≤X.length∧Below w.heap.size w wr∧A0c wr w.heap.size []∧A0c wr (w.heap.size+1) (X.take k)
theorem A2g (b0 o0 c0:Nat) (X:List Out) (w:World) (hf:∀ x∈X,A0d x) (hb0:b0<w.heap.size) (hn:X.length*56≤140737488351232) (h1:∀ i j,i<X.length→j<7→w.cell? ⟨b0,o0+i*7+j,none⟩=(X.getD i Out.zero).cells[j]?) :
  Calls Tryz.prog 9 #[.slice (some ⟨b0,o0,none⟩) X.length c0] w fun e w'=>e=.returned (.tuple #[.agg (A0b X),.int .i64 0])∧Below w.heap.size w w':=by
 have H1:=Hu h1
 have HF:=Hu hf
 clear h1 hf
 have hn2:X.length≤9223372036854775807:=by omega
 go_enter Tryz.func9,Tryz.ntmps9
 go_wp2
 go_loopw [9] (fun i wr=>∃ k:Nat,i=.int .i64 k∧A2f w wr X k) (fun i _=>X.length - (intOf i).toNat)
 case atStart=>
  have hz:∀ (w:World) (T:TypeId),A0c (w.alloc (.cells #[.int .i64 0,.int .i64 0,.int .i64 0,.int .i64 0,.int .i64 0,.int .i64 0,.int .i64 0,.int .i64 0,.int .i64 0,.int .i64 0,.int .i64 0,.int .i64 0,.int .i64 0,.int .i64 0,.int .i64 0,.int .i64 0,.int .i64 0] T)) w.heap.size []:=by
   intro w T
   refine ⟨_,T,az _ rfl,rfl,fun j hj=>?_⟩
   rcases (show j=0∨j=1∨j=2∨j=3∨j=4∨j=5∨j=6∨j=7∨j=8∨j=9∨j=10∨j=11∨j=12∨j=13∨j=14∨j=15∨j=16 by omega) with rfl|rfl|rfl|rfl|rfl|rfl|rfl|rfl|rfl|rfl|rfl|rfl|rfl|rfl|rfl|rfl|rfl<;>rfl
  refine ⟨0,rfl,I4 _,((Hv _ _).alloc (I3 _) _).alloc (by simp) _,?_,?_⟩
  ·exact (hz w _).below ((Hv _ _).alloc (I3 _) _) (by simp)
  ·simpa using hz (w.alloc _) _
 case round=>
  obtain ⟨k,rfl,hk,hbel,t0,t1⟩:=hrel
  rcases (show k<X.length∨X.length=k by omega) with hlt|heq
  ·have hlt':(k:Int)<(X.length:Int):=by omega
   obtain ⟨o,ho⟩:∃ o,o=X.getD k Out.zero:=⟨_,rfl⟩
   have hfo:A0d o:=HF.out o (by rw [ho];simp only [List.getD,Ib hlt,Iu];exact If _)
   have hts:X.take (k+1)=X.take k++[o]:=by rw [ho];exact A1o X _ k hlt
   have hold:∀ j,j<7→wr.cell? ⟨b0,o0+k*7+j,none⟩=o.cells[j]?:=fun j hj=>by
    rw [hbel.cell (p:=⟨b0,o0+k*7+j,none⟩) hb0,ho];exact H1.out k j hlt hj
   have HT:=Hu hts
   clear ho hts
   have a0:=hold 0 (by omega)
   have a1:=hold 1 (by omega)
   have a2:=hold 2 (by omega)
   have a3:=hold 3 (by omega)
   have a4:=hold 4 (by omega)
   have a5:=hold 5 (by omega)
   have a6:=hold 6 (by omega)
   clear hold
   have HFo:=Hu hfo
   obtain ⟨f1,f2,f3,f4⟩:=hfo
   obtain ⟨kd,sl,gn,bk,rq,cd,wy⟩:=o
   simp only [Out.cells,I5,I6,Nat.add_zero] at a0 a1 a2 a3 a4 a5 a6 f1 f2 f3 f4
   obtain ⟨K,rfl⟩:=Ih (by omega:0≤kd)
   obtain ⟨Y,rfl⟩:=Ih (by omega:0≤wy)
   have lt1:=t1.lt
   have leK:=A0o (X.take k) K
   have leY:=A0o (X.take k) (11+Y)
   have ltk:(X.take k).length≤X.length:=by simp;omega
   have T0:=Hu t0
   have T1:=Hu t1
   clear t0 t1
   go_wp2_with fail
   refine (A1u ⟨_,_,_,_,_,_,_⟩ _ HFo.out).mono ?_
   rintro e w1 ⟨rfl,hb1⟩
   obtain ⟨hc1,hf1⟩:=aV hb1
   have hz1:=fQ hb1
   have hy1:=hb1.size
   simp at hy1
   have hB:Below (w.heap.size+2) wr w1:=((Hv _ _).alloc (by omega) _).trans (hb1.mono (by simp;omega))
   have t0:=T0.out.below hB (by omega)
   have t1:=T1.out.below hB (by omega)
   have cK:=t1.cell (j:=K) (by omega)
   have cY:=t1.cell (j:=11+Y) (by omega)
   have fK:=t1.free K
   have fY:=t1.free (11+Y)
   have hz2:w.heap.size+1<w1.heap.size:=by omega
   have hbw:Below w.heap.size w w1:=hbel.trans (hB.mono (by omega))
   have T0':=Hu t0
   have T1':=Hu t1
   have HB:=Hu hbw
   clear t0 t1 T0 T1 hB hbw hb1
   rcases (show K≠6∨K=6 by omega) with h6|h6
   ·have h6':(((K:Nat):Int) == 6)=false:=by simp;omega
    go_wp2
    go_roundw
    case rel=>exact ⟨k+1,by go_num,by omega,HB.out.setCell (by simp) _,T0'.out.below ((Hv (w.heap.size+1) _).setCell (by simp) _) (by omega),by rw [HT.out];exact T1'.out.one _ K rfl (by omega) h6⟩
    case measure=>simp [intOf];omega
   ·subst h6
    go_wp2
    go_roundw
    case rel=>exact ⟨k+1,by go_num,by omega,(HB.out.setCell (by simp) _).setCell (by simp) _,T0'.out.below (((Hv (w.heap.size+1) _).setCell (by simp) _).setCell (by simp) _) (by omega),by rw [HT.out];exact T1'.out.two _ Y rfl rfl (by omega)⟩
    case measure=>simp [intOf];omega
  ·have hge:¬ (k:Int)<(X.length:Int):=by omega
   have hX:X.take k=X:=Ie (by omega)
   rw [hX] at t1
   obtain ⟨T1,g1⟩:=t1.block
   obtain ⟨T0,g0⟩:=t0.block
   have HB:=Hu hbel
   have G1:=Hu g1
   have G0:=Hu g0
   clear t0 t1 hX heq hbel g1 g0
   go_wp2_with (first|(refine Iy rfl 32 (.tmp 4) rfl (w.heap.size+1) rfl T1 (A0b X) (0,0) _ G1.out Tryz.underlying32 rfl (by kernel_rfl) ?_)|(refine Iz rfl 32 (.tmp 2) (.tmp 37) rfl w.heap.size (A0b X) rfl rfl T0 (A0b []) G0.out (by kernel_rfl) rfl (A0r X) ?_))
   refine Ix (v:=.tuple #[.agg (A0b X),.int .i64 0]) ?_ rfl ?_
   ·exact eQ Tryz.results9 _ _ w.heap.size T0 (A0b X) (0,0) _ _ rfl rfl (aZ G0.out) Tryz.underlying32 rfl (by kernel_rfl)
   ·exact ⟨rfl,aW HB.out (I3 _)⟩
theorem A2h (a:Option Addr) (c:Nat) (w:World):Calls Tryz.prog 9 #[.slice a 0 c] w fun e w'=>e=.returned (.tuple #[.agg (A0b []),.int .i64 0])∧Below w.heap.size w w':=by
 go_enter Tryz.func9,Tryz.ntmps9
 go_wp2
 refine wp_loop_rounds 1 ?_
 rw [rounds_succ]
 have hz:∀ (w:World) (T:TypeId),(w.alloc (.cells #[.int .i64 0,.int .i64 0,.int .i64 0,.int .i64 0,.int .i64 0,.int .i64 0,.int .i64 0,.int .i64 0,.int .i64 0,.int .i64 0,.int .i64 0,.int .i64 0,.int .i64 0,.int .i64 0,.int .i64 0,.int .i64 0,.int .i64 0] T)).heap[w.heap.size]?=some (.cells (A0b []) T (0,0)):=fun w T=>az _ rfl
 have g1:=hz (w.alloc (.cells #[.int .i64 0,.int .i64 0,.int .i64 0,.int .i64 0,.int .i64 0,.int .i64 0,.int .i64 0,.int .i64 0,.int .i64 0,.int .i64 0,.int .i64 0,.int .i64 0,.int .i64 0,.int .i64 0,.int .i64 0,.int .i64 0,.int .i64 0] 32)) 32
 have g0:=hz w 32
 have G1:=Hu g1
 have G0:=Hu ((Hz _ (.cells #[.int .i64 0,.int .i64 0,.int .i64 0,.int .i64 0,.int .i64 0,.int .i64 0,.int .i64 0,.int .i64 0,.int .i64 0,.int .i64 0,.int .i64 0,.int .i64 0,.int .i64 0,.int .i64 0,.int .i64 0,.int .i64 0,.int .i64 0] 32) w.heap.size (by simp)).trans g0)
 clear hz g1 g0
 go_wp2_with (first|(refine Iy rfl 32 (.tmp 4) rfl (w.heap.size+1) rfl _ (A0b []) (0,0) _ G1.out Tryz.underlying32 rfl (by kernel_rfl) ?_)|(refine Iz rfl 32 (.tmp 2) (.tmp 37) rfl w.heap.size (A0b []) rfl rfl _ (A0b []) G0.out (by kernel_rfl) rfl (A0r []) ?_))
 refine Ix (v:=.tuple #[.agg (A0b []),.int .i64 0]) ?_ rfl ?_
 ·exact eQ Tryz.results9 _ _ w.heap.size _ (A0b []) (0,0) _ _ rfl rfl (aZ G0.out) Tryz.underlying32 rfl (by kernel_rfl)
 ·exact ⟨rfl,aW (((Hv _ _).alloc (I3 _) _).alloc (by simp) _) (I3 _)⟩
theorem A1i (v:Value) (X:List Out) (w:World) (r:aI w 7 v (X.map Out.cells)) (hn:X.length*56≤140737488351232) (hf:∀ x∈X,A0d x) :
  Calls Tryz.prog 9 #[v] w fun e w'=>e=.returned (.tuple #[.agg (A0b X),.int .i64 0])∧Below w.heap.size w w':=by
 obtain ⟨a,c,rfl,l,m,n,p⟩:=aK Out.zero r
 by_cases hX:X=[]
 ·subst hX;exact A2h a c w
 ·obtain ⟨b,o,rfl,hb,q⟩:=p hX
  exact A2g b o c X w hf hb hn q
theorem A0m {X:Wd} {b:Int} {o:Out} (h:o∈(bZ X b).2):A0d o:=by
 unfold bZ at h
 cases hl:dt X.lives b with
 | none=>rw [hl] at h;simp at h
 | some x=>
  rw [hl] at h
  simp only at h
  split at h
  ·simp only [List.mem_singleton] at h;subst h;unfold A0d;simp only;omega
  ·simp at h
theorem A0k {X:Wd} {i:Nat} {k y:Int} (hk:k=6∨k=7) (h0:0≤y) (h5:y≤5) {o:Out} (h:o∈(gQ X i k y).2):A0d o:=by
 unfold gQ at h
 rcases List.mem_cons.1 h with rfl|h
 ·unfold A0d;simp only;omega
 ·exact A0m h
theorem A1e {X:Wd} {i:Nat} {why:Int} (h0:0≤why) (h5:why≤5) {o:Out} (h:o∈(eU X i why).2):A0d o:=by
 unfold eU at h
 simp only at h
 split at h
 ·exact A0k (Or.inl rfl) h0 h5 h
 ·split at h
  ·exact A0k (Or.inl rfl) (by decide) (by decide) h
  ·split at h
   ·simp only [List.mem_singleton] at h;subst h;unfold A0d;simp only;omega
   ·rcases List.mem_cons.1 h with rfl|h
    ·unfold A0d;simp only;omega
    ·exact A0m h
theorem A2c {P:Wd×List Out} {s:Int} {o:Out} (h:o∈(oQ P s).2):o∈P.2∨A0d o:=by
 unfold oQ at h
 rcases List.mem_append.1 h with h|h
 ·exact Or.inl h
 ·exact Or.inr (A0k (Or.inl rfl) (by decide) (by decide) h)
theorem A1v {X:Wd} {o:Out} (h:o∈(jc X).2):A0d o:=by
 unfold jc at h
 rcases mI (p:=A0d) (fun P a o h=>by
  unfold gb at h
  split at h
  ·exact Or.inl h
  ·exact mI (p:=A0d) (fun P a o h=>A2c h) _ _ _ h) _ _ _ h with h|h
 ·unfold bV at h
  rcases mI (p:=A0d) (fun P a o h=>by
   unfold lX at h
   split at h
   ·rcases List.mem_append.1 h with h|h
    ·exact Or.inl h
    ·exact Or.inr (A0k (Or.inl rfl) (by decide) (by decide) h)
   ·rcases List.mem_append.1 h with h|h
    ·exact Or.inl h
    ·exact Or.inr (A1e (by decide) (by decide) h)) _ _ _ h with h|h
  ·simp at h
  ·exact h
 ·exact h
theorem A2i {X:Wd} {e:Ev} {o:Out} (h:o∈(mP X e).2):A0d o:=by
 have one:∀ k s g b c,1≤k→k≤10→o=⟨k,s,g,b,0,c,0⟩→A0d o:=fun k s g b c h1 h2 e=>by
  subst e;unfold A0d;simp only;omega
 unfold mP at h
 split at h
 ·unfold gj at h
  split at h
  ·simp only [List.mem_singleton] at h;exact one _ _ _ _ _ (by decide) (by decide) h
  ·split at h
   ·simp only [List.mem_singleton] at h;exact one _ _ _ _ _ (by decide) (by decide) h
   ·simp only [List.mem_singleton] at h;exact one _ _ _ _ _ (by decide) (by decide) h
 ·split at h
  ·unfold um jF at h
   simp only at h
   split at h
   ·simp only [List.mem_singleton] at h;subst h;unfold A0d;simp only;omega
   ·split at h
    ·rcases List.mem_cons.1 h with rfl|h
     ·unfold A0d;simp only;omega
     ·simp only [List.mem_singleton] at h;subst h;unfold A0d;simp only;omega
    ·rcases List.mem_cons.1 h with rfl|h
     ·unfold A0d;simp only;omega
     ·exact A0m h
  ·split at h
   ·exact A1v h
   ·unfold fj at h
    split at h
    ·simp only [List.mem_singleton] at h;exact one _ _ _ _ _ (by decide) (by decide) h
    ·split at h
     ·exact A0k (Or.inr rfl) (by decide) (by decide) h
     ·split at h
      ·simp only [List.mem_singleton] at h;exact one _ _ _ _ _ (by decide) (by decide) h
      ·split at h
       ·simp only [List.mem_singleton] at h;exact one _ _ _ _ _ (by decide) (by decide) h
       ·split at h
        ·simp only [List.mem_singleton] at h;exact one _ _ _ _ _ (by decide) (by decide) h
        ·exact A1e (by decide) (by decide) h
theorem A2d {c:Cf} {P:lA} (h:zO c P):∀ o∈A0a P,A0d o:=by
 intro o ho
 rw [A0p] at ho
 obtain ⟨s,hs,ho⟩:=List.mem_flatMap.1 ho
 rw [(h.st s hs).2.2.2.2.2.1] at ho
 exact A2i ho
theorem A1f (O:List Out) {j:Nat} (hj:j<11):cnt O j=kc (j:Nat) O:=by
 unfold cnt kc
 refine List.countP_congr fun o _=>?_
 unfold A0h
 rw [if_pos hj]
 by_cases h:o.kind=(j:Int)<;>simp [h]
theorem A1w (X:List Out) (j:Nat) (hj:j<17):(A0b X)[j]?=some (.int .i64 (cnt X j)):=by
 simp [A0b,hj]
theorem A1g (v:Value) (X:List Out) (w:World) (r:aI w 7 v (X.map Out.cells)) (hn:X.length*56≤140737488351232) (hf:∀ x∈X,A0d x) (h:0≤(cnt X 1:Int) - cnt X 6 - cnt X 7) :
  Calls Tryz.prog 12 #[v] w fun e w'=>e=.returned (.tuple #[.int .i64 ((cnt X 1:Int) - cnt X 6 - cnt X 7),.int .i64 0])∧Below w.heap.size w w':=by
 obtain ⟨a,c,rfl,_⟩:=aq r
 have l1:=A0o X 1
 have l6:=A0o X 6
 have l7:=A0o X 7
 have HF:=Hu hf
 clear hf
 go_enter Tryz.func12,Tryz.ntmps12
 go_wp2_with fail
 refine (A1i _ X _ r hn HF.out).mono ?_
 rintro e w1 ⟨rfl,hb1⟩
 have B1:=Hu (aW (arr:=A0b X) (hb1.alloc hb1.size (.cells #[.int .i64 0,.int .i64 0,.int .i64 0,.int .i64 0,.int .i64 0,.int .i64 0,.int .i64 0,.int .i64 0,.int .i64 0,.int .i64 0,.int .i64 0,.int .i64 0,.int .i64 0,.int .i64 0,.int .i64 0,.int .i64 0,.int .i64 0] 32)) hb1.size)
 have g1:((w1.alloc (.cells #[.int .i64 0,.int .i64 0,.int .i64 0,.int .i64 0,.int .i64 0,.int .i64 0,.int .i64 0,.int .i64 0,.int .i64 0,.int .i64 0,.int .i64 0,.int .i64 0,.int .i64 0,.int .i64 0,.int .i64 0,.int .i64 0,.int .i64 0] 32)).setRow w1.heap.size (A0b X)).heap[w1.heap.size]?=some (.cells (A0b X) 32 (0,0)):=aZ (az _ rfl)
 have cc:∀ j,j<17→((w1.alloc (.cells #[.int .i64 0,.int .i64 0,.int .i64 0,.int .i64 0,.int .i64 0,.int .i64 0,.int .i64 0,.int .i64 0,.int .i64 0,.int .i64 0,.int .i64 0,.int .i64 0,.int .i64 0,.int .i64 0,.int .i64 0,.int .i64 0,.int .i64 0] 32)).setRow w1.heap.size (A0b X)).cell? ⟨w1.heap.size,j,none⟩=some (.int .i64 (cnt X j)):=fun j hj=>by simp only [World.cell?,g1];simpa using A1w X j hj
 have q1:=cc 1 (by omega)
 have q6:=cc 6 (by omega)
 have q7:=cc 7 (by omega)
 clear cc g1 hb1
 go_wp2_with (refine Iz rfl 32 (.tmp 4) (.tmp 10) rfl w1.heap.size (A0b X) rfl rfl 32 (A0b []) (az _ rfl) (by kernel_rfl) rfl (A0r X) ?_)
 all_goals first|(go_ret2;exact ⟨rII rfl rfl,B1.out⟩)|exact Zx
theorem A2e {p:Nat} {w:World} {X:Wd} {V:Vs} {T:TypeId} (h:WA w X V) (hb:w.heap[p]?=some (.cells (dj X V).toArray T (0,0))):GR p w X V:=by
 refine ⟨h.ro,h.fl,h.he,lt_of_block hb,fun i v hv=>?_⟩
 rw [ae hb i,I7,hv]
theorem GR.lv {p:Nat} {w:World} {X:Wd} {V:Vs} (h:GR p w X V):∃ al cl,w.cell? ⟨p,19,none⟩=some (.slice al X.lives.length cl)∧(X.lives.length≠0→∃ bl ol,al=some ⟨bl,ol,none⟩∧bl<w.heap.size∧∀ k j,k<X.lives.length→j<6→w.cell? ⟨bl,ol+k*6+j,none⟩=(X.lives.getD k Lf.zero).cells[j]?):=by
 obtain ⟨al,cl,el,_⟩:=aq h.1.li.1
 refine ⟨al,cl,by rw [← el];exact h.c 19 rfl,fun hne=>?_⟩
 obtain ⟨_,_,e0,_,_,_,pt⟩:=aK Lf.zero h.1.li.1
 rw [el] at e0
 injection e0 with e01 _ _
 obtain ⟨b1,o1,e1,h1,q⟩:=pt (by intro e;rw [e] at hne;simp at hne)
 exact ⟨b1,o1,e01.trans e1,h1,q⟩
theorem A1x {L:List Lf} {b:Int} {x:Lf} (h:dt L b=some x):gL L b=x.state:=by unfold gL;rw [h];rfl
theorem A1y {L:List Lf} {b:Int} (h:∀ x∈L,x.backend≠b):gL L b=0:=by
 unfold gL
 cases hl:dt L b with
 | none=>rfl
 | some x=>exact absurd (dz hl).2 (h x (dz hl).1)
theorem A1p {α:Type} {L:List α} {k:Nat} {d:α} {q:α→Prop} (hk:k<L.length) (h:∀ x∈L.take k,q x) (hx:q (L.getD k d)):∀ x∈L.take (k+1),q x:=by
 intro x hm
 rw [Ia hk] at hm
 rcases List.mem_append.1 hm with hm|hm
 ·exact h x hm
 ·rw [List.mem_singleton] at hm
  rw [aN hk] at hx
  rw [hm];exact hx
theorem A2j {L:List Lf} {R:List Rq} (h:bF L R) {k:Nat} (hk:k<L.length) {b:Int} (hb:(L.getD k Lf.zero).backend=b):dt L b=some (L.getD k Lf.zero):=by
 rw [← hb]
 refine j4 (cG h) ?_
 rw [aN hk];exact If _
theorem A1h {w:World} {X:Wd} {V:Vs} (h:WA w X V) (hb:bF X.lives X.reqs) (b:Int):Calls Tryz.prog 13 #[.agg (dj X V).toArray,.int .i64 b] w fun e w'=>e=.returned (.int .i64 (gL X.lives b))∧Below w.heap.size w w':=by
 obtain ⟨AW,hAW⟩:∃ AW,AW=(dj X V).toArray:=⟨_,rfl⟩
 obtain ⟨R,hR⟩:∃ R,R=gL X.lives b:=⟨_,rfl⟩
 rw [← hAW,← hR]
 have HR:=Hu hR
 have HA:=Hu hAW
 have HW:=Hu h
 have HK:=Hu hb
 have hl12:=hb.1
 clear hR hAW h hb
 go_enter Tryz.func13,Tryz.ntmps13
 go_wp2_with fail
 refine aY _ (fun wb hwb=>?_)
 have bwb:Below w.heap.size w wb:=by rw [hwb];exact (Hv _ _).alloc (I3 _) _
 have hbk:wb.heap[w.heap.size]?=some (.cells (dj X V).toArray 63 (0,0)):=by rw [hwb,← HA.out];exact az _ rfl
 obtain ⟨al,cl,x19,hq⟩:=(A2e (HW.out.below bwb) hbk).lv
 have HQ:=Hu hq
 have HB:=Hu bwb
 clear hwb bwb hbk hq
 go_loopw [5] (fun i wr=>∃ k:Nat,k≤X.lives.length∧i=.int .i64 k∧wr=wb∧∀ x∈X.lives.take k,x.backend≠b) (fun i _=>X.lives.length - (intOf i).toNat)
 case atStart=>exact ⟨0,I4 _,rfl,rfl,fun x hx=>absurd hx (by simp)⟩
 case round=>
  obtain ⟨k,hk,rfl,hwr,hs⟩:=hrel
  have HS:=Hu hs
  subst hwr
  clear hs
  rcases (show k<X.lives.length∨k=X.lives.length by omega) with hlt|rfl
  ·have hlt':(k:Int)<(X.lives.length:Int):=by omega
   have k0:(0:Int)≤(k:Int):=by omega
   obtain ⟨bl,ol,rfl,hbl,q⟩:=HQ.out (by omega)
   have a0:=q k 0 hlt (by omega)
   have a1:=q k 1 hlt (by omega)
   obtain ⟨x,hx⟩:∃ x,x=X.lives.getD k Lf.zero:=⟨_,rfl⟩
   rw [← hx] at a0 a1
   obtain ⟨x0,x1,x2,x3,x4,x5⟩:=x
   simp only [Lf.cells,I5,I6,Nat.add_zero] at a0 a1
   have HX:=Hu hx
   clear hx q
   by_cases hx0:x0=b
   ·obtain rfl:x1=R:=by
     have:=A2j HK.out hlt (b:=b) (by rw [← HX.out];exact hx0)
     rw [HR.out,A1x this,← HX.out]
    go_wp2
    go_ret
    exact ⟨rfl,HB.out⟩
   ·go_wp2
    go_roundw
    case rel=>exact ⟨k+1,by omega,by go_num,by trivial,A1p hlt HS.out (by rw [← HX.out];exact hx0)⟩
    case measure=>simp [intOf];omega
  ·have hge:¬ (X.lives.length:Int)<(X.lives.length:Int):=by omega
   obtain rfl:R=0:=by rw [HR.out];exact A1y (by have:=HS.out;rwa [List.take_length] at this)
   go_wp2
   go_ret
   exact ⟨rfl,HB.out⟩
theorem walk_TopClosed (v0 v1:Value) (W:World) (o0:Is_Setup W v0) (o1:Is_sl_Deed W v1) :Calls Tryz.prog 4 #[v0,v1] W fun e w'=>e=.returned (.bool true)∧Below W.heap.size W w':=by
 obtain ⟨s,rfl,hs⟩:=o0
 obtain ⟨L,hr,hd,_⟩:=o1
 obtain ⟨av,cv,rfl,_⟩:=aq hr
 have hcf:=Gt s
 have hat:=xS hcf L (most:=60) (by omega)
 have hpl:∀ w',Below W.heap.size W w'→Calls Tryz.prog 8 #[.agg (Su.cells s).toArray,.slice av L.length cv,.int .i64 ((60:Nat):Int)] w' (GN w' (Gu s) L 60):=fun w' hb=>H8 s hs L hd _ (au hr hb) 60 (by omega)
 obtain ⟨c,hc⟩:∃ c,c=Gu s:=⟨_,rfl⟩
 rw [← hc] at hpl hcf hat
 obtain ⟨SA,hSA⟩:∃ SA,SA=(Su.cells s).toArray:=⟨_,rfl⟩
 rw [← hSA] at hpl ⊢
 have HSI:=Hu (show (Tryz.prog.info? 24).map (·.size)=some SA.size by rw [hSA];show _=some 16;kernel_rfl)
 have HPl:=Hu hpl
 have HF:=Hu hcf
 have HAt:=Hu hat
 have HK:=Hu (show (W.alloc (.cells SA 24 (0,0))).heap[W.heap.size]?=some (.cells SA 24 (0,0)) from az _ rfl)
 have HB0:=Hu (show Below W.heap.size W (W.alloc (.cells SA 24 (0,0))) from (Hv _ _).alloc (I3 _) _)
 clear hs hd hr hcf hc hSA hat hpl
 go_enter Tryz.func4,Tryz.ntmps4
 go_wp2_with (first|(refine Iy rfl 24 (.tmp 2) rfl W.heap.size rfl 24 SA (0,0) _ HK.out Tryz.underlying24 rfl HSI.out ?_)|(go_at_call 8;refine (HPl.out _ HB0.out).mono ?_;rintro e w1 ⟨p,VL,MS,vs,vg,rfl,hpg,hb1⟩;have hw1:=HB0.out.trans (hb1.mono HB0.out.size);have HW1:=Hu hw1;have HPg:=Hu hpg;clear hb1 hpg hw1))
 obtain ⟨P,hP⟩:∃ P,P=iI (dy c) L 60:=⟨_,rfl⟩
 have hcp:=A1t HF.out L (most:=60) (by omega)
 rw [← hP] at HPg HAt hcp
 obtain ⟨n,hn⟩:∃ n,n=4+(L.take 60).length:=⟨_,rfl⟩
 have hn64:n≤64:=by rw [hn,Ii];omega
 rw [← hn] at HAt
 have hcl:∀ k,k≤P.given.length→A1z c P (clP P k) n k:=fun k hk=>A1c HAt.out hcp (by omega) hk
 have hend:=A2b HAt.out hcp (by omega)
 have hgl:=HAt.out.gl
 obtain ⟨B,hB⟩:∃ B,B=(W.alloc (.cells SA 24 (0,0))).heap.size:=⟨_,rfl⟩
 rw [← hB] at HPg
 have hWB:W.heap.size≤B:=by rw [hB];simp
 have hB1:B≤w1.heap.size:=by have h1:=HPg.out.pB;have h2:=lt_of_block HPg.out.bk;omega
 have HCl:=Hu hcl
 have HEnd:=Hu hend
 have HP0:=Hu (show PlR B p w1 c (clP P 0) w1 from ⟨Hv _ _,VL,MS,vs,vg,HPg.out⟩)
 clear hP hcp hn hcl hend hB
 go_loopw [6,7] (fun ok i wr=>∃ k:Nat,k≤P.given.length∧i=.int .i64 k∧ok=.bool true∧PlR B p w1 c (clP P k) wr) (fun _ i _=>P.given.length - (intOf i).toNat)
 case atStart=>exact ⟨0,I4 _,rfl,rfl,HP0.out⟩
 case round=>
  obtain ⟨k,hk,rfl,rfl,hrl⟩:=hrel
  obtain ⟨hbr,Vk,Mk,vsk,vgk,hpg⟩:=hrl
  have hck:=HCl.out k hk
  have og:=hpg.og
  rw [hck.g] at og
  obtain ⟨ag,cg,eg,_⟩:=aC og
  have x43:wr.cell? ⟨p,43,none⟩=some (.slice ag P.given.length cg):=by rw [← eg,ae hpg.bk 43];rfl
  have hrow:=(aD (L:=P.given.map Hd.cells) og (by simp) (by intro c hc;obtain ⟨x,_,rfl⟩:=It.1 hc;rfl)).1
  have HPk:=Hu hpg
  have HBr:=Hu hbr
  have hlp:=lt_of_block hpg.bk
  clear hpg hbr og
  rcases (show k<P.given.length∨k=P.given.length by omega) with hlt|rfl
  ·have hlt':(k:Int)<(P.given.length:Int):=by omega
   have k0:(0:Int)≤(k:Int):=by omega
   obtain ⟨_,_,e1,_,_,_,q1⟩:=hrow
   rw [eg] at e1
   simp only [Value.slice.injEq,I9] at e1
   obtain ⟨rfl,-,rfl⟩:=e1
   obtain ⟨b2,o2,rfl,hb2,q3⟩:=q1 (by intro e;have:=congrArg List.length e;rw [I9,List.length_nil] at this;omega)
   have a0:=q3 k 0 (by simpa using hlt) (by omega)
   have a1:=q3 k 1 (by simpa using hlt) (by omega)
   rw [kx Hd.cells hlt ⟨0,0⟩] at a0 a1
   have hsc:=A1b hlt ⟨0,0⟩
   have hgm:P.given.getD k ⟨0,0⟩∈P.given:=by rw [aN hlt];exact If _
   have hgd:=zD (k:=3) (Or.inr rfl) (HAt.out.ok.gi _ hgm)
   obtain ⟨x,hx⟩:∃ x,x=P.given.getD k ⟨0,0⟩:=⟨_,rfl⟩
   rw [← hx] at a0 a1 hsc hgd
   have hal:=hck.at_.len
   have hDo:∀ w',Below wr.heap.size wr w'→Calls Tryz.prog 11 #[.pointer (some ⟨p,0,none⟩),.agg (Ev.cells (gY 3 x false)).toArray] w' (zQ B p w' c (clP P (k+1))):=fun w' hb'=>by
    rw [hsc]
    exact pV (HPk.out.below hb') hck.at_.ok _ hgd (by rw [hal];omega) (by rw [hal];exact hck.at_.gl)
   have HDo:=Hu hDo
   obtain ⟨x0,x1⟩:=x
   simp only [Hd.cells,I5,I6,Nat.add_zero] at a0 a1
   clear hx hsc hgm hgd hal hDo hck eg q1 q3
   go_upto_region 5 with fail
   refine join1 (P:=?jP1) (F:=fun wz=>PlR B p w1 c (clP P (k+1)) wz) (fun key=>?jm1) ?jr1
   case jm1=>
    (refine Zr (fun _:World=>True) (fun hHeld=>?_) (by (try dsimp only);skip);refine eP 0 ?_;refine Zt 5 ?_;refine df 9 ?_;refine Zt 11 ?_;refine Zt 13 ?_;refine Z2 4 12 (fun K hK=>?_) (fun K hK=>?_);(focus (go_simp;refine Zk hK (hS:=by (try dsimp only);skip) fun hHeld=>?_;clear hK K;refine df 6 ?_;refine Z2 8 12 (fun K hK=>?_) (fun K hK=>?_);(focus (go_simp;refine Zk hK (hS:=by (try dsimp only);skip) fun hHeld=>?_;clear hK K;refine Z1 12 (fun K hK=>?_);go_simp;refine Zk hK (hS:=by (try dsimp only);skip) fun hHeld=>?_;clear hK K;refine df 14 ?_;refine Z1 16 (fun K hK=>?_);go_simp;refine Zk hK (hS:=by (try dsimp only);skip) fun hHeld=>?_;clear hK K));rotate_left 1;(focus (go_simp;refine Zk hK (hS:=by (try dsimp only);skip) fun hHeld=>?_;clear hK K;refine df 14 ?_;refine Z2 8 16 (fun K hK=>?_) (fun K hK=>?_);(focus (go_simp;refine Zk hK (hS:=by (try dsimp only);skip) fun hHeld=>?_;clear hK K;refine Z1 16 (fun K hK=>?_);go_simp;refine Zk hK (hS:=by (try dsimp only);skip) fun hHeld=>?_;clear hK K));rotate_left 1;(focus (go_simp;refine Zk hK (hS:=by (try dsimp only);skip) fun hHeld=>?_;clear hK K;refine Z1 8 (fun K hK=>?_);go_simp;refine Zk hK (hS:=by (try dsimp only);skip) fun hHeld=>?_;clear hK K));rotate_left 1));rotate_left 2));rotate_left 3;(focus (go_simp;refine Zk hK (hS:=by (try dsimp only);skip) fun hHeld=>?_;clear hK K;refine df 14 ?_;refine Z2 4 16 (fun K hK=>?_) (fun K hK=>?_);(focus (go_simp;refine Zk hK (hS:=by (try dsimp only);skip) fun hHeld=>?_;clear hK K;refine df 6 ?_;refine Z2 8 16 (fun K hK=>?_) (fun K hK=>?_);(focus (go_simp;refine Zk hK (hS:=by (try dsimp only);skip) fun hHeld=>?_;clear hK K;refine Z1 16 (fun K hK=>?_);go_simp;refine Zk hK (hS:=by (try dsimp only);skip) fun hHeld=>?_;clear hK K));rotate_left 1;(focus (go_simp;refine Zk hK (hS:=by (try dsimp only);skip) fun hHeld=>?_;clear hK K;refine Z1 8 (fun K hK=>?_);go_simp;refine Zk hK (hS:=by (try dsimp only);skip) fun hHeld=>?_;clear hK K));rotate_left 1));rotate_left 2;(focus (go_simp;refine Zk hK (hS:=by (try dsimp only);skip) fun hHeld=>?_;clear hK K;refine Z1 4 (fun K hK=>?_);go_simp;refine Zk hK (hS:=by (try dsimp only);skip) fun hHeld=>?_;clear hK K;refine df 6 ?_;refine Z1 8 (fun K hK=>?_);go_simp;refine Zk hK (hS:=by (try dsimp only);skip) fun hHeld=>?_;clear hK K));rotate_left 1));rotate_left 3;(all_goals (refine Zt 17 ?_;refine Z1 18 (fun K hK=>?_);go_simp;(go_at_call 11;refine (HDo.out _ Zb).mono ?_;rintro e w5 ⟨V5,M5,vs5,vg5,rfl,hpg5,hb5⟩;(try dsimp only));refine Zk hK (hS:=by (try dsimp only);skip) fun hHeld=>?_;clear hK K;refine Zt 19 ?_));(all_goals refine Zd ?_))
    all_goals
     refine aY _ (fun wz hwz=>?_)
     exact key wz (by rw [hwz];exact ⟨HBr.out.trans (I0 (by first|exact Hv _ _|exact (Hv _ _).drew|exact aJ (Hv _ _)) hb5),V5,M5,vs5,vg5,hpg5⟩)
   case jr1=>
    intro wz hz
    have HZ:=Hu hz
    clear hz a0 a1 x43
    go_wp2_with fail
    exact ⟨⟨k+1,by omega,by go_num,rfl,HZ.out⟩,by simp [intOf];omega⟩
  ·have hge:¬ (P.given.length:Int)<(P.given.length:Int):=by omega
   have hak:=hck.at_
   obtain ⟨hf0,hkc,hst⟩:=HEnd.out
   obtain ⟨Q,hQ⟩:∃ Q,Q=clP P P.given.length:=⟨_,rfl⟩
   rw [← hQ] at hak hf0 hkc hst HPk
   have hfit:=A2d hak.ok
   have hsl:Q.steps.length≤128:=by have h1:=hak.len;omega
   have hol:(A0a Q).length≤Q.steps.length*160:=A0u hak.ok Q.steps.length (I3 _)
   have k6:cnt (A0a Q) 6=kc 6 (A0a Q):=A1f _ (by omega)
   have k7:cnt (A0a Q) 7=kc 7 (A0a Q):=A1f _ (by omega)
   have k1:cnt (A0a Q) 1=kc 1 (A0a Q):=A1f _ (by omega)
   have hli:(cnt (A0a Q) 1:Int) - cnt (A0a Q) 6 - cnt (A0a Q) 7=0:=by omega
   have HCt:=Hu (A0z HPk.out hak.ok (by omega))
   have HFi:=Hu hfit
   have HLi:=Hu hli
   have HWd:=Hu hak.ok.wd
   have HSt:=Hu hst
   have HF0:=Hu hf0
   have h320:(A0a Q).length*56≤140737488351232:=by omega
   have H320:=Hu h320
   clear hrow hck hak hf0 hkc hst hQ hfit hol k6 k7 k1 hli h320 hsl
   go_wp2_with fail
   refine HCt.out.mono ?_
   rintro e w2 ⟨v,rfl,hrow2,hb2⟩
   obtain ⟨av2,cp2,rfl,_⟩:=aq hrow2.1
   have HB2:=Hu hb2
   have hlv:=A1g _ (A0a Q) w2 hrow2.1 H320.out HFi.out (by rw [HLi.out];decide)
   rw [HLi.out] at hlv
   have HLv:=Hu hlv
   clear hrow2 hb2 hlv x43
   go_wp2_with fail
   refine HLv.out.mono ?_
   rintro e w3 ⟨rfl,hb3⟩
   have HB3:=Hu (HB2.out.trans (hb3.mono HB2.out.size))
   have HG3:=Hu (HPk.out.below HB3.out)
   clear hb3
   go_wp2_with fail
   go_loopw [10] (fun b w4=>∃ j:Nat,j≤12∧b=.int .i64 j∧Below w3.heap.size w3 w4) (fun b _=>12 - (intOf b).toNat)
   case atStart=>exact ⟨0,by omega,rfl,Hv _ _⟩
   case round=>
    obtain ⟨j,hj,rfl,hbj⟩:=hrel
    have HBj:=Hu hbj
    have hzj:=hbj.size
    have hgj:=HG3.out.below hbj
    have hrl:=pQ hgj.bk
    obtain ⟨LW,hLW⟩:∃ LW,LW=dj Q.last Vk:=⟨_,rfl⟩
    have HIW:=Hu (show (Tryz.prog.info? 63).map (·.size)=some LW.length by rw [hLW,iT];kernel_rfl)
    rw [← hLW] at hrl
    have HRl:=Hu hrl
    have hst:Calls Tryz.prog 13 #[.agg LW.toArray,.int .i64 (j:Int)] wr fun e w'=>e=.returned (.int .i64 (gL Q.last.lives (j:Nat)))∧Below wr.heap.size wr w':=by rw [hLW];exact A1h hgj.wl.wa HWd.out.gw.bk j
    have hne:=HSt.out (j:Nat)
    obtain ⟨sv,hsv⟩:∃ q,q=gL Q.last.lives (j:Nat):=⟨_,rfl⟩
    rw [← hsv] at hst hne
    have HS2:=Hu hst
    have HGj:=Hu hgj
    have d3:(sv == 3)=false:=by simpa using hne
    clear hbj hgj hrl hst hsv hne hLW
    rcases (show j<12∨j=12 by omega) with hlj|rfl
    ·have hlj':(j:Int)<12:=by omega
     go_wp2_with (refine wpList_load_mid rfl 63 (.tmp 60) rfl p 17 rfl LW _ HRl.out Tryz.underlying63 rfl HIW.out ?_)
     refine HS2.out.mono ?_
     rintro e w5 ⟨rfl,hb5⟩
     have HB5:=Hu (HBj.out.trans (hb5.mono hzj))
     clear hb5
     go_wp2_with fail
     exact ⟨⟨j+1,by omega,by go_num,HB5.out⟩,by simp [intOf];omega⟩
    ·have hg12:¬ (12:Int)<12:=by omega
     obtain ⟨af,cf_,ef,_⟩:=aq HGj.out.wl.fl.1
     rw [HF0.out] at ef
     have x35:wr.cell? ⟨p,35,none⟩=some (.slice af 0 cf_):=by
      rw [← (show _=Value.slice af 0 cf_ from ef),ae HGj.out.bk 35]
      rfl
     clear ef
     go_wp2
     go_ret
     exact ⟨rfl,HW1.out.trans ((HBr.out.trans ((HB3.out.trans (HBj.out.mono HB3.out.size)).mono (Iq hB1 HBr.out.size))).mono hWB)⟩
end Go.Proofs.YtfliffgmeobclaaGreat
