/- Texts of the row's proof. Conditions: none. -/
import Derived.Test.YtfliffgmeobclaaGreatK43
namespace Go.Proofs.YtfliffgmeobclaaGreat
set_option maxRecDepth 100000
set_option maxHeartbeats 8000000
open Go.RowKit
def A0g (P:lA) (k:Nat):List Out:=(P.steps.take k).flatMap (fun s=>s.out)
theorem A0y {P:lA} {k:Nat} (h:k<P.steps.length):A0g P (k+1)=A0g P k++(P.steps.getD k Stp.zero).out:=by
 unfold A0g
 rw [Ia h,List.flatMap_append,aN h]
 simp
def A0j (P:lA):List Out:=A0g P P.steps.length
theorem A0v (P:lA):A0j P=P.steps.flatMap (fun s=>s.out):=by unfold A0j A0g;rw [List.take_length]
theorem A2c (P:lA) (e:Ev):A0j (sI P e)=A0j P++(mP P.last e).2:=by
 rw [A0v,A0v]
 show ((P.steps++[_]).flatMap _)=_
 rw [List.flatMap_append];simp
theorem A0s (X:Wd) (b:Int):(bZ X b).2.length≤1:=by
 obtain ⟨_,_,_,h⟩:=jw X b
 exact h
theorem A1j (X:Wd) (i:Nat) (k y:Int):(gQ X i k y).2.length≤2:=by
 unfold gQ
 exact Nat.succ_le_succ (A0s _ _)
theorem A2i (X:Wd) (i:Nat) (why:Int):(eU X i why).2.length≤2:=by
 unfold eU
 simp only
 split
 ·exact A1j _ _ _ _
 ·split
  ·exact A1j _ _ _ _
  ·split
   ·simp
   ·exact Nat.succ_le_succ (A0s _ _)
theorem A2r {X:Wd} (h:WdMay X) {e:Ev} (he:EvMay X e):(mP X e).2.length≤160:=by
 unfold mP
 split
 ·unfold gj
  split
  ·simp
  ·split<;>simp
 ·split
  ·unfold um jF
   simp only
   split
   ·simp
   ·split
    ·simp
    ·exact Iq (Nat.succ_le_succ (A0s _ _)) (by omega)
  ·split
   ·rename_i h7
    have h1:=F3 h (he.tk h7)
    have h2:=(uL h (he.tk h7)).ou
    omega
   ·unfold fj
    split
    ·simp
    ·split
     ·exact Iq (A1j _ _ _ _) (by omega)
     ·split
      ·simp
      ·split
       ·simp
       ·split
        ·simp
        ·exact Iq (A2i _ _ _) (by omega)
theorem A1c {c:Cf} {P:lA} (h:zO c P):∀ k,k≤P.steps.length→(A0g P k).length≤k*160
 | 0,_=>by simp [A0g]
 | k+1,hk=>by
  have hs:=h.st (P.steps.getD k Stp.zero) (by rw [aN (by omega)];exact If _)
  have h1:=A1c h k (by omega)
  have h2:=A2r hs.1 hs.2.2.2.1
  rw [← hs.2.2.2.2.2.1] at h2
  rw [A0y (by omega),Ic]
  omega
theorem A1s:(Tryz.prog.info? 79).map (fun i=>(i.zero,i.size,i.bytes))=some (some (.agg #[.int .i64 0,.int .i64 0,.int .i64 0,.int .i64 0,.int .i64 0,.int .i64 0,.int .i64 0]),7,56):=by kernel_rfl
theorem A1e (X:List Out):∀ c∈X.map Out.cells,c.length=7:=by
 intro c hc
 simp only [It] at hc
 obtain ⟨x,_,rfl⟩:=hc
 rfl
theorem A1t (X:List Out):∀ u∈(X.map Out.cells).flatten,u.oneCell'=true:=by
 intro u hu
 simp only [List.mem_flatten,It] at hu
 obtain ⟨c,⟨x,_,rfl⟩,hu⟩:=hu
 simp [Out.cells] at hu
 rcases hu with rfl|rfl|rfl|rfl|rfl|rfl|rfl<;>rfl
def A2d (w:World) (P:lA) (e:Ending) (w':World):Prop:=∃ v,e=.returned v∧aM w.heap.size w' 7 v ((A0g P P.steps.length).map Out.cells)∧Below w.heap.size w w'
theorem A1k {B p:Nat} {w:World} {c:Cf} {P:lA} {VL:Vs} {MS:List Ms} {vs vg:Value} (h:PG B p w c P VL MS vs vg) (hok:zO c P) (hn:P.steps.length≤2000):Calls Tryz.prog 10 #[.pointer (some ⟨p,0,none⟩)] w (A2d w P):=by
 obtain ⟨i0,hi,hi0,hi1,hi2⟩:=info_parts A1s
 obtain ⟨as_,cs_,hx16,hst⟩:=h.rd
 have hlp:=lt_of_block h.bk
 have HX16:=Hu hx16
 have HSt:=Hu hst
 have HLp:=Hu hlp
 have HPg:=Hu h
 have HOl:=Hu (A1c hok)
 clear hx16 hst hlp h hok
 go_enter Tryz.func10,Tryz.ntmps10
 go_wp2
 go_loopw [3,4] (fun l i wr=>∃ k:Nat,k≤P.steps.length∧i=.int .i64 k∧wr.ownsRow w.heap.size 79 7 l (A0g P k).length ((A0g P k).map Out.cells).flatten∧Below w.heap.size w wr) (fun _ i _=>P.steps.length - (intOf i).toNat)
 case atStart=>exact ⟨0,I4 _,rfl,Iv _ _ _ _,Hv _ _⟩
 case round=>
  obtain ⟨k,hk,rfl,hown,hbr⟩:=hrel
  obtain ⟨al,cl,rfl,_⟩:=aC hown
  have HBr:=Hu hbr
  have HOw:=Hu hown
  have hzr:=hbr.size
  have x16:=ah hbr HX16.out HLp.out
  have hol:=HOl.out k hk
  clear hbr hown
  rcases (show k<P.steps.length∨k=P.steps.length by omega) with hlt|rfl
  ·have hlt':(k:Int)<(P.steps.length:Int):=by omega
   have k0:(0:Int)≤(k:Int):=by omega
   obtain ⟨bs,os,rfl,hbs,hrg⟩:=HSt.out (by omega)
   have hws:=(HPg.out.below HBr.out).ws k hlt
   obtain ⟨a,cap,em,h1,h2,h3,h4⟩:=hws.o.1
   have c60:wr.cell? ⟨bs,os+k*61+60,none⟩=some (.slice a (P.steps.getD k Stp.zero).out.length cap):=by
    refine Ct HBr.out hbs (hrg k hlt) 60 _ ?_
    rw [show (P.steps.getD k Stp.zero).out.length=((P.steps.getD k Stp.zero).out.map Out.cells).length by rw [I9],← em]
    rfl
   have hno:=A0y hlt
   have hl2:=HOl.out (k+1) (by omega)
   have hkk:k*160≤320000:=by omega
   rw [hno,Ic] at hl2
   obtain ⟨O,hO⟩:∃ O,O=(P.steps.getD k Stp.zero).out:=⟨_,rfl⟩
   rw [← hO] at c60 hno hl2 h1 h4
   have HNo:=Hu hno
   have hlen:=A1e O
   have hone:=A1t O
   cases a with
   | none=>
    have hc0:cap=0:=h3 rfl
    have hX:O=[]:=List.length_eq_zero_iff.1 (by rw [I9] at h1;omega)
    subst hX hc0
    rw [List.append_nil] at hno
    have HN1:=Hu hno
    clear h1 h2 h3 h4 hno hws hrg hlen hone hO em
    go_wp2_with (at_builtin;refine wpList_append_own_none rfl _ _ 36 rfl w.heap.size 79 i0 7 Tryz.underlying36 hi _ _ _ rfl HOw.out rfl ?_)
    go_roundw
    case rel=>exact ⟨k+1,by omega,by go_num,by rw [HN1.out];exact HOw.out,HBr.out⟩
    case measure=>simp [intOf];omega
   | some ad=>
    have hnews:∀ j u,(O.map Out.cells).flatten[j]?=some u→wr.cell? (ad.add j)=some u:=by
     by_cases hX:O=[]
     ·subst hX;intro j u hu;simp at hu
     ·obtain ⟨b,off,hab,_,hcell⟩:=h4 (by simpa using hX)
      simp only [Option.some.injEq] at hab
      subst hab
      exact yK (by decide) hlen hcell
    have hfl:(O.map Out.cells).flatten.length=O.length*7:=by rw [aO hlen,I9]
    have A:=Hu (And.intro hone (And.intro hnews hfl))
    clear h1 h2 h3 h4 hno hws hrg hlen hone hO em hnews hfl
    go_wp2_with (at_builtin;go_loud (refine wpList_append_own _ rfl _ _ 36 rfl w.heap.size 79 i0 (.agg #[.int .i64 0,.int .i64 0,.int .i64 0,.int .i64 0,.int .i64 0,.int .i64 0,.int .i64 0]) 7 56 Tryz.underlying36 hi hi0 hi1 hi2 rfl (by decide) _ _ _ rfl HOw.out ad O.length cap ((O.map Out.cells).flatten) rfl A.out.2.2 A.out.2.1 A.out.1 ?c1 ?c2 ?c3 ?_))
    case c1=>unfold maxLen;omega
    case c2=>omega
    case c3=>exact hzr
    intro v' w6 hown' hgrow _
    have hO6:w6.ownsRow w.heap.size 79 7 v' (A0g P (k+1)).length ((A0g P (k+1)).map Out.cells).flatten:=by
     rw [HNo.out,Ic,Ir,Il];exact hown'
    have hb6:=cM (B:=w.heap.size) (Hv _ wr) hzr HOw.out hgrow
    have HO6:=Hu hO6
    have HB6:=Hu hb6
    obtain ⟨a6,c6,rfl,_⟩:=aC hO6
    clear hown' hgrow hb6 hO6
    go_wp2_with fail
    exact ⟨⟨k+1,by omega,by go_num,HO6.out,HBr.out.trans HB6.out⟩,by simp [intOf];omega⟩
  ·have hge:¬ (P.steps.length:Int)<(P.steps.length:Int):=by omega
   go_wp2
   go_ret
   exact ⟨_,rfl,aD HOw.out (by simp) (A1e _),HBr.out⟩
theorem A1u {X:Wd} {b:Int}:(bZ X b).1.tok=X.tok∧(bZ X b).1.cf=X.cf∧∀ o∈(bZ X b).2,o.kind=9:=by
 unfold bZ
 cases hl:dt X.lives b with
 | none=>exact ⟨rfl,rfl,fun o h=>absurd h (by simp)⟩
 | some x=>
  simp only
  split
  ·exact ⟨rfl,rfl,fun o h=>by simp only [List.mem_singleton] at h;rw [h]⟩
  ·exact ⟨rfl,rfl,fun o h=>absurd h (by simp)⟩
section
structure A0o (R:Wd→Wd→List Out→Prop):Prop where
 nil:∀ X,R X X []
 app:∀ X Y Z A B,R X Y A→R Y Z B→R X Z (A++B)
 en:∀ X i k y,GwMay X→i<X.flows.length→(k=6∨k=7)→R X (gQ X i k y).1 (gQ X i k y).2
 fa:∀ X i why,GwMay X→i<X.flows.length→R X (eU X i why).1 (eU X i why).2
variable {R:Wd→Wd→List Out→Prop}
theorem A0o.due (hR:A0o R):∀ (S:List Int) (P:Wd×List Out),GwMay P.1→S.Nodup→(∀ s∈S,∃ f∈P.1.flows,f.slot=s)→∃ O,(S.foldl lX P).2=P.2++O∧R P.1 (S.foldl lX P).1 O
 | [],P,_,_,_=>⟨[],by simp,hR.nil _⟩
 | s :: S,P,h,hn,hS=>by
  rw [List.nodup_cons] at hn
  have hf:=mH h (hS s (Im ..))
  have h1:=DO h hf
  obtain ⟨O2,e2,r2⟩:=hR.due S (lX P s) (DQ h hf) hn.2 (fun t ht=>by
   obtain ⟨f,hfm,hfs⟩:=hS t (Ip _ ht)
   exact ⟨f,h1.ke f hfm (fun e=>hn.1 (by rw [← e,hfs];exact ht)),hfs⟩)
  have h3:∃ O,(lX P s).2=P.2++O∧R P.1 (lX P s).1 O:=by
   unfold lX
   split
   ·exact ⟨_,rfl,hR.en _ _ _ _ h hf.2 (Or.inl rfl)⟩
   ·exact ⟨_,rfl,hR.fa _ _ _ h hf.2⟩
  obtain ⟨O1,e1,r1⟩:=h3
  exact ⟨O1++O2,by rw [List.foldl_cons,e2,e1,List.append_assoc],by rw [List.foldl_cons];exact hR.app _ _ _ _ _ r1 r2⟩
theorem A0o.cut (hR:A0o R):∀ (S:List Int) (P:Wd×List Out),GwMay P.1→S.Nodup→(∀ s∈S,∃ f∈P.1.flows,f.slot=s)→∃ O,(S.foldl oQ P).2=P.2++O∧R P.1 (S.foldl oQ P).1 O
 | [],P,_,_,_=>⟨[],by simp,hR.nil _⟩
 | s :: S,P,h,hn,hS=>by
  rw [List.nodup_cons] at hn
  have hf:=mH h (hS s (Im ..))
  have h1:=DT h hf
  obtain ⟨O2,e2,r2⟩:=hR.cut S (oQ P s) (DV h hf) hn.2 (fun t ht=>by
   obtain ⟨f,hfm,hfs⟩:=hS t (Ip _ ht)
   exact ⟨f,(h1.fl f).2 ⟨hfm,(fun e=>hn.1 (by rw [← e,hfs];exact ht))⟩,hfs⟩)
  have r1:R P.1 (oQ P s).1 (gQ P.1 (eY P.1 s) 6 2).2:=hR.en _ _ _ _ h hf.2 (Or.inl rfl)
  exact ⟨(gQ P.1 (eY P.1 s) 6 2).2++O2,by rw [List.foldl_cons,e2];unfold oQ;rw [List.append_assoc],by rw [List.foldl_cons];exact hR.app _ _ _ _ _ r1 r2⟩
theorem A0o.drain (hR:A0o R):∀ (L:List Lf) (P:Wd×List Out),GwMay P.1→∃ O,(L.foldl gb P).2=P.2++O∧R P.1 (L.foldl gb P).1 O
 | [],P,_=>⟨[],by simp,hR.nil _⟩
 | x :: L,P,h=>by
  obtain ⟨O2,e2,r2⟩:=hR.drain L (gb P x) (Bs h x).gw
  have h3:∃ O,(gb P x).2=P.2++O∧R P.1 (gb P x).1 O:=by
   unfold gb
   split
   ·exact ⟨[],by simp,hR.nil _⟩
   ·exact hR.cut _ _ h (nX _ _) fun s hs=>by
     obtain ⟨f,hf,_,hfs⟩:=(nk h).1 hs
     exact ⟨f,hf,hfs⟩
  obtain ⟨O1,e1,r1⟩:=h3
  exact ⟨O1++O2,by rw [List.foldl_cons,e2,e1,List.append_assoc],by rw [List.foldl_cons];exact hR.app _ _ _ _ _ r1 r2⟩
theorem A0o.tick (hR:A0o R) {X:Wd} (h:WdMay X) (hn:X.now<1099511626776) (h0:R X (iU X) []):R X (jc X).1 (jc X).2:=by
 obtain ⟨O1,e1,r1⟩:=hR.due (eN X) (iU X,[]) (Ai h hn) (sg h.gw) (fun s hs=>by
  obtain ⟨f,hf,_,hfs⟩:=(tQ h.gw).1 hs
  exact ⟨f,by rw [(k9 X).1];exact hf,hfs⟩)
 obtain ⟨O2,e2,r2⟩:=hR.drain (bV X).1.lives (bV X) (mO h hn).gw
 have e3:(jc X).2=O1++O2:=by
  show ((bV X).1.lives.foldl gb (bV X)).2=_
  rw [e2]
  show ((eN X).foldl lX (iU X,[])).2++O2=_
  rw [e1];rfl
 rw [e3]
 have h9:=hR.app _ _ _ _ _ h0 (hR.app _ _ _ _ _ r1 r2)
 rw [List.nil_append] at h9
 exact h9
end
theorem A0p (X:Wd) (b:Int):(bZ X b).1.flows=X.flows:=by
 obtain ⟨L,e,_⟩:=jw X b
 rw [e]
def flK (k:Int):Bool:=k == 1 || k == 3 || k == 4 || k == 5 || k == 6 || k == 7
def A0h (s g:Int) (O:List Out):List Out:=O.filter fun o=>flK o.kind && (o.slot == s && o.gen == g)
theorem A1r (s g:Int) (A B:List Out):A0h s g (A++B)=A0h s g A++A0h s g B:=List.filter_append ..
theorem A0z {s g:Int} {O:List Out} (h:∀ o∈O,flK o.kind=false):A0h s g O=[]:=by
 unfold A0h
 rw [List.filter_eq_nil_iff]
 intro o ho
 rw [h o ho]
 simp
theorem A0l (s g:Int) (o:Out) (O:List Out):A0h s g (o :: O)=if flK o.kind && (o.slot == s && o.gen == g) then o :: A0h s g O else A0h s g O:=List.filter_cons ..
def A0f:Int→List Out→Option Int
 | a,[]=>some a
 | a,o :: O=>if o.kind=1∨o.kind=5 then A0f o.backend O else if o.backend=a then A0f a O else none
theorem A0w (a:Int) (o:Out) (O:List Out):A0f a (o :: O)=if o.kind=1∨o.kind=5 then A0f o.backend O else if o.backend=a then A0f a O else none:=rfl
theorem A0t:∀ (A:List Out) (a b:Int) (B:List Out),A0f a A=some b→A0f a (A++B)=A0f b B
 | [],a,b,B,h=>by
  have e:some a=some b:=h
  injection e with e
  rw [e]
  rfl
 | o :: A,a,b,B,h=>by
  rw [List.cons_append,A0w]
  rw [A0w] at h
  split
  ·rename_i hk;rw [if_pos hk] at h;exact A0t A _ _ B h
  ·rename_i hk
   rw [if_neg hk] at h
   split
   ·rename_i hb;rw [if_pos hb] at h;exact A0t A _ _ B h
   ·rename_i hb;rw [if_neg hb] at h;cases h
def BkR (X Y:Wd) (O:List Out):Prop:=∀ s g a,(∀ f∈X.flows,f.slot=s→f.gen=g→f.backend=a)→∃ a',A0f a (A0h s g O)=some a'∧(∀ f∈Y.flows,f.slot=s→f.gen=g→f.backend=a')∧(0≤a→0≤a')
theorem A0i {X Y:Wd} {O:List Out} (hf:Y.flows=X.flows) (hO:∀ o∈O,flK o.kind=false):BkR X Y O:=fun s g a h=>⟨a,by rw [A0z hO];rfl,by rw [hf];exact h,id⟩
theorem A1f {X:Wd} {b:Int}:∀ o∈(bZ X b).2,flK o.kind=false:=fun o ho=>by rw [A1u.2.2 o ho];rfl
theorem A0x {X Y:Wd} {k s0 g0 y:Int} {O:List Out} (hm:∃ f∈X.flows,f.slot=s0∧f.gen=g0) {b0:Int} (hb:∀ f∈X.flows,f.slot=s0→f.gen=g0→f.backend=b0) (hk:k≠1∧k≠5) (hO:∀ o∈O,flK o.kind=false)
  (hY:∀ f∈Y.flows,∃ f'∈X.flows,f'.slot=f.slot∧f'.gen=f.gen∧f'.backend=f.backend):BkR X Y (⟨k,s0,g0,b0,0,0,y⟩ :: O):=by
 intro s g a ha
 refine ⟨a,?_,fun f hf e1 e2=>?_,id⟩
 ·rw [A0l,A0z hO]
  split
  ·rename_i hc
   simp only [Bool.and_eq_true,beq_iff_eq] at hc
   obtain ⟨f,hfm,e1,e2⟩:=hm
   have e3:=hb f hfm e1 e2
   have e4:=ha f hfm (e1.trans hc.2.1) (e2.trans hc.2.2)
   unfold A0f
   rw [if_neg (by show ¬ (k=1∨k=5);omega),if_pos (by show b0=a;omega)]
   rfl
  ·rfl
 ·obtain ⟨f',hf',q1,q2,q3⟩:=hY f hf
  rw [← q3]
  exact ha f' hf' (q1.trans e1) (q2.trans e2)
theorem A1v {X:Wd} (h:GwMay X) {i:Nat} (hi:i<X.flows.length):∀ f∈X.flows,f.slot=(X.flows.getD i Fl.zero).slot→f=X.flows.getD i Fl.zero:=by
 intro f hf e
 have hso:=h.so
 rw [show X.flows=X.flows.take i++X.flows.getD i Fl.zero :: X.flows.drop (i+1) by rw [aN hi,List.getElem_cons_drop,Io]] at hf hso
 rw [List.pairwise_append,List.pairwise_cons] at hso
 rcases List.mem_append.1 hf with g|g
 ·have:=hso.2.2 f g _ (Im ..);omega
 ·rcases List.mem_cons.1 g with g|g
  ·exact g
  ·have:=hso.2.1.1 f g;omega
theorem A1a {X:Wd} (h:GwMay X) {i:Nat} {k y:Int} (hi:i<X.flows.length) (hk:k=6∨k=7):BkR X (gQ X i k y).1 (gQ X i k y).2:=by
 have hf:(gQ X i k y).1.flows=X.flows.take i++X.flows.drop (i+1):=by unfold gQ;rw [A0p];rfl
 refine A0x ⟨_,h.at_ hi,rfl,rfl⟩ (fun f hf e1 _=>by rw [A1v h hi f hf e1]) (by omega) A1f fun f hm=>?_
 rw [hf] at hm
 rcases List.mem_append.1 hm with g|g
 ·exact ⟨f,List.mem_of_mem_take g,rfl,rfl,rfl⟩
 ·exact ⟨f,List.mem_of_mem_drop g,rfl,rfl,rfl⟩
theorem A1l {X:Wd} (h:GwMay X) {i:Nat} (hi:i<X.flows.length) {b:Int} (hb:0≤b) {f':Fl} (h1:f'.slot=(X.flows.getD i Fl.zero).slot) (h2:f'.gen=(X.flows.getD i Fl.zero).gen) (h3:f'.backend=b) {Y:Wd} (hY:Y.flows=X.flows.set i f') {O:List Out} (hO:∀ o∈O,flK o.kind=false) :
  BkR X Y (⟨5,(X.flows.getD i Fl.zero).slot,(X.flows.getD i Fl.zero).gen,b,0,0,0⟩ :: O):=by
 intro s g a ha
 by_cases hc:(X.flows.getD i Fl.zero).slot=s∧(X.flows.getD i Fl.zero).gen=g
 ·refine ⟨b,?_,fun f hf e1 e2=>?_,fun _=>hb⟩
  ·rw [A0l,A0z hO,if_pos (by simp only [Bool.and_eq_true,beq_iff_eq];exact ⟨rfl,hc⟩)]
   unfold A0f
   rw [if_pos (Or.inr rfl)]
   rfl
  ·rw [hY] at hf
   obtain ⟨j,hj,hfj⟩:=List.getElem_of_mem hf
   rw [List.getElem_set] at hfj
   split at hfj
   ·rw [← hfj,h3]
   ·rename_i hij
    rw [Ig] at hj
    have hm:f∈X.flows:=by rw [← hfj];exact If hj
    have hso:=h.so
    have hsl:f.slot=(X.flows.getD i Fl.zero).slot:=by rw [e1,hc.1]
    exfalso
    rw [aN hi] at hsl
    rcases Nat.lt_or_gt_of_ne hij with g1|g1
    ·have:=List.pairwise_iff_getElem.1 hso i j hi hj g1;rw [hfj] at this;omega
    ·have:=List.pairwise_iff_getElem.1 hso j i hj hi g1;rw [hfj] at this;omega
 ·refine ⟨a,?_,fun f hf e1 e2=>?_,id⟩
  ·rw [A0l,A0z hO,if_neg (by simp only [Bool.and_eq_true,beq_iff_eq];exact fun g=>hc g.2)]
   rfl
  ·rw [hY] at hf
   rcases List.mem_or_eq_of_mem_set hf with g1|g1
   ·exact ha f g1 e1 e2
   ·exact absurd ⟨by rw [← h1,← g1];exact e1,by rw [← h2,← g1];exact e2⟩ hc
theorem A1w:A0o BkR where
 nil X:=A0i rfl (by simp)
 app X Y Z A B h k:=fun s g a ha=>by
  obtain ⟨a1,r1,f1,p1⟩:=h s g a ha
  obtain ⟨a2,r2,f2,p2⟩:=k s g a1 f1
  exact ⟨a2,by rw [A1r,A0t _ _ _ _ r1,r2],f2,fun hp=>p2 (p1 hp)⟩
 en X i k y h hi hk:=A1a h hi hk
 fa X i why h hi:=by
  have hfm:=h.at_ hi
  obtain ⟨q,q1,q2,q3,q4,q5,q6,q7,q8,q9⟩:=h.num hfm
  have hN:=h.noted (b:=(X.flows.getD i Fl.zero).backend.toNat) (by omega) true
  have hn:∀ Y O,BkR (bU X (X.flows.getD i Fl.zero).backend.toNat true) Y O→BkR X Y O:=fun Y O h=>h
  unfold eU
  simp only
  split
  ·exact hn _ _ (A1a hN hi (Or.inl rfl))
  ·split
   ·exact hn _ _ (A1a hN hi (Or.inl rfl))
   ·rename_i h0
    obtain ⟨x,hx,_,hxb⟩:=tK hN (hN.butF (f:=X.flows.getD i Fl.zero) hfm) (Decidable.not_not.1 h0)
    have hb:=(eO hN.bk hx).1
    rw [hxb] at hb
    split
    ·exact A1l h hi hb (f':={ X.flows.getD i Fl.zero with backend:=_,retries:=(X.flows.getD i Fl.zero).retries+1,due:=X.now+X.cf.connect }) rfl rfl rfl rfl (by simp)
    ·exact A1l h hi hb (f':={ X.flows.getD i Fl.zero with backend:=_,retries:=(X.flows.getD i Fl.zero).retries+1,due:=X.now+X.cf.connect }) rfl rfl rfl ((A0p _ _).trans rfl) A1f
def BkD (X Y:Wd) (O:List Out):Prop:=∀ s g a,(∀ f∈X.flows,f.slot=s→f.gen=g→f.backend=a)→∃ a',A0f a (A0h s g O)=some a'∧(∀ f∈Y.flows,f.slot=s→f.gen=g→f.backend=a')∧(0≤a→0≤a')∧((∃ h∈nN O,h.slot=s∧h.gen=g)→0≤a')
theorem BkR.d {X Y:Wd} {O:List Out} (h:BkR X Y O) (h1:∀ o∈O,o.kind≠1):BkD X Y O:=fun s g a ha=>by
 obtain ⟨a',r,f,p⟩:=h s g a ha
 refine ⟨a',r,f,p,?_⟩
 rw [kV h1]
 rintro ⟨_,hm,_⟩
 simp at hm
theorem A2s {X:Wd} (h:WdMay X) {e:Ev} (he:EvMay X e):BkD X (mP X e).1 (mP X e).2:=by
 unfold mP
 split
 ·unfold gj
  split
  ·exact (A0i rfl (by simp [flK])).d (by simp)
  ·split
   ·exact (A0i rfl (by simp [flK])).d (by simp)
   ·rename_i h1 h2
    have h0:(dC X e.key.toNat (-1)).2=0:=Decidable.not_not.1 h2
    obtain ⟨x,hx,_,hxb⟩:=tK h.gw (Or.inl rfl) h0
    have hb:=(eO h.gw.bk hx).1
    rw [hxb] at hb
    rcases bJ fh X.tab Sl.zero with ⟨ei,_⟩|⟨i,hi,ei,hfree,_⟩
    ·omega
    ·rw [ei]
     have hno:∀ f∈X.flows,f.slot≠(i:Int):=fun f hf es=>by
      obtain ⟨q,q1,_,q3,_⟩:=h.gw.num hf
      have:q=i:=by omega
      subst this
      unfold fh at hfree
      rw [q3] at hfree
      simp at hfree
     intro s g a ha
     by_cases hc:(i:Int)=s∧(X.tab.getD i Sl.zero).gen=g
     ·refine ⟨(dC X e.key.toNat (-1)).1,?_,fun f hf e1 e2=>?_,fun _=>hb,fun _=>hb⟩
      ·rw [A0l,if_pos (by simp only [Bool.and_eq_true,beq_iff_eq];exact ⟨rfl,hc.1,by rw [Id];exact hc.2⟩)]
       unfold A0f
       rw [if_pos (Or.inl rfl)]
       rfl
      ·rcases jn.1 hf with g1|g1
       ·rw [g1]
       ·exact absurd (e1.trans hc.1.symm) (hno f g1)
     ·refine ⟨a,?_,fun f hf e1 e2=>?_,id,?_⟩
      ·rw [A0l,if_neg (by simp only [Bool.and_eq_true,beq_iff_eq];exact fun g1=>hc ⟨g1.2.1,by have:=g1.2.2;rw [Id] at this;exact this⟩)]
       rfl
      ·rcases jn.1 hf with g1|g1
       ·rw [g1] at e1 e2
        exact absurd ⟨by simpa using e1,by simpa using e2⟩ hc
       ·exact ha f g1 e1 e2
      ·rintro ⟨y,hy,e1,e2⟩
       simp only [nN,List.filter_cons,beq_self_eq_true,if_true,List.filter_nil,List.map_cons,List.map_nil,List.mem_singleton] at hy
       rw [hy] at e1 e2
       exact absurd ⟨e1,by rw [Id] at e2;exact e2⟩ hc
 ·split
  ·have h9:∀ o∈(um X e).2,o.kind=8∨o.kind=9:=fun o ho=>zL ho
   have hf:(um X e).1.flows=X.flows:=by
    unfold um jF
    simp only
    split
    ·rfl
    ·split
     ·rfl
     ·rw [A0p]
   exact (A0i hf (fun o ho=>by rcases h9 o ho with g|g<;>rw [g]<;>rfl)).d (fun o ho=>by rcases h9 o ho with g|g<;>omega)
  ·split
   ·rename_i h7
    exact (A1w.tick h (he.tk h7) (A0i (k9 X).1 (by simp))).d (fun o ho=>by rcases uK ho with g|g|g<;>omega)
   ·refine BkR.d ?_ (fun o ho=>wB ho)
    unfold fj
    by_cases hc:ub X.tab e.slot e.gen≠0
    ·rw [if_pos hc];exact A0i rfl (by simp [flK])
    ·rw [if_neg hc]
     obtain ⟨_,hi,hsl,hgn⟩:=yz h.gw (Decidable.not_not.1 hc)
     have hone:∀ f∈X.flows,f.slot=e.slot→f.gen=e.gen→f.backend=(X.flows.getD (eY X e.slot) Fl.zero).backend:=fun f hf e1 _=>by rw [A1v h.gw hi f hf (e1.trans hsl.symm)]
     have hex:∃ f∈X.flows,f.slot=e.slot∧f.gen=e.gen:=⟨_,h.gw.at_ hi,hsl,hgn⟩
     have hset:∀ (F:List Fl) (f1:Fl),(∀ f∈F,∃ f'∈X.flows,f'.slot=f.slot∧f'.gen=f.gen∧f'.backend=f.backend)→f1.slot=(X.flows.getD (eY X e.slot) Fl.zero).slot→f1.gen=(X.flows.getD (eY X e.slot) Fl.zero).gen→f1.backend=(X.flows.getD (eY X e.slot) Fl.zero).backend→∀ f∈F.set (eY X e.slot) f1,∃ f'∈X.flows,f'.slot=f.slot∧f'.gen=f.gen∧f'.backend=f.backend:=fun F f1 hF b1 b2 b3 f hf=>by
      rcases List.mem_or_eq_of_mem_set hf with g|g
      ·exact hF f g
      ·exact ⟨_,h.gw.at_ hi,by rw [g,b1],by rw [g,b2],by rw [g,b3]⟩
     have hid:∀ f∈X.flows,∃ f'∈X.flows,f'.slot=f.slot∧f'.gen=f.gen∧f'.backend=f.backend:=fun f hf=>⟨f,hf,rfl,rfl,rfl⟩
     split
     ·exact A1a h.gw hi (Or.inr rfl)
     ·split
      ·refine A0x hex hone (by decide) (by simp) ?_
       split
       ·exact hset _ _ hid rfl rfl rfl
       ·exact hid
      ·split
       ·exact A0i rfl (by simp [flK])
       ·split
        ·refine A0x hex hone (by decide) (by simp) ?_
         have h1:=hset X.flows { X.flows.getD (eY X e.slot) Fl.zero with serving:=true } hid rfl rfl rfl
         refine hset _ _ h1 ?_ ?_ ?_
         ·show ((X.flows.set (eY X e.slot) _).getD (eY X e.slot) Fl.zero).slot=_
          rw [cO hi,if_pos rfl]
         ·show ((X.flows.set (eY X e.slot) _).getD (eY X e.slot) Fl.zero).gen=_
          rw [cO hi,if_pos rfl]
         ·show ((X.flows.set (eY X e.slot) _).getD (eY X e.slot) Fl.zero).backend=_
          rw [cO hi,if_pos rfl]
        ·exact A1w.fa _ _ _ h.gw hi
def BkP (P:lA):Prop:=∀ s g,∃ a,A0f (-1) (A0h s g (A0j P))=some a∧(∀ f∈P.last.flows,f.slot=s→f.gen=g→f.backend=a)∧((∃ h∈P.given,h.slot=s∧h.gen=g)→0≤a)
theorem A2j {c:Cf} (hc:ju c) (L:List Dd) {most:Nat} (hm:most≤1000):BkP (iI (dy c) L most):=by
 refine play_ind hc (Q:=BkP) L hm (fun s g=>⟨-1,rfl,fun f hf=>absurd hf (by simp [dy]),?_⟩) fun P n e h hn he q s g=>?_
 ·rintro ⟨_,hm,_⟩
  simp at hm
 ·have hmy:EvMay P.last e:=he.may (by have:=h.ok.nw;have:=h.len;omega)
  obtain ⟨a,r,f,p⟩:=q s g
  obtain ⟨a',r',f',p',p2⟩:=A2s h.ok.wd hmy s g a f
  refine ⟨a',by rw [A2c,A1r,A0t _ _ _ _ r,r'],f',?_⟩
  rintro ⟨y,hy,ey⟩
  rcases List.mem_append.1 hy with g1|g1
  ·exact p' (p ⟨y,g1,ey⟩)
  ·exact p2 ⟨y,g1,ey⟩
def A0k (j:Nat) (o:Out):Bool:=if j<11 then decide (o.kind=j) else decide (o.kind=6∧o.why=(j:Int) - 11)
def cnt (X:List Out) (j:Nat):Nat:=X.countP (A0k j)
theorem A1x (X:List Out) (j:Nat):cnt X j≤X.length:=List.countP_le_length
theorem A1m (X:List Out) (o:Out) (j:Nat):cnt (X++[o]) j=cnt X j+if A0k j o then 1 else 0:=by
 unfold cnt;rw [List.countP_append,List.countP_singleton]
def A0b (o:Out):Prop:=1≤o.kind∧o.kind≤10∧0≤o.why∧o.why≤5
theorem A2e (o:Out) (w:World) (h:A0b o):Calls Tryz.prog 20 #[.agg #[.int .i64 o.kind,.int .i64 o.slot,.int .i64 o.gen,.int .i64 o.backend,.int .i64 o.request,.int .i64 o.code,.int .i64 o.why]] w fun e w'=>e=.returned (.bool true)∧Below w.heap.size w w':=by
 obtain ⟨h1,h2,h3,h4⟩:=h
 go_enter Tryz.func20,Tryz.ntmps20
 go_wp2
 all_goals exact Zf
def A0c (w:World) (b:Nat) (X:List Out):Prop:=∃ (arr:Array Value) (T:TypeId),w.heap[b]?=some (.cells arr T (0,0))∧arr.size=17∧∀ j,j<17→arr[j]?=some (.int .i64 (cnt X j))
theorem A0c.cell {w:World} {b:Nat} {X:List Out} (h:A0c w b X) {j:Nat} (hj:j<17):w.cell? ⟨b,j,none⟩=some (.int .i64 (cnt X j)):=by
 obtain ⟨arr,T,h1,_,h2⟩:=h
 simp [World.cell?,h1,h2 j hj]
theorem A0c.free {w:World} {b:Nat} {X:List Out} (h:A0c w b X) (j:Nat):w.frozen? ⟨b,j,none⟩=false:=by
 obtain ⟨arr,T,h1,_,h2⟩:=h
 simp [World.frozen?,h1]
theorem A0c.lt {w:World} {b:Nat} {X:List Out} (h:A0c w b X):b<w.heap.size:=by
 obtain ⟨arr,T,h1,_,_⟩:=h;exact lt_of_block h1
theorem A0m {w:World} {b j:Nat} {arr:Array Value} {T:TypeId} {fr:Nat×Nat} (h:w.heap[b]?=some (.cells arr T fr)) (u:Value):(w.setCell ⟨b,j,none⟩ u).heap[b]?=some (.cells (arr.setIfInBounds j u) T fr):=by
 have hlt:=lt_of_block h
 have h':w.heap[b]=.cells arr T fr:=by simpa [Array.getElem?_eq_getElem hlt] using h
 show (w.heap.modify b _)[b]?=_
 rw [Array.getElem?_eq_getElem (by simpa using hlt),Array.getElem_modify_self,h']
 rfl
theorem A0c.below {w w':World} {b B:Nat} {X:List Out} (h:A0c w b X) (hb:Below B w w') (hB:b<B):A0c w' b X:=by
 obtain ⟨arr,T,h1,h2,h3⟩:=h
 exact ⟨arr,T,(hb.block b hB).trans h1,h2,h3⟩
theorem A0c.one {w:World} {b:Nat} {X:List Out} (h:A0c w b X) (o:Out) (K:Nat) (hK:o.kind=K) (h1:K≤10) (h6:K≠6):A0c (w.setCell ⟨b,K,none⟩ (.int .i64 ((cnt X K:Int)+1))) b (X++[o]):=by
 obtain ⟨arr,T,g1,g2,g3⟩:=h
 refine ⟨_,T,A0m g1 _,by simpa using g2,fun j hj=>?_⟩
 rw [Array.getElem?_setIfInBounds,A1m]
 by_cases hj2:K=j
 ·subst hj2
  rw [if_pos rfl,if_pos (by omega)]
  have:A0k K o=true:=by unfold A0k;rw [if_pos (by omega)];simpa using hK
  rw [this];simp
 ·rw [if_neg hj2,g3 j hj]
  have:A0k j o=false:=by
   unfold A0k
   split
   ·simp;omega
   ·simp;intro h;omega
  rw [this];simp
theorem A0c.two {w:World} {b:Nat} {X:List Out} (h:A0c w b X) (o:Out) (Y:Nat) (hK:o.kind=6) (hY:o.why=Y) (h1:Y≤5):A0c ((w.setCell ⟨b,6,none⟩ (.int .i64 ((cnt X 6:Int)+1))).setCell ⟨b,11+Y,none⟩ (.int .i64 ((cnt X (11+Y):Int)+1))) b (X++[o]):=by
 obtain ⟨arr,T,g1,g2,g3⟩:=h
 refine ⟨_,T,A0m (A0m g1 _) _,by simpa using g2,fun j hj=>?_⟩
 rw [Array.getElem?_setIfInBounds,Array.getElem?_setIfInBounds,A1m]
 by_cases hj2:11+Y=j
 ·subst hj2
  rw [if_pos rfl,if_pos (by simp;omega)]
  have:A0k (11+Y) o=true:=by unfold A0k;rw [if_neg (by omega)];simp;omega
  rw [this];simp
 ·rw [if_neg hj2]
  by_cases hj3:6=j
  ·subst hj3
   rw [if_pos rfl,if_pos (by omega)]
   have:A0k 6 o=true:=by unfold A0k;rw [if_pos (by omega)];simpa using hK
   rw [this];simp
  ·rw [if_neg hj3,g3 j hj]
   have:A0k j o=false:=by
    unfold A0k
    split
    ·simp;omega
    ·simp;intro h;omega
   rw [this];simp
theorem A1g {α:Type} (X:List α) (d:α) (k:Nat) (hk:k<X.length):X.take (k+1)=X.take k++[X.getD k d]:=by
 rw [Ia hk];simp [List.getD,hk]
def A0e (X:List Out):Array Value:=((List.range 17).map fun j=>Value.int .i64 (cnt X j)).toArray
theorem A2f (X:List Out):A0e X=#[.int .i64 (cnt X 0),.int .i64 (cnt X 1),.int .i64 (cnt X 2),.int .i64 (cnt X 3),.int .i64 (cnt X 4),.int .i64 (cnt X 5),.int .i64 (cnt X 6),.int .i64 (cnt X 7),.int .i64 (cnt X 8),.int .i64 (cnt X 9),.int .i64 (cnt X 10),.int .i64 (cnt X 11),.int .i64 (cnt X 12),.int .i64 (cnt X 13),.int .i64 (cnt X 14),.int .i64 (cnt X 15),.int .i64 (cnt X 16)]:=rfl
theorem A0c.block {w:World} {b:Nat} {X:List Out} (h:A0c w b X):∃ T,w.heap[b]?=some (.cells (A0e X) T (0,0)):=by
 obtain ⟨arr,T,h1,h2,h3⟩:=h
 refine ⟨T,?_⟩
 rw [h1]
 congr 2
 refine Array.ext (by rw [h2];rfl) (fun i hi _=>?_)
 have h4:=h3 i (by omega)
 rw [Array.getElem?_eq_getElem hi] at h4
 simp only [Option.some.injEq] at h4
 rw [h4]
 simp [A0e]
theorem A2t (X:List Out):(A0e X).size=17:=rfl
theorem A1n (X:List Out):(A0e X).all (·.oneCell')=true:=by simp [A0e];intro x _;rfl
def A2m (w wr:World) (X:List Out) (k:Nat):Prop:=k≤X.length∧Below w.heap.size w wr∧A0c wr w.heap.size []∧A0c wr (w.heap.size+1) (X.take k)
theorem A2n (b0 o0 c0:Nat) (X:List Out) (w:World) (hf:∀ x∈X,A0b x) (hb0:b0<w.heap.size) (hn:X.length*56≤140737488351232) (h1:∀ i j,i<X.length→j<7→w.cell? ⟨b0,o0+i*7+j,none⟩=(X.getD i Out.zero).cells[j]?) :
  Calls Tryz.prog 9 #[.slice (some ⟨b0,o0,none⟩) X.length c0] w fun e w'=>e=.returned (.tuple #[.agg (A0e X),.int .i64 0])∧Below w.heap.size w w':=by
 have H1:=Hu h1
 have HF:=Hu hf
 clear h1 hf
 have hn2:X.length≤9223372036854775807:=by omega
 go_enter Tryz.func9,Tryz.ntmps9
 go_wp2
 go_loopw [9] (fun i wr=>∃ k:Nat,i=.int .i64 k∧A2m w wr X k) (fun i _=>X.length - (intOf i).toNat)
 case atStart=>
  have hz:∀ (w:World) (T:TypeId),A0c (w.alloc (.cells #[.int .i64 0,.int .i64 0,.int .i64 0,.int .i64 0,.int .i64 0,.int .i64 0,.int .i64 0,.int .i64 0,.int .i64 0,.int .i64 0,.int .i64 0,.int .i64 0,.int .i64 0,.int .i64 0,.int .i64 0,.int .i64 0,.int .i64 0] T)) w.heap.size []:=by
   intro w T
   refine ⟨_,T,az _ rfl,rfl,fun j hj=>?_⟩
   rcases (show j=0∨j=1∨j=2∨j=3∨j=4∨j=5∨j=6∨j=7∨j=8∨j=9∨j=10∨j=11∨j=12∨j=13∨j=14∨j=15∨j=16 by omega) with rfl|rfl|rfl|rfl|rfl|rfl|rfl|rfl|rfl|rfl|rfl|rfl|rfl|rfl|rfl|rfl|rfl<;>rfl
  refine ⟨0,rfl,I4 _,((Hv _ _).alloc (I3 _) _).alloc (by simp) _,?_,?_⟩
  ·exact (hz w _).below ((Hv _ _).alloc (I3 _) _) (by simp)
  ·simpa using hz (w.alloc _) _
 case round=>
  obtain ⟨k,rfl,hk,hbel,t0,t1⟩:=hrel
  rcases (show k<X.length∨X.length=k by omega) with hlt|heq
  ·have hlt':(k:Int)<(X.length:Int):=by omega
   obtain ⟨o,ho⟩:∃ o,o=X.getD k Out.zero:=⟨_,rfl⟩
   have hfo:A0b o:=HF.out o (by rw [ho];simp only [List.getD,Ib hlt,Iu];exact If _)
   have hts:X.take (k+1)=X.take k++[o]:=by rw [ho];exact A1g X _ k hlt
   have hold:∀ j,j<7→wr.cell? ⟨b0,o0+k*7+j,none⟩=o.cells[j]?:=fun j hj=>by
    rw [hbel.cell (p:=⟨b0,o0+k*7+j,none⟩) hb0,ho];exact H1.out k j hlt hj
   have HT:=Hu hts
   clear ho hts
   have a0:=hold 0 (by omega)
   have a1:=hold 1 (by omega)
   have a2:=hold 2 (by omega)
   have a3:=hold 3 (by omega)
   have a4:=hold 4 (by omega)
   have a5:=hold 5 (by omega)
   have a6:=hold 6 (by omega)
   clear hold
   have HFo:=Hu hfo
   obtain ⟨f1,f2,f3,f4⟩:=hfo
   obtain ⟨kd,sl,gn,bk,rq,cd,wy⟩:=o
   simp only [Out.cells,I5,I6,Nat.add_zero] at a0 a1 a2 a3 a4 a5 a6 f1 f2 f3 f4
   obtain ⟨K,rfl⟩:=Ih (by omega:0≤kd)
   obtain ⟨Y,rfl⟩:=Ih (by omega:0≤wy)
   have lt1:=t1.lt
   have leK:=A1x (X.take k) K
   have leY:=A1x (X.take k) (11+Y)
   have ltk:(X.take k).length≤X.length:=by simp;omega
   have T0:=Hu t0
   have T1:=Hu t1
   clear t0 t1
   go_wp2_with fail
   refine (A2e ⟨_,_,_,_,_,_,_⟩ _ HFo.out).mono ?_
   rintro e w1 ⟨rfl,hb1⟩
   obtain ⟨hc1,hf1⟩:=aV hb1
   have hz1:=fQ hb1
   have hy1:=hb1.size
   simp at hy1
   have hB:Below (w.heap.size+2) wr w1:=((Hv _ _).alloc (by omega) _).trans (hb1.mono (by simp;omega))
   have t0:=T0.out.below hB (by omega)
   have t1:=T1.out.below hB (by omega)
   have cK:=t1.cell (j:=K) (by omega)
   have cY:=t1.cell (j:=11+Y) (by omega)
   have fK:=t1.free K
   have fY:=t1.free (11+Y)
   have hz2:w.heap.size+1<w1.heap.size:=by omega
   have hbw:Below w.heap.size w w1:=hbel.trans (hB.mono (by omega))
   have T0':=Hu t0
   have T1':=Hu t1
   have HB:=Hu hbw
   clear t0 t1 T0 T1 hB hbw hb1
   rcases (show K≠6∨K=6 by omega) with h6|h6
   ·have h6':(((K:Nat):Int) == 6)=false:=by simp;omega
    go_wp2
    go_roundw
    case rel=>exact ⟨k+1,by go_num,by omega,HB.out.setCell (by simp) _,T0'.out.below ((Hv (w.heap.size+1) _).setCell (by simp) _) (by omega),by rw [HT.out];exact T1'.out.one _ K rfl (by omega) h6⟩
    case measure=>simp [intOf];omega
   ·subst h6
    go_wp2
    go_roundw
    case rel=>exact ⟨k+1,by go_num,by omega,(HB.out.setCell (by simp) _).setCell (by simp) _,T0'.out.below (((Hv (w.heap.size+1) _).setCell (by simp) _).setCell (by simp) _) (by omega),by rw [HT.out];exact T1'.out.two _ Y rfl rfl (by omega)⟩
    case measure=>simp [intOf];omega
  ·have hge:¬ (k:Int)<(X.length:Int):=by omega
   have hX:X.take k=X:=Ie (by omega)
   rw [hX] at t1
   obtain ⟨T1,g1⟩:=t1.block
   obtain ⟨T0,g0⟩:=t0.block
   have HB:=Hu hbel
   have G1:=Hu g1
   have G0:=Hu g0
   clear t0 t1 hX heq hbel g1 g0
   go_wp2_with (first|(refine Iy rfl 32 (.tmp 4) rfl (w.heap.size+1) rfl T1 (A0e X) (0,0) _ G1.out Tryz.underlying32 rfl (by kernel_rfl) ?_)|(refine Iz rfl 32 (.tmp 2) (.tmp 37) rfl w.heap.size (A0e X) rfl rfl T0 (A0e []) G0.out (by kernel_rfl) rfl (A1n X) ?_))
   refine Ix (v:=.tuple #[.agg (A0e X),.int .i64 0]) ?_ rfl ?_
   ·exact eQ Tryz.results9 _ _ w.heap.size T0 (A0e X) (0,0) _ _ rfl rfl (aZ G0.out) Tryz.underlying32 rfl (by kernel_rfl)
   ·exact ⟨rfl,aW HB.out (I3 _)⟩
theorem A2o (a:Option Addr) (c:Nat) (w:World):Calls Tryz.prog 9 #[.slice a 0 c] w fun e w'=>e=.returned (.tuple #[.agg (A0e []),.int .i64 0])∧Below w.heap.size w w':=by
 go_enter Tryz.func9,Tryz.ntmps9
 go_wp2
 refine wp_loop_rounds 1 ?_
 rw [rounds_succ]
 have hz:∀ (w:World) (T:TypeId),(w.alloc (.cells #[.int .i64 0,.int .i64 0,.int .i64 0,.int .i64 0,.int .i64 0,.int .i64 0,.int .i64 0,.int .i64 0,.int .i64 0,.int .i64 0,.int .i64 0,.int .i64 0,.int .i64 0,.int .i64 0,.int .i64 0,.int .i64 0,.int .i64 0] T)).heap[w.heap.size]?=some (.cells (A0e []) T (0,0)):=fun w T=>az _ rfl
 have g1:=hz (w.alloc (.cells #[.int .i64 0,.int .i64 0,.int .i64 0,.int .i64 0,.int .i64 0,.int .i64 0,.int .i64 0,.int .i64 0,.int .i64 0,.int .i64 0,.int .i64 0,.int .i64 0,.int .i64 0,.int .i64 0,.int .i64 0,.int .i64 0,.int .i64 0] 32)) 32
 have g0:=hz w 32
 have G1:=Hu g1
 have G0:=Hu ((Hz _ (.cells #[.int .i64 0,.int .i64 0,.int .i64 0,.int .i64 0,.int .i64 0,.int .i64 0,.int .i64 0,.int .i64 0,.int .i64 0,.int .i64 0,.int .i64 0,.int .i64 0,.int .i64 0,.int .i64 0,.int .i64 0,.int .i64 0,.int .i64 0] 32) w.heap.size (by simp)).trans g0)
 clear hz g1 g0
 go_wp2_with (first|(refine Iy rfl 32 (.tmp 4) rfl (w.heap.size+1) rfl _ (A0e []) (0,0) _ G1.out Tryz.underlying32 rfl (by kernel_rfl) ?_)|(refine Iz rfl 32 (.tmp 2) (.tmp 37) rfl w.heap.size (A0e []) rfl rfl _ (A0e []) G0.out (by kernel_rfl) rfl (A1n []) ?_))
 refine Ix (v:=.tuple #[.agg (A0e []),.int .i64 0]) ?_ rfl ?_
 ·exact eQ Tryz.results9 _ _ w.heap.size _ (A0e []) (0,0) _ _ rfl rfl (aZ G0.out) Tryz.underlying32 rfl (by kernel_rfl)
 ·exact ⟨rfl,aW (((Hv _ _).alloc (I3 _) _).alloc (by simp) _) (I3 _)⟩
theorem A1p (v:Value) (X:List Out) (w:World) (r:aI w 7 v (X.map Out.cells)) (hn:X.length*56≤140737488351232) (hf:∀ x∈X,A0b x) :
  Calls Tryz.prog 9 #[v] w fun e w'=>e=.returned (.tuple #[.agg (A0e X),.int .i64 0])∧Below w.heap.size w w':=by
 obtain ⟨a,c,rfl,l,m,n,p⟩:=aK Out.zero r
 by_cases hX:X=[]
 ·subst hX;exact A2o a c w
 ·obtain ⟨b,o,rfl,hb,q⟩:=p hX
  exact A2n b o c X w hf hb hn q
theorem A0q {X:Wd} {b:Int} {o:Out} (h:o∈(bZ X b).2):A0b o:=by
 unfold bZ at h
 cases hl:dt X.lives b with
 | none=>rw [hl] at h;simp at h
 | some x=>
  rw [hl] at h
  simp only at h
  split at h
  ·simp only [List.mem_singleton] at h;subst h;unfold A0b;simp only;omega
  ·simp at h
theorem A0n {X:Wd} {i:Nat} {k y:Int} (hk:k=6∨k=7) (h0:0≤y) (h5:y≤5) {o:Out} (h:o∈(gQ X i k y).2):A0b o:=by
 unfold gQ at h
 rcases List.mem_cons.1 h with rfl|h
 ·unfold A0b;simp only;omega
 ·exact A0q h
theorem A1o {X:Wd} {i:Nat} {why:Int} (h0:0≤why) (h5:why≤5) {o:Out} (h:o∈(eU X i why).2):A0b o:=by
 unfold eU at h
 simp only at h
 split at h
 ·exact A0n (Or.inl rfl) h0 h5 h
 ·split at h
  ·exact A0n (Or.inl rfl) (by decide) (by decide) h
  ·split at h
   ·simp only [List.mem_singleton] at h;subst h;unfold A0b;simp only;omega
   ·rcases List.mem_cons.1 h with rfl|h
    ·unfold A0b;simp only;omega
    ·exact A0q h
theorem A2k {P:Wd×List Out} {s:Int} {o:Out} (h:o∈(oQ P s).2):o∈P.2∨A0b o:=by
 unfold oQ at h
 rcases List.mem_append.1 h with h|h
 ·exact Or.inl h
 ·exact Or.inr (A0n (Or.inl rfl) (by decide) (by decide) h)
theorem A2g {X:Wd} {o:Out} (h:o∈(jc X).2):A0b o:=by
 unfold jc at h
 rcases mI (p:=A0b) (fun P a o h=>by
  unfold gb at h
  split at h
  ·exact Or.inl h
  ·exact mI (p:=A0b) (fun P a o h=>A2k h) _ _ _ h) _ _ _ h with h|h
 ·unfold bV at h
  rcases mI (p:=A0b) (fun P a o h=>by
   unfold lX at h
   split at h
   ·rcases List.mem_append.1 h with h|h
    ·exact Or.inl h
    ·exact Or.inr (A0n (Or.inl rfl) (by decide) (by decide) h)
   ·rcases List.mem_append.1 h with h|h
    ·exact Or.inl h
    ·exact Or.inr (A1o (by decide) (by decide) h)) _ _ _ h with h|h
  ·simp at h
  ·exact h
 ·exact h
theorem A2p {X:Wd} {e:Ev} {o:Out} (h:o∈(mP X e).2):A0b o:=by
 have one:∀ k s g b c,1≤k→k≤10→o=⟨k,s,g,b,0,c,0⟩→A0b o:=fun k s g b c h1 h2 e=>by
  subst e;unfold A0b;simp only;omega
 unfold mP at h
 split at h
 ·unfold gj at h
  split at h
  ·simp only [List.mem_singleton] at h;exact one _ _ _ _ _ (by decide) (by decide) h
  ·split at h
   ·simp only [List.mem_singleton] at h;exact one _ _ _ _ _ (by decide) (by decide) h
   ·simp only [List.mem_singleton] at h;exact one _ _ _ _ _ (by decide) (by decide) h
 ·split at h
  ·unfold um jF at h
   simp only at h
   split at h
   ·simp only [List.mem_singleton] at h;subst h;unfold A0b;simp only;omega
   ·split at h
    ·rcases List.mem_cons.1 h with rfl|h
     ·unfold A0b;simp only;omega
     ·simp only [List.mem_singleton] at h;subst h;unfold A0b;simp only;omega
    ·rcases List.mem_cons.1 h with rfl|h
     ·unfold A0b;simp only;omega
     ·exact A0q h
  ·split at h
   ·exact A2g h
   ·unfold fj at h
    split at h
    ·simp only [List.mem_singleton] at h;exact one _ _ _ _ _ (by decide) (by decide) h
    ·split at h
     ·exact A0n (Or.inr rfl) (by decide) (by decide) h
     ·split at h
      ·simp only [List.mem_singleton] at h;exact one _ _ _ _ _ (by decide) (by decide) h
      ·split at h
       ·simp only [List.mem_singleton] at h;exact one _ _ _ _ _ (by decide) (by decide) h
       ·split at h
        ·simp only [List.mem_singleton] at h;exact one _ _ _ _ _ (by decide) (by decide) h
        ·exact A1o (by decide) (by decide) h
theorem A2l {c:Cf} {P:lA} (h:zO c P):∀ o∈A0j P,A0b o:=by
 intro o ho
 rw [A0v] at ho
 obtain ⟨s,hs,ho⟩:=List.mem_flatMap.1 ho
 rw [(h.st s hs).2.2.2.2.2.1] at ho
 exact A2p ho
theorem A1y:(Tryz.prog.info? 79).map (fun i=>(i.zero,i.size,i.bytes))=some (some (.agg #[.int .i64 0,.int .i64 0,.int .i64 0,.int .i64 0,.int .i64 0,.int .i64 0,.int .i64 0]),7,56):=by kernel_rfl
def A0u (k:Int):Bool:=decide (k=1∨(3≤k∧k≤7))
def A0d (hs hg:Int) (o:Out):Bool:=A0u o.kind && decide (o.slot=hs) && decide (o.gen=hg)
def A0a (X:List Out) (hs hg:Int) (k:Nat):List Out:=(X.take k).filter (A0d hs hg)
theorem A1b {X:List Out} {hs hg:Int} {k:Nat} {o:Out} (hk:k<X.length) (ho:o=X.getD k Out.zero):A0a X hs hg (k+1)=A0a X hs hg k++(if A0d hs hg o then [o] else []):=by
 unfold A0a
 rw [A1g X Out.zero k hk,List.filter_append,← ho]
 cases h:A0d hs hg o<;>simp [h]
theorem A1z (X:List Out) (hs hg:Int) (k:Nat):(A0a X hs hg k).length≤k:=Iq (List.length_filter_le _ _) (by simp;omega)
theorem A2h (L:List Out):∀ c∈L.map Out.cells,c.length=7:=by
 intro c hc
 simp only [It] at hc
 obtain ⟨x,_,rfl⟩:=hc
 rfl
theorem A2a (L:List Out) (x:Out):((L++[x]).map Out.cells).flatten=(L.map Out.cells).flatten++x.cells:=by
 rw [Ir,Il];simp
def A1h (w:World) (Y:List Out) (code:Int) (e:Ending) (w':World):Prop:=∃ v,e=.returned (.tuple #[v,.int .i64 code])∧aM w.heap.size w' 7 v (Y.map Out.cells)∧Below w.heap.size w w'
def A1i (w wr:World) (B:Nat) (X:List Out) (hs hg:Int) (k:Nat) (l:Value):Prop:=k≤X.length∧Below w.heap.size w wr∧w.heap.size<B∧B≤wr.heap.size∧wr.heap[w.heap.size]?=some (.cells #[.int .i64 hs,.int .i64 hg] 70 (0,0))∧
 ∃ (a:Option Addr) (cap:Nat),l=.slice a (A0a X hs hg k).length cap∧wr.ownsRow B 79 7 (.slice a (A0a X hs hg k).length cap) (A0a X hs hg k).length ((A0a X hs hg k).map Out.cells).flatten
theorem A0r {w wr wx:World} {B:Nat} {X:List Out} {hs hg:Int} {k:Nat} {l:Value} {o:Out} (h:A1i w wr B X hs hg k l) (hx:Below wr.heap.size wr wx) (hk:k<X.length) (ho:o=X.getD k Out.zero) (hn:A0d hs hg o=false):A1i w wx B X hs hg (k+1) l:=by
 obtain ⟨h1,h2,h3,h4,h5,a,cap,rfl,h6⟩:=h
 have e:A0a X hs hg (k+1)=A0a X hs hg k:=by rw [A1b hk ho,hn];simp
 refine ⟨by omega,h2.trans (hx.mono h2.size),h3,Iq h4 hx.size,aj hx h5 (lt_of_block h5),a,cap,?_,?_⟩
 ·rw [e]
 ·rw [e];exact bA h6 hx
theorem A2b {w wr wx w1:World} {B:Nat} {X:List Out} {hs hg:Int} {k cap':Nat} {a a':Option Addr} {cap:Nat} {o:Out} (h2:Below w.heap.size w wr) (h3:w.heap.size<B) (h4:B≤wr.heap.size) (h5:wr.heap[w.heap.size]?=some (.cells #[.int .i64 hs,.int .i64 hg] 70 (0,0)))
  (h6:wr.ownsRow B 79 7 (.slice a (A0a X hs hg k).length cap) (A0a X hs hg k).length ((A0a X hs hg k).map Out.cells).flatten)
  (hx:Below wr.heap.size wr wx) (hgrow:wx.grownBy w1 (Value.slice a (A0a X hs hg k).length cap).ownBlock) (hown:w1.ownsRow B 79 7 (.slice a' ((A0a X hs hg k).length+1) cap') ((A0a X hs hg k).length+1) (((A0a X hs hg k).map Out.cells).flatten++o.cells))
  (hk:k<X.length) (ho:o=X.getD k Out.zero) (hn:A0d hs hg o=true):A1i w w1 B X hs hg (k+1) (.slice a' ((A0a X hs hg k).length+1) cap'):=by
 have e:A0a X hs hg (k+1)=A0a X hs hg k++[o]:=by rw [A1b hk ho,hn];simp
 have hB:=cM hx h4 h6 hgrow
 refine ⟨by omega,h2.trans (hB.mono (by omega)),h3,Iq h4 hB.size,aj hB h5 h3,a',cap',?_,?_⟩
 ·rw [e];simp
 ·rw [e,A2a];simpa using hown
theorem A1d (b0 o0 c0:Nat) (X:List Out) (hs hg:Int) (w:World) (hb0:b0<w.heap.size) (r:aI w 7 (.slice (some ⟨b0,o0,none⟩) X.length c0) (X.map Out.cells)) (hn:X.length*56≤140737488351232) (hf:∀ x∈X,A0b x) (h1:∀ i j,i<X.length→j<7→w.cell? ⟨b0,o0+i*7+j,none⟩=(X.getD i Out.zero).cells[j]?) :
  Calls Tryz.prog 14 #[.slice (some ⟨b0,o0,none⟩) X.length c0,.agg #[.int .i64 hs,.int .i64 hg]] w (A1h w (A0a X hs hg X.length) 0):=by
 obtain ⟨i0,hi,hi0,hi1,hi2⟩:=info_parts A1y
 have R:=Hu r
 have H:=Hu hf
 have H1:=Hu h1
 have hn2:X.length≤9223372036854775807:=by omega
 clear r hf h1
 go_enter Tryz.func14,Tryz.ntmps14
 go_wp2_with fail
 refine (A1p _ X _ (ai R.out _) hn H.out).mono ?_
 rintro e w1 ⟨rfl,hb1⟩
 obtain ⟨hc1,hf1⟩:=aV hb1
 have hy1:=hb1.size
 simp at hy1
 rw [A2f]
 obtain ⟨B,hBB⟩:∃ B,B=w1.heap.size+1:=⟨_,rfl⟩
 have hB1:w.heap.size<B:=by omega
 have hB2:B≤w1.heap.size+1:=by omega
 clear hBB
 have b1:=Hu (((Hv w.heap.size w).alloc (I3 _) (.cells #[.int .i64 hs,.int .i64 hg] 70)).trans (hb1.mono (by simp)))
 have g1:=Hu (aj hb1 (az (w:=w) (.cells #[.int .i64 hs,.int .i64 hg] 70) rfl) (by simp))
 go_wp2_with fail
 go_loopw [8,21] (fun l i wr=>∃ k:Nat,i=.int .i64 k∧A1i w wr B X hs hg k l) (fun _ i _=>X.length - (intOf i).toNat)
 case atStart=>exact ⟨0,rfl,I4 _,b1.out.alloc (by omega) _,by omega,by simp;omega,by rw [Hz _ _ _ (by omega)];exact g1.out,none,0,rfl,Iv _ _ _ _⟩
 case round=>
  obtain ⟨k,rfl,hrel⟩:=hrel
  have HR:=Hu hrel
  obtain ⟨hk,hb,hB,hBr,hh,a,cap,rfl,hown⟩:=hrel
  have e0:=ae hh 0
  have e1:=ae hh 1
  simp at e0 e1
  have hL:=A1z X hs hg k
  have lw:w.heap.size<wr.heap.size:=by omega
  have HB:=Hu hb
  have HH:=Hu hh
  have HO:=Hu hown
  rcases (show k<X.length∨X.length=k by omega) with hlt|heq
  ·have hlt':(k:Int)<(X.length:Int):=by omega
   have p0:(0:Int)≤(k:Int):=by omega
   obtain ⟨s,hs'⟩:∃ s,s=X.getD k Out.zero:=⟨_,rfl⟩
   have hfo:A0b s:=H.out s (by rw [hs'];simp only [List.getD,Ib hlt,Iu];exact If _)
   have hold:∀ j,j<7→wr.cell? ⟨b0,o0+k*7+j,none⟩=s.cells[j]?:=fun j hj=>by
    rw [hb.cell (p:=⟨b0,o0+k*7+j,none⟩) hb0,hs'];exact H1.out k j hlt hj
   have a0:=hold 0 (by omega)
   have a1:=hold 1 (by omega)
   have a2:=hold 2 (by omega)
   have a3:=hold 3 (by omega)
   have a4:=hold 4 (by omega)
   have a5:=hold 5 (by omega)
   have a6:=hold 6 (by omega)
   have HS:=Hu hs'
   clear hold hb hs' hh hown
   obtain ⟨kd,sl,gn,bk,rq,cd,wy⟩:=s
   obtain ⟨f1,f2,f3,f4⟩:=hfo
   simp only [Out.cells,I5,I6,Nat.add_zero] at a0 a1 a2 a3 a4 a5 a6 f1 f2 f3 f4
   have lb:b0<wr.heap.size:=bR a0
   have KB:=Hu ((Hv wr.heap.size wr).alloc (I3 _) (.cells #[.int .i64 kd,.int .i64 sl,.int .i64 gn,.int .i64 bk,.int .i64 rq,.int .i64 cd,.int .i64 wy] 79))
   by_cases hfl:A0u kd=true
   ·rcases (show (sl=hs∧gn=hg)∨sl≠hs∨(sl=hs∧gn≠hg) by omega) with ⟨rfl,rfl⟩|h|⟨rfl,h⟩
    ·have HN:Hid (A0d sl gn ⟨kd,sl,gn,bk,rq,cd,wy⟩=true):=by simp [Hid,A0d,hfl]
     have hk6:kd=1∨kd=3∨kd=4∨kd=5∨kd=6∨kd=7:=by simp [A0u] at hfl;omega
     clear hfl
     rcases hk6 with rfl|rfl|rfl|rfl|rfl|rfl
     all_goals
      go_wp2_with (at_builtin;go_loud (refine wpList_append_own _ rfl _ _ 36 rfl B 79 i0 (.agg #[.int .i64 0,.int .i64 0,.int .i64 0,.int .i64 0,.int .i64 0,.int .i64 0,.int .i64 0]) 7 56 Tryz.underlying36 hi hi0 hi1 hi2 rfl (by decide) _ (A0a X sl gn k).length _ rfl ((bA HO.out KB.out).alloc _) ⟨wr.heap.size+1,0,none⟩ 1 1 (Out.cells ⟨_,sl,gn,bk,rq,cd,wy⟩) rfl rfl (fG (by simp) (Out.cells ⟨_,sl,gn,bk,rq,cd,wy⟩) 79) ?c1 ?c2 ?c3 ?c4 ?_))
      case c1=>intro u hu;simp [Out.cells] at hu;rcases hu with rfl|rfl|rfl|rfl|rfl|rfl|rfl<;>rfl
      case c2=>unfold maxLen;omega
      case c3=>omega
      case c4=>simp;omega
      intro v' w1 hown' hgrow _
      obtain ⟨a',cap',rfl,_,_⟩:=aC hown'
      have S:=Hu (A2b HB.out hB hBr HH.out HO.out (KB.out.alloc (by simp) _) hgrow hown' hlt HS.out HN.out)
      clear hgrow hown'
      go_wp2
      go_roundw
      case rel=>exact ⟨k+1,by go_num,S.out⟩
      case measure=>simp [intOf];omega
    ·have e2:(sl == hs)=false:=by simpa using h
     have HN:Hid (A0d hs hg ⟨kd,sl,gn,bk,rq,cd,wy⟩=false):=by simp [Hid,A0d,h]
     clear h hfl
     rcases (show kd=1∨kd=2∨kd=3∨kd=4∨kd=5∨kd=6∨kd=7∨kd=8∨kd=9∨kd=10 by omega) with rfl|rfl|rfl|rfl|rfl|rfl|rfl|rfl|rfl|rfl
     all_goals
      go_wp2
      go_roundw
      case rel=>exact ⟨k+1,by go_num,A0r HR.out KB.out hlt HS.out HN.out⟩
      case measure=>simp [intOf];omega
    ·have e2:(gn == hg)=false:=by simpa using h
     have HN:Hid (A0d sl hg ⟨kd,sl,gn,bk,rq,cd,wy⟩=false):=by simp [Hid,A0d,h]
     clear h hfl
     rcases (show kd=1∨kd=2∨kd=3∨kd=4∨kd=5∨kd=6∨kd=7∨kd=8∨kd=9∨kd=10 by omega) with rfl|rfl|rfl|rfl|rfl|rfl|rfl|rfl|rfl|rfl
     all_goals
      go_wp2
      go_roundw
      case rel=>exact ⟨k+1,by go_num,A0r HR.out KB.out hlt HS.out HN.out⟩
      case measure=>simp [intOf];omega
   ·have HN:Hid (A0d hs hg ⟨kd,sl,gn,bk,rq,cd,wy⟩=false):=by simp [Hid,A0d,hfl]
    have hk6:kd=2∨kd=8∨kd=9∨kd=10:=by simp [A0u] at hfl;omega
    clear hfl
    rcases hk6 with rfl|rfl|rfl|rfl
    all_goals
      go_wp2
      go_roundw
      case rel=>exact ⟨k+1,by go_num,A0r HR.out KB.out hlt HS.out HN.out⟩
      case measure=>simp [intOf];omega
  ·have hge:¬ (k:Int)<(X.length:Int):=by omega
   clear hb hh hown
   go_wp2
   refine Ix (v:=.tuple #[.slice a (A0a X hs hg k).length cap,.int .i64 0]) ?_ rfl ?_
   ·simp [results,Tryz.results14,go_sem, *]
   ·exact ⟨_,rfl,aG (aD HO.out (by simp) (A2h _)) (by omega),HB.out⟩
theorem A1q (v:Value) (X:List Out) (hs hg:Int) (w:World) (r:aI w 7 v (X.map Out.cells)) (hn:X.length*56≤140737488351232) (h:∀ x∈X,A0b x) (hX:X≠[]):Calls Tryz.prog 14 #[v,.agg #[.int .i64 hs,.int .i64 hg]] w (A1h w (A0a X hs hg X.length) 0):=by
 have r':=r
 obtain ⟨a,c,rfl,l,m,n,p⟩:=aK Out.zero r
 obtain ⟨b,o,rfl,hb,q⟩:=p hX
 exact A1d b o c X hs hg w hb r' hn h q
theorem A2q (O:List Out) (s g:Int):A0a O s g O.length=A0h s g O:=by
 unfold A0a A0h
 rw [Ie (I3 _)]
 refine List.filter_congr fun o _=>?_
 have e:A0u o.kind=flK o.kind:=by
  unfold A0u flK
  by_cases h:o.kind=1∨(3≤o.kind∧o.kind≤7)
  ·rw [decide_eq_true h]
   rcases (show o.kind=1∨o.kind=3∨o.kind=4∨o.kind=5∨o.kind=6∨o.kind=7 by omega) with g1|g1|g1|g1|g1|g1<;>rw [g1]<;>rfl
  ·rw [decide_eq_false h]
   symm
   simp
   omega
 unfold A0d
 rw [e]
 by_cases h1:o.slot=s<;>by_cases h2:o.gen=g<;>simp [h1,h2]
theorem walk_TopBackends (v0 v1:Value) (W:World) (o0:Is_Setup W v0) (o1:Is_sl_Deed W v1) :Calls Tryz.prog 5 #[v0,v1] W fun e w'=>e=.returned (.bool true)∧Below W.heap.size W w':=by
 obtain ⟨s,rfl,hs⟩:=o0
 obtain ⟨L,hr,hd,_⟩:=o1
 obtain ⟨av,cv,rfl,_⟩:=aq hr
 have hcf:=Gt s
 have hat:=xS hcf L (most:=60) (by omega)
 have hpl:∀ w',Below W.heap.size W w'→Calls Tryz.prog 8 #[.agg (Su.cells s).toArray,.slice av L.length cv,.int .i64 ((60:Nat):Int)] w' (GN w' (Gu s) L 60):=fun w' hb=>H8 s hs L hd _ (au hr hb) 60 (by omega)
 obtain ⟨c,hc⟩:∃ c,c=Gu s:=⟨_,rfl⟩
 rw [← hc] at hpl hcf hat
 obtain ⟨SA,hSA⟩:∃ SA,SA=(Su.cells s).toArray:=⟨_,rfl⟩
 rw [← hSA] at hpl ⊢
 have HSI:=Hu (show (Tryz.prog.info? 24).map (·.size)=some SA.size by rw [hSA];show _=some 16;kernel_rfl)
 have HPl:=Hu hpl
 have HF:=Hu hcf
 have HAt:=Hu hat
 have HK:=Hu (show (W.alloc (.cells SA 24 (0,0))).heap[W.heap.size]?=some (.cells SA 24 (0,0)) from az _ rfl)
 have HB0:=Hu (show Below W.heap.size W (W.alloc (.cells SA 24 (0,0))) from (Hv _ _).alloc (I3 _) _)
 clear hs hd hr hcf hc hSA hat hpl
 go_enter Tryz.func5,Tryz.ntmps5
 go_wp2_with (first|(refine Iy rfl 24 (.tmp 2) rfl W.heap.size rfl 24 SA (0,0) _ HK.out Tryz.underlying24 rfl HSI.out ?_)|(go_at_call 8;refine (HPl.out _ HB0.out).mono ?_;rintro e w1 ⟨p,VL,MS,vs,vg,rfl,hpg,hb1⟩;have hw1:=HB0.out.trans (hb1.mono HB0.out.size);have HW1:=Hu hw1;have HPg:=Hu hpg;clear hb1 hpg hw1))
 have hsl0:(iI (dy c) L 60).steps.length≤64:=by have h1:=HAt.out.len;simp at h1;omega
 have HCt:=Hu (A1k HPg.out HAt.out.ok (by omega))
 have HBp:=Hu (A2j HF.out L (most:=60) (by omega))
 have HFi:=Hu (A2l HAt.out.ok)
 have hol:=A1c HAt.out.ok _ (I3 _)
 refine HCt.out.mono ?_
 rintro e w2 ⟨v,rfl,hrow,hb2⟩
 have HPh:=Hu (HPg.out.below hb2)
 have HW2:=Hu (HW1.out.trans (hb2.mono HW1.out.size))
 have HRow:=Hu (show aI w2 7 v ((A0j (iI (dy c) L 60)).map Out.cells) from hrow.1)
 have HOl:=Hu (show (A0j (iI (dy c) L 60)).length≤13440 by change (A0j (iI (dy c) L 60)).length≤_ at hol;omega)
 obtain ⟨P,hP⟩:∃ P,P=iI (dy c) L 60:=⟨_,rfl⟩
 rw [← hP] at HRow HOl HPh HBp HFi HAt
 obtain ⟨O,hO⟩:∃ O,O=A0j P:=⟨_,rfl⟩
 unfold BkP at HBp
 rw [← hO] at HRow HOl HBp HFi
 obtain ⟨av7,c7,ev7,_⟩:=aq HRow.out
 subst ev7
 have og:=HPh.out.og
 obtain ⟨ag,cg,eg,_⟩:=aC og
 have x43:w2.cell? ⟨p,43,none⟩=some (.slice ag P.given.length cg):=by rw [← eg,ae HPh.out.bk 43];rfl
 have hgr:=(aD (L:=P.given.map Hd.cells) og (by simp) (by intro c hc;obtain ⟨x,_,rfl⟩:=It.1 hc;rfl)).1
 rw [eg] at hgr
 have HGr:=Hu hgr
 have HX43:=Hu x43
 have HLp:=Hu (lt_of_block HPh.out.bk)
 have hgl:P.given.length≤100:=by have h1:=HAt.out.gl;simp at h1;omega
 clear hP hO hsl0 hrow hb2 HCt hol og eg hgr x43
 go_wp2
 go_loopw [8] (fun i wr=>∃ k:Nat,k≤P.given.length∧i=.int .i64 k∧Below w2.heap.size w2 wr) (fun i _=>P.given.length - (intOf i).toNat)
 case atStart=>exact ⟨0,I4 _,rfl,by first|exact Hv _ _|exact aJ (Hv _ _)⟩
 case round=>
  obtain ⟨k,hk,rfl,hbk⟩:=hrel
  have HBk:=Hu hbk
  have x43:=ah hbk HX43.out HLp.out
  clear hbk
  rcases (show k<P.given.length∨k=P.given.length by omega) with hlt|rfl
  ·have hlt':(k:Int)<(P.given.length:Int):=by omega
   have k0:(0:Int)≤(k:Int):=by omega
   obtain ⟨_,_,e1,_,_,_,q1⟩:=aK (⟨0,0⟩:Hd) HGr.out
   injection e1 with e1 _ e3
   obtain ⟨bg,og,e4,hbg,q⟩:=q1 (by intro e;rw [e] at hlt;simp at hlt)
   rw [← e1] at e4
   subst e4
   have a0:=ah HBk.out (q k 0 hlt (by omega)) hbg
   have a1:=ah HBk.out (q k 1 hlt (by omega)) hbg
   have hgm:P.given.getD k ⟨0,0⟩∈P.given:=by rw [aN hlt];exact If _
   obtain ⟨x,hx⟩:∃ x,x=P.given.getD k ⟨0,0⟩:=⟨_,rfl⟩
   rw [← hx] at a0 a1 hgm
   obtain ⟨s,g⟩:=x
   simp only [Nat.add_zero] at a0 a1
   obtain ⟨a,hrun,_,hpos⟩:=HBp.out s g
   have hap:=hpos ⟨_,hgm,rfl,rfl⟩
   have hst:=A1q _ O s g wr (au HRow.out HBk.out) (by have:=HOl.out;omega) HFi.out (by intro e;rw [e] at hrun;simp [A0h,A0f] at hrun;omega)
   rw [A2q] at hst
   obtain ⟨Y,hY⟩:∃ Y,Y=A0h s g O:=⟨_,rfl⟩
   rw [← hY] at hst hrun
   have HSt:=Hu hst
   have HRun:=Hu hrun
   have hyl:Y.length≤13440:=by have h1:=HOl.out;have h2:Y.length≤O.length:=(by rw [hY];exact List.length_filter_le _ _);omega
   clear hx hgm hst hrun hpos hY q q1 e1 e3
   go_wp2_with fail
   refine HSt.out.mono ?_
   rintro e w3 ⟨vS,rfl,hrS,hbS⟩
   obtain ⟨aS,cS,rfl,_⟩:=aq hrS.1
   have HB3:=Hu (HBk.out.trans (hbS.mono HBk.out.size))
   have HRs:=Hu hrS.1
   clear hrS hbS x43 a0 a1
   go_wp2
   go_loopw [11,12] (fun t i wr=>∃ j:Nat,j≤Y.length∧i=.int .i64 j∧(∃ b:Int,t=.int .i64 b∧A0f b (Y.drop j)=some a)∧Below w3.heap.size w3 wr) (fun _ i _=>Y.length - (intOf i).toNat)
   case atStart=>exact ⟨0,I4 _,rfl,⟨-1,rfl,HRun.out⟩,by first|exact Hv _ _|exact aJ (Hv _ _)⟩
   case round=>
    obtain ⟨j,hj,rfl,⟨b,rfl,hrb⟩,hbj⟩:=hrel
    have HBj:=Hu hbj
    clear hbj
    rcases (show j<Y.length∨j=Y.length by omega) with hlj|rfl
    ·have hlj':(j:Int)<(Y.length:Int):=by omega
     have j0:(0:Int)≤(j:Int):=by omega
     obtain ⟨_,_,e1,_,_,_,q1⟩:=aK Out.zero HRs.out
     injection e1 with e1 _ e3
     obtain ⟨by_,oy,e4,hby,q⟩:=q1 (by intro e;rw [e] at hlj;simp at hlj)
     rw [← e1] at e4
     subst e4
     have a0:=ah HBj.out (q j 0 hlj (by omega)) hby
     have a3:=ah HBj.out (q j 3 hlj (by omega)) hby
     have hdr:Y.drop j=Y.getD j Out.zero :: Y.drop (j+1):=by rw [aN hlj,List.getElem_cons_drop]
     rw [hdr,A0w] at hrb
     obtain ⟨y,hy⟩:∃ y,y=Y.getD j Out.zero:=⟨_,rfl⟩
     rw [← hy] at a0 a3 hrb
     obtain ⟨y0,y1,y2,y3,y4,y5,y6⟩:=y
     simp only [Nat.add_zero] at a0 a3
     simp only at hrb
     clear hy q q1 e1 e3 hdr
     by_cases hk5:y0=1∨y0=5
     ·rw [if_pos hk5] at hrb
      rcases hk5 with rfl|rfl
      all_goals (
       go_wp2
       go_roundw
       case rel=>exact ⟨j+1,by omega,by go_num,⟨y3,rfl,hrb⟩,by first|exact HBj.out|exact HBj.out.drew⟩
       case measure=>simp [intOf];omega)
     ·rw [if_neg hk5] at hrb
      have d1:(y0 == 1)=false:=by simp;omega
      have d5:(y0 == 5)=false:=by simp;omega
      by_cases hyb:y3=b
      ·rw [if_pos hyb] at hrb
       subst hyb
       go_wp2
       go_roundw
       case rel=>exact ⟨j+1,by omega,by go_num,⟨y3,rfl,hrb⟩,by first|exact HBj.out|exact HBj.out.drew⟩
       case measure=>simp [intOf];omega
      ·rw [if_neg hyb] at hrb
       cases hrb
    ·have hgj:¬ (Y.length:Int)<(Y.length:Int):=by omega
     rw [List.drop_length] at hrb
     have hba:b=a:=by injection hrb
     subst hba
     have hn0:¬ b<0:=by omega
     have d0:decide (b<0)=false:=by simp;omega
     go_wp2
     go_roundw
     case rel=>exact ⟨k+1,by omega,by go_num,HB3.out.trans (HBj.out.mono HB3.out.size)⟩
     case measure=>simp [intOf];omega
  ·have hge:¬ (P.given.length:Int)<(P.given.length:Int):=by omega
   go_wp2
   go_ret
   exact ⟨rfl,HW2.out.trans (HBk.out.mono HW2.out.size)⟩
end Go.Proofs.YtfliffgmeobclaaGreat
