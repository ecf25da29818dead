/- Texts of the row's proof. Conditions: none. -/
import Derived.Test.YtfliffgmeobclaaGreatK08
import Derived.Test.YtfliffgmeobclaaGreatK13
namespace Go.Proofs.YtfliffgmeobclaaGreat
set_option maxRecDepth 100000
set_option maxHeartbeats 8000000
section
open Go.RowKit
theorem Q46 {p:Prop} (h:p:=by
 clear hb1 K;go_wp2
 all_goals first|(go_ret;exact ⟨rfl,B1.out⟩)|exact Zx):p:=h
theorem Q74 {p:Prop} (h:p:=by
 clear hx hiq;go_enter Tryz.func92,Tryz.ntmps92;go_wp2_with fail;refine (K.out _ Zb).mono ?_;rintro e w1 ⟨rfl,hb1⟩;have B1:=Hu (show Below w.heap.size w w1 from ((Hv _ _).alloc (I3 _) _).trans (hb1.mono (by simp)));exact Q46):p:=h
theorem Q133 {p:Prop} (h:p:=by
 rcases Nat.lt_or_ge i 26 with g|g
 ·exact g
 ·rw [Ik (by rw [iT];exact g)] at hv
  cases hv):p:=h
structure Ht where
 marks:List Bool
 out:Bool
 until_:Int
 times:Int
 deriving DecidableEq
def Ht.zero:Ht:=⟨[],false,0,0⟩
structure Wd where
 cf:Cf
 now:Int
 tab:List Sl
 flows:List Fl
 lives:List Lf
 reqs:List Rq
 ring:List Sp
 health:List Ht
 tok:Int
 wnow:Int
 lists:List (List Tm)
structure Vs where
 t:Value
 f:Value
 l:Value
 r:Value
 s:Value
 h:Value
 w:Value
 m:List Value
def dj (X:Wd) (V:Vs):List Value:=X.cf.cells++[.int .i64 X.now,V.t,V.f,V.l,V.r,V.s,V.h,.int .i64 X.tok,.int .i64 X.wnow,V.w]
def sC (m:Value) (h:Ht):List Value:=[m,.bool h.out,.int .i64 h.until_,.int .i64 h.times]
theorem iT (X:Wd) (V:Vs):(dj X V).length=26:=rfl
def dd (K:Nat→Prop) (w:World) (sz:Nat) (v:Value) (L:List (List Value)):Prop:=aI w sz v L∧∀ b o n c,v=.slice (some ⟨b,o,none⟩) n c→L≠[]→K b
theorem bG {K:Nat→Prop} {w w':World} {sz:Nat} {v:Value} {L:List (List Value)} (h:dd K w sz v L) (hs:w.heap.size≤w'.heap.size) (hb:∀ b,b<w.heap.size→K b→w'.heap[b]?=w.heap[b]?):dd K w' sz v L:=by
 obtain ⟨⟨a,cap,rfl,h1,h2,h3,h4⟩,h5⟩:=h;refine ⟨⟨a,cap,rfl,h1,h2,h3,fun hne=>?_⟩,h5⟩;obtain ⟨b,off,rfl,h6,h7⟩:=h4 hne;refine ⟨b,off,rfl,by omega,fun i j hi hj=>?_⟩;rw [← h7 i j hi hj];exact I8 (a:=⟨b,_,none⟩) (hb b h6 (h5 _ _ _ _ rfl hne))
theorem bQ {K K':Nat→Prop} {w:World} {sz:Nat} {v:Value} {L:List (List Value)} (h:dd K w sz v L) (hk:∀ b,b<w.heap.size→K b→K' b):dd K' w sz v L:=by
 refine ⟨h.1,fun b o n c e hne=>?_⟩;obtain ⟨a,cap,e2,_,_,_,h4⟩:=h.1;obtain ⟨b',off,e3,h6,_⟩:=h4 hne;rw [e2] at e;injection e with e _ _;rw [e3] at e;injection e with e;injection e with e;subst e;exact hk _ h6 (h.2 _ _ _ _ (by rw [e2,e3]) hne)
theorem eu {B:Nat} {w:World} {sz:Nat} {v:Value} {L:List (List Value)} (h:aM B w sz v L):dd (fun b=>B≤b) w sz v L:=⟨h.1,fun b o n c e _=>by have:=h.2 _ _ _ e;simpa using this⟩
def LsK (K:Nat→Prop) (w:World) (v:Value) (LL:List (List Tm)):Prop:=∃ V:List Value,V.length=LL.length∧dd K w 1 v (V.map fun x=>[x])∧∀ i,i<LL.length→dd K w 2 (V.getD i undef) ((LL.getD i []).map Tm.cells)
theorem LsK.at_ {K:Nat→Prop} {w:World} {v:Value} {LL:List (List Tm)} (h:LsK K w v LL):kY w v LL:=by
 obtain ⟨V,h1,h2,h3⟩:=h;exact ⟨V,h1,h2.1,fun i hi=>(h3 i hi).1⟩
theorem gc {K:Nat→Prop} {w w':World} {v:Value} {LL:List (List Tm)} (h:LsK K w v LL) (hs:w.heap.size≤w'.heap.size) (hb:∀ b,b<w.heap.size→K b→w'.heap[b]?=w.heap[b]?):LsK K w' v LL:=by
 obtain ⟨V,h1,h2,h3⟩:=h;exact ⟨V,h1,bG h2 hs hb,fun i hi=>bG (h3 i hi) hs hb⟩
theorem j7 {K K':Nat→Prop} {w:World} {v:Value} {LL:List (List Tm)} (h:LsK K w v LL) (hk:∀ b,b<w.heap.size→K b→K' b):LsK K' w v LL:=by
 obtain ⟨V,h1,h2,h3⟩:=h;exact ⟨V,h1,bQ h2 hk,fun i hi=>bQ (h3 i hi) hk⟩
theorem jH {B:Nat} {w:World} {v:Value} {LL:List (List Tm)} (h:LsNew B w v LL):LsK (fun b=>B≤b) w v LL:=by
 obtain ⟨V,h1,h2,h3⟩:=h;exact ⟨V,h1,eu h2,fun i hi=>eu (h3 i hi)⟩
structure nQ (K:Nat→Prop) (w:World) (X:Wd) (V:Vs):Prop where
 ta:dd K w 4 V.t (X.tab.map Sl.cells)
 li:dd K w 6 V.l (X.lives.map Lf.cells)
 re:dd K w 5 V.r (X.reqs.map Rq.cells)
 sp:dd K w 2 V.s (X.ring.map Sp.cells)
 wh:LsK K w V.w X.lists
 ml:V.m.length=X.health.length
 mr:∀ i,i<X.health.length→dd K w 1 (V.m.getD i undef) (cI (X.health.getD i Ht.zero).marks)
theorem dG {K:Nat→Prop} {w w':World} {X:Wd} {V:Vs} (h:nQ K w X V) (hs:w.heap.size≤w'.heap.size) (hb:∀ b,b<w.heap.size→K b→w'.heap[b]?=w.heap[b]?):nQ K w' X V:=
 ⟨bG h.ta hs hb,bG h.li hs hb,bG h.re hs hb,bG h.sp hs hb,gc h.wh hs hb,h.ml,fun i hi=>bG (h.mr i hi) hs hb⟩
theorem gT {K K':Nat→Prop} {w:World} {X:Wd} {V:Vs} (h:nQ K w X V) (hk:∀ b,b<w.heap.size→K b→K' b):nQ K' w X V:=
 ⟨bQ h.ta hk,bQ h.li hk,bQ h.re hk,bQ h.sp hk,j7 h.wh hk,h.ml,fun i hi=>bQ (h.mr i hi) hk⟩
def eE (X:Wd) (V:Vs):List (List Value):=List.zipWith sC V.m X.health
def GR (p:Nat) (w:World) (X:Wd) (V:Vs):Prop:=nQ (fun _=>True) w X V∧aI w 7 V.f (X.flows.map Fl.cells)∧aI w 4 V.h (eE X V)∧p<w.heap.size∧∀ i v,(dj X V)[i]?=some v→w.cell? ⟨p,i,none⟩=some v
structure Fr (S:List Nat) (w w':World):Prop where
 os:w'.os=w.os
 tape:w'.tape=w.tape
 output:w'.output=w.output
 size:w.heap.size≤w'.heap.size
 block:∀ b,b<w.heap.size→b∉S→w'.heap[b]?=w.heap[b]?
theorem Fr.refl (S:List Nat) (w:World):Fr S w w:=⟨rfl,rfl,rfl,I3 _,fun _ _ _=>rfl⟩
theorem Fr.of_below {S:List Nat} {w w':World} (h:Below w.heap.size w w'):Fr S w w':=⟨h.os,h.tape,h.output,h.size,fun b hb _=>h.block b hb⟩
theorem Fr.trans {S S':List Nat} {a b c:World} (h:Fr S a b) (h2:Fr S' b c) (hs:∀ x∈S',x∈S∨a.heap.size≤x):Fr S a c:=
 ⟨h2.os.trans h.os,h2.tape.trans h.tape,h2.output.trans h.output,Iq h.size h2.size,fun x hx hn=>(h2.block x (Nat.lt_of_lt_of_le hx h.size) (fun hm=>by rcases hs x hm with g|g;exact hn g;omega)).trans (h.block x hx hn)⟩
theorem Fr.below {S:List Nat} {B:Nat} {w w':World} (h:Fr S w w') (hB:B≤w.heap.size) (hs:∀ x∈S,B≤x):Below B w w':=
 ⟨h.os,h.tape,h.output,h.size,fun k hk=>h.block k (by omega) (fun hm=>by have:=hs k hm;omega)⟩
def NI (B:Nat) (S:List Nat) (b:Nat):Prop:=b∉S∧B≤b
structure G (B p:Nat) (w:World) (X:Wd) (O:List Out) (S:List Nat) (V:Vs) (vo:Value):Prop where
 bk:w.heap[p]?=some (.cells (dj X V++[vo]).toArray 113 (0,0))
 ro:nQ (NI B S) w X V
 of:w.ownsRow B 98 7 V.f X.flows.length (X.flows.map Fl.cells).flatten
 oh:w.ownsRow B 129 4 V.h X.health.length (eE X V).flatten
 oo:w.ownsRow B 79 7 vo O.length (O.map Out.cells).flatten
 pB:B≤p
 sp:p∈S
 sB:∀ x∈S,B≤x
 sl:∀ x∈S,x<w.heap.size
 sf:∀ b,V.f.ownBlock=some b→b∈S∧b≠p
 sh:∀ b,V.h.ownBlock=some b→b∈S∧b≠p∧V.f.ownBlock≠some b
 so:∀ b,vo.ownBlock=some b→b∈S∧b≠p∧V.f.ownBlock≠some b∧V.h.ownBlock≠some b
theorem G.plt {B p:Nat} {w:World} {X:Wd} {O:List Out} {S:List Nat} {V:Vs} {vo:Value} (h:G B p w X O S V vo):p<w.heap.size:=lt_of_block h.bk
theorem G_keep {B p:Nat} {w w':World} {X:Wd} {O:List Out} {S:List Nat} {V:Vs} {vo:Value} (h:G B p w X O S V vo) (hs:w.heap.size≤w'.heap.size) (hb:∀ b,b<w.heap.size→w'.heap[b]?=w.heap[b]?):G B p w' X O S V vo:=
 ⟨(hb p h.plt).trans h.bk,dG h.ro hs (fun b hb' _=>hb b hb'),aX h.of (fun b e=>hb b (h.of.lt b e).2),aX h.oh (fun b e=>hb b (h.oh.lt b e).2),aX h.oo (fun b e=>hb b (h.oo.lt b e).2),h.pB,h.sp,h.sB,fun x hx=>Nat.lt_of_lt_of_le (h.sl x hx) hs,h.sf,h.sh,h.so⟩
theorem dB {B p:Nat} {w w':World} {X:Wd} {O:List Out} {S:List Nat} {V:Vs} {vo:Value} (h:G B p w X O S V vo) (hb:Below w.heap.size w w'):G B p w' X O S V vo:=G_keep h hb.size hb.block
theorem mx (X:Wd) (V:Vs):∀ c∈eE X V,c.length=4:=by
 intro c hc;unfold eE at hc;obtain ⟨i,hi,rfl⟩:=List.mem_iff_getElem.1 hc;simp [sC]
theorem dF {X:Wd} {V:Vs} (h:V.m.length=X.health.length):(eE X V).length=X.health.length:=by unfold eE;rw [List.length_zipWith,h,Nat.min_self]
theorem iL (X:List Fl):∀ c∈X.map Fl.cells,c.length=7:=by intro c hc;obtain ⟨x,_,rfl⟩:=It.1 hc;rfl
theorem G.gr {B p:Nat} {w:World} {X:Wd} {O:List Out} {S:List Nat} {V:Vs} {vo:Value} (h:G B p w X O S V vo):GR p w X V:=by
 refine ⟨gT h.ro (fun _ _ _=>trivial),(aD h.of (by simp) (iL _)).1,(aD h.oh (dF h.ro.ml) (mx X V)).1,h.plt,fun i v hv=>?_⟩
 have hi:i<26:=by
  exact Q133
 rw [ae h.bk i,I7,IB (by rw [iT];exact hi),hv]
theorem fM {p:Nat} {w w':World} {X:Wd} {V:Vs} (h:GR p w X V) (hb:Below w.heap.size w w'):GR p w' X V:=by
 obtain ⟨h1,h2,h3,h4,h5⟩:=h;exact ⟨dG h1 hb.size (fun b hb' _=>hb.block b hb'),au h2 hb,au h3 hb,by have:=hb.size;omega,fun i v hv=>ah hb (h5 i v hv) h4⟩
def OfEnd (w:World) (L:List Hd) (code:Int) (e:Ending) (w':World):Prop:=∃ v,e=.returned (.tuple #[v,.int .i64 code])∧aI w' 2 v (L.map Hd.cells)∧Below w.heap.size w w'
theorem om (X:List Sl) (b:Int) (v:Value) (w:World) (r:aI w 4 v (X.map Sl.cells)) (h:dN X):Calls Tryz.prog 75 #[.agg #[v],.int .i64 b] w (OfEnd w (iX X b X.length) 0):=by
 have r':=r;obtain ⟨a,c,rfl,l,m,n,p⟩:=aK Sl.zero r;obtain ⟨b0,o,rfl,hb,q⟩:=p (by intro hX;rw [hX] at h;exact absurd h.1 (by simp));refine (qc b0 o c X b w hb h r' q).mono ?_;rintro e w1 ⟨v1,rfl,R1,hb1⟩;exact ⟨v1,rfl,R1.1,hb1⟩
theorem pd {Q:World→Prop} (w:World) (h:∀ w',w'=w→Q w'):Q w:=h w rfl
def pD (t x:Tm):Bool:=decide (t=x)
theorem Dz (v:Value) (L:List Tm) (t0 t1:Int) (w:World) (r:aI w 2 v (L.map Tm.cells)):Calls Tryz.prog 133 #[v,.agg #[.int .i64 t0,.int .i64 t1]] w fun e w'=>e=.returned (.int .i64 (aQ (pD ⟨t0,t1⟩) L))∧Below w.heap.size w w':=by
 obtain ⟨a,c,rfl,_,m1,_,p1⟩:=aK Tm.zero r;unfold maxLen at m1;have P1:=Hu p1;clear r p1;go_enter Tryz.func133,Tryz.ntmps133;go_wp2;refine pd _ ?_;intro wb hwb
 have c0:wb.cell? ⟨w.heap.size,0,none⟩=some (.int .i64 t0):=by rw [hwb];exact ae (az _ rfl) 0
 have c1:wb.cell? ⟨w.heap.size,1,none⟩=some (.int .i64 t1):=by rw [hwb];exact ae (az _ rfl) 1
 have HB:=Hu (show Below w.heap.size w wb by rw [hwb];exact (Hv _ _).alloc (I3 _) _)
 have hz:w.heap.size<wb.heap.size:=by rw [hwb];simp
 clear hwb;go_loopw [8] (fun i wr=>∃ k:Nat,k≤L.length∧i=.int .i64 k∧(∃ q,wr=wb.drewN q)∧∀ x∈L.take k,pD ⟨t0,t1⟩ x=false) (fun i _=>L.length - (intOf i).toNat)
 case atStart=>exact ⟨0,I4 _,rfl,⟨0,rfl⟩,by simp⟩
 case round=>
  obtain ⟨k,hk,rfl,⟨q,rfl⟩,hall⟩:=hrel;have HA:=Hu hall;clear hall;have c0:=dh q c0;have c1:=dh q c1;rcases (show k<L.length∨L.length=k by omega) with hlt|heq
  ·have hlt':(k:Int)<(L.length:Int):=by omega
   have p0:(0:Int)≤(k:Int):=by omega
   obtain ⟨b1,o1,rfl,hb1,q1⟩:=P1.out (by intro h;rw [h] at hlt;simp at hlt);have a0:=q1 k 0 hlt (by omega);have a1:=q1 k 1 hlt (by omega);obtain ⟨s,hs⟩:∃ s,s=L.getD k Tm.zero:=⟨_,rfl⟩;rw [← hs] at a0 a1;have HS:=Hu hs;obtain ⟨s0,s1⟩:=s;simp only [Tm.cells,I5,I6,Nat.add_zero] at a0 a1;have a0':wb.cell? ⟨b1,o1+k*2,none⟩=some (.int .i64 s0):=(HB.out.cell (p:=⟨b1,o1+k*2,none⟩) hb1).trans a0;have a1':wb.cell? ⟨b1,o1+k*2+1,none⟩=some (.int .i64 s1):=(HB.out.cell (p:=⟨b1,o1+k*2+1,none⟩) hb1).trans a1;clear a0 a1;clear hs q1;by_cases he:t0=s0∧t1=s1
   ·obtain ⟨rfl,rfl⟩:=he;go_wp2_with fail;go_quiet (fail);go_wp2;go_ret;exact ⟨rI (kP (p:=pD ⟨t0,t1⟩) hlt HS.out (by simp [pD]) HA.out).symm,(by repeat (first|exact HB.out|refine aJ ?_))⟩
   ·have hb':pD ⟨t0,t1⟩ ⟨s0,s1⟩=false:=by simpa [pD] using he
    have HA2:=Hu (mC (p:=pD ⟨t0,t1⟩) hlt HS.out hb' HA.out);have hc:(t0≠s0)∨(t0=s0∧t1≠s1):=by omega
    clear he hb';rcases hc with he|⟨rfl,he⟩
    all_goals
     go_wp2_with fail
     go_quiet (fail)
     go_wp2
     go_roundw
     case rel=>exact ⟨k+1,by omega,by go_num,⟨_,rfl⟩,HA2.out⟩
     case measure=>simp [intOf];omega
  ·have hge:¬ (k:Int)<(L.length:Int):=by omega
   have HE:=Hu (jD heq HA.out);clear heq HA;go_wp2
   all_goals first|(go_ret;exact ⟨rI HE.out.symm,(by repeat (first|exact HB.out|refine aJ ?_))⟩)|exact Zx
theorem wO (v:Value) (L:List Tm) (t:Tm) (w:World) (r:aI w 2 v (L.map Tm.cells)) (q:Bool) (hq:q=decide (t∈L)):Calls Tryz.prog 92 #[v,.agg #[.int .i64 t.at_,.int .i64 t.id]] w fun e w'=>e=.returned (.bool q)∧Below w.heap.size w w':=by
 have hw:∀ w',Below w.heap.size w w'→aI w' 2 v (L.map Tm.cells):=fun w' hb=>au r hb;have K:=Hu (fun w' hb=>Dz v L t.at_ t.id w' (hw w' hb));obtain ⟨a,c,rfl,_⟩:=aq r;clear hw r;obtain ⟨i,hi⟩:∃ i,i=aQ (pD ⟨t.at_,t.id⟩) L:=⟨_,rfl⟩
 have hiq:q=decide (0≤i):=by
  rw [hq,hi];rcases bJ (pD ⟨t.at_,t.id⟩) L Tm.zero with ⟨e,hn⟩|⟨j,hj,e,hp,_⟩
  ·rw [e]
   have:t∉L:=fun h=>by have:=hn t h;simp [pD] at this
   simp [this]
  ·rw [e]
   have:t∈L:=by
    have e2:t=L.getD j Tm.zero:=by simpa [pD] using hp
    rw [e2];simp only [List.getD,Ib hj,Iu];exact If hj
   simp [this]
 rw [← hi] at K;clear hi hq
 cases hx:q with
 | true=>
  have hi0:0≤i:=by rw [hx] at hiq;simpa using hiq.symm
  exact Q74
 | false=>
  have hi0:decide (0≤i)=false:=by rw [hx] at hiq;exact hiq.symm
  exact Q74
theorem Df (N:Nat) (cp:Addr) (hN:∀ args w,(callFunc N args).run Tryz.prog w=.ok (.enter N args) w) (p:Nat→Bool) (b0 o0 c0:Nat) (X:List Value) (w:World) (hb0:b0<w.heap.size) (hn:X.length≤4611686018427387903) (h1:∀ i j,i<X.length→j<1→w.cell? ⟨b0,o0+i*1+j,none⟩=[X.getD i undef][j]?)
  (hf:∀ i,i<X.length→∀ w',Below w.heap.size w w'→Calls Tryz.prog N #[X.getD i undef,.pointer (some cp)] w' fun e w''=>e=.returned (.bool (p i))∧Below w'.heap.size w' w'') :
  Calls Tryz.prog 132 #[.slice (some ⟨b0,o0,none⟩) X.length c0,.func (.func N) #[] #[.pointer (some cp)]] w fun e w'=>e=.returned (.int .i64 (aQ p (List.range X.length)))∧Below w.heap.size w w':=by
 have H1:=Hu h1
 have HF:=Hu hf
 have hn2:X.length≤9223372036854775807:=by omega
 clear h1 hf
 go_enter Tryz.func132,Tryz.ntmps132
 go_wp2
 go_loopw [8] (fun i wr=>∃ k:Nat,k≤X.length∧i=.int .i64 k∧Below w.heap.size w wr∧∀ x∈(List.range X.length).take k,p x=false) (fun i _=>X.length - (intOf i).toNat)
 case atStart=>exact ⟨0,I4 _,rfl,Hv _ _,fun x hx=>by simp at hx⟩
 case round=>
  obtain ⟨k,hk,rfl,hbel,hall⟩:=hrel;have HA:=Hu hall;clear hall;rcases (show k<X.length∨X.length=k by omega) with hlt|heq
  ·have hlt':(k:Int)<(X.length:Int):=by omega
   obtain ⟨o,ho⟩:∃ o,o=X.getD k undef:=⟨_,rfl⟩;have hlr:k<(List.range X.length).length:=by simpa using hlt
   have HO:=Hu (show k=(List.range X.length).getD k 0 by simp [List.getD,hlt]);have HC:=Hu (HF.out k hlt _ hbel);rw [← ho] at HC
   have a0:wr.cell? ⟨b0,o0+k,none⟩=some o:=by
    have:=H1.out k 0 hlt (by omega);rw [hbel.cell (p:=⟨b0,o0+k,none⟩) hb0,ho];simpa using this
   clear ho;have HB:=Hu hbel;clear hbel;go_wp2_with fail;refine (HC.out).mono ?_;rintro e w1 ⟨rfl,hb1⟩;have B1:=Hu (HB.out.trans (hb1.mono HB.out.size));clear hb1 HB HC;by_cases hp:p k=true
   ·have HP:=Hu hp;simp only [hp];clear hp;go_wp2;go_ret;exact ⟨rI (kP (p:=p) hlr HO.out HP.out HA.out).symm,B1.out⟩
   ·have hp':p k=false:=by simpa using hp
    have HA2:=Hu (mC (p:=p) hlr HO.out hp' HA.out);simp only [hp'];clear hp hp' HA;exact Q28
  ·have hge:¬ (k:Int)<(X.length:Int):=by omega
   have HE:=Hu (jD (X:=List.range X.length) (by simpa using heq) HA.out);exact Q134
theorem Dg (N:Nat) (cp:Addr) (a:Option Addr) (c:Nat) (w:World):Calls Tryz.prog 132 #[.slice a 0 c,.func (.func N) #[] #[.pointer (some cp)]] w fun e w'=>e=.returned (.int .i64 (-1))∧Below w.heap.size w w':=by
 go_enter Tryz.func132,Tryz.ntmps132;exact Q25
theorem Dh (N:Nat) (cp:Addr) (hN:∀ args w,(callFunc N args).run Tryz.prog w=.ok (.enter N args) w) (p:Nat→Bool) (v:Value) (X:List Value) (w:World) (r:aI w 1 v (X.map fun x=>[x])) (hn:X.length≤4611686018427387903)
  (hf:∀ i,i<X.length→∀ w',Below w.heap.size w w'→Calls Tryz.prog N #[X.getD i undef,.pointer (some cp)] w' fun e w''=>e=.returned (.bool (p i))∧Below w'.heap.size w' w'') :
  Calls Tryz.prog 132 #[v,.func (.func N) #[] #[.pointer (some cp)]] w fun e w'=>e=.returned (.int .i64 (aQ p (List.range X.length)))∧Below w.heap.size w w':=by
 obtain ⟨a,c,rfl,l,m,n,q⟩:=aK undef r
 by_cases hX:X=[]
 ·subst hX;exact Dg N cp a c w
 ·obtain ⟨b,o,rfl,hb,q⟩:=q hX;exact Df N cp hN p b o c X w hb hn q hf
theorem DX (N:Nat) (cp:Addr) (hN:∀ args w,(callFunc N args).run Tryz.prog w=.ok (.enter N args) w) (p:Nat→Bool) (v:Value) (X:List Value) (w:World) (r:aI w 1 v (X.map fun x=>[x])) (hn:X.length≤4611686018427387903)
  (hf:∀ i,i<X.length→∀ w',Below w.heap.size w w'→Calls Tryz.prog N #[X.getD i undef,.pointer (some cp)] w' fun e w''=>e=.returned (.bool (p i))∧Below w'.heap.size w' w'') (ht:(List.range X.length).any p=true) :
  Calls Tryz.prog 90 #[v,.func (.func N) #[] #[.pointer (some cp)]] w fun e w'=>e=.returned (.bool true)∧Below w.heap.size w w':=by
 have K:=Hu (Dh N cp hN p v X w r hn hf)
 have HI:=ir p (List.range X.length)
 obtain ⟨a,c,rfl,_⟩:=aq r
 clear r hf
 obtain ⟨i,hi⟩:∃ i,i=aQ p (List.range X.length):=⟨_,rfl⟩
 rw [← hi] at K HI
 clear hi
 have hi0:0≤i:=HI.1.1 ht
 clear HI ht
 go_enter Tryz.func90,Tryz.ntmps90
 go_wp2_with fail
 refine K.out.mono ?_
 rintro e w1 ⟨rfl,hb1⟩
 have B1:=Hu hb1
 clear hb1 K
 go_wp2
 all_goals first|(go_ret;exact ⟨rfl,B1.out⟩)|exact Zx
theorem flows1 (v:Value) (L:List Tm) (t:Tm) (b:Nat) (w:World) (r:aI w 2 v (L.map Tm.cells)) (h0:w.cell? ⟨b,0,none⟩=some (.int .i64 t.at_)) (h1:w.cell? ⟨b,1,none⟩=some (.int .i64 t.id)):Calls Tryz.prog 91 #[v,.pointer (some ⟨b,0,none⟩)] w fun e w'=>e=.returned (.bool (decide (t∈L)))∧Below w.heap.size w w':=by
 have K:=Hu (wO v L t w r _ rfl);obtain ⟨a,c,rfl,_⟩:=aq r;clear r;have lb:=bR h0;go_enter Tryz.func91,Tryz.ntmps91;exact Q38
end
end Go.Proofs.YtfliffgmeobclaaGreat
