/- Texts of the row's proof. Conditions: none. -/
import Derived.Test.YtfliffgmeobclaaGreatK04
import Derived.Test.YtfliffgmeobclaaGreatK14
namespace Go.Proofs.YtfliffgmeobclaaGreat
set_option maxRecDepth 100000
set_option maxHeartbeats 8000000
section
open Go.RowKit
theorem Q55 {p:Prop} (h:p:=by
 cases hvb:v'.ownBlock with
 | none=>exact ⟨S,fun x hx=>hx,by simp,fun x hx=>Or.inl hx⟩
 | some b=>exact ⟨b :: S,fun x hx=>Ip _ hx,fun b' hb'=>by injection hb' with e;subst e;exact Im,fun x hx=>by
   rcases List.mem_cons.1 hx with rfl|hx
   ·exact Or.inr rfl
   ·exact Or.inl hx⟩):p:=h
theorem Q167 {p:Prop} (h:p:=by
 intro x hx;rcases hS3 x hx with g|g
 ·exact h.sB x g
 ·exact (hv x g).2.2.2):p:=h
theorem Eo {B p:Nat} {w:World} {X:Wd} {O:List Out} {S:List Nat} {V:Vs} {vo:Value} (h:G B p w X O S V vo) {X':Wd} {V':Vs} (ro:nQ (NI B S) w X' V') (j:Nat) (u:Value):nQ (NI B S) (w.setCell ⟨p,j,none⟩ u) X' V':=
 dG ro (by simp) (fun b _ hb=>I2 _ _ _ _ (fun e:b=p=>hb.1 (by rw [e];exact h.sp)))
theorem iQ {B p:Nat} {w:World} {X:Wd} {O:List Out} {S:List Nat} {V:Vs} {vo:Value} (h:G B p w X O S V vo) (j:Nat) (u:Value) (X':Wd) (V':Vs)
  (hc:(dj X V++[vo]).toArray.setIfInBounds j u=(dj X' V'++[vo]).toArray) (e1:X'.flows=X.flows) (e2:V'.f=V.f) (e3:X'.health=X.health) (e4:V'.h=V.h) (e5:V'.m=V.m) (ro:nQ (NI B S) w X' V') :
  G B p (w.setCell ⟨p,j,none⟩ u) X' O S V' vo:=by
 have keep:∀ b,b≠p→(w.setCell ⟨p,j,none⟩ u).heap[b]?=w.heap[b]?:=fun b hb=>I2 _ _ _ _ hb
 have er:eE X' V'=eE X V:=by unfold eE;rw [e3,e5]
 refine ⟨by rw [← hc];exact aP h.bk u,Eo h ro j u,?_,?_,aX h.oo (fun b e=>keep b (h.so b e).2.1),h.pB,h.sp,h.sB,fun x hx=>by simpa using h.sl x hx,by rw [e2];exact h.sf,by rw [e2,e4];exact h.sh,by rw [e2,e4];exact h.so⟩
 ·rw [e1,e2];exact aX h.of (fun b e=>keep b (h.sf b e).2)
 ·rw [e3,e4,er];exact aX h.oh (fun b e=>keep b (h.sh b e).2.1)
theorem cZ {S:List Nat} {w:World} {p:Nat} (hp:p∈S) (j:Nat) (u:Value):Fr S w (w.setCell ⟨p,j,none⟩ u):=
 ⟨rfl,rfl,rfl,by simp,fun b _ hb=>I2 _ _ _ _ (fun e:b=p=>hb (by rw [e];exact hp))⟩
theorem dm {B p:Nat} {w w1:World} {X:Wd} {O:List Out} {S:List Nat} {V:Vs} {vo:Value} (h:G B p w X O S V vo) {sz N:Nat} {v:Value} {L:List (List Value)} (r:aM N w1 sz v L) (hN:w.heap.size≤N):dd (NI B S) w1 sz v L:=
 bQ (eu r) (fun b _ hb=>⟨fun hs=>by have:=h.sl b hs;omega,by have:=h.pB;have:=h.plt;omega⟩)
theorem Fr.wide {S S':List Nat} {a b:World} (h:Fr S a b) (hs:∀ x∈S,x∈S'):Fr S' a b:=⟨h.os,h.tape,h.output,h.size,fun k hk hn=>h.block k hk (fun hm=>hn (hs k hm))⟩
def GTo (B p:Nat) (w:World) (S:List Nat) (X:Wd) (O:List Out) (Q:Vs→Prop) (r:Value) (e:Ending) (w':World):Prop:=
 ∃ S' V' vo',e=.returned r∧G B p w' X O S' V' vo'∧Q V'∧Fr S w w'∧∀ x∈S',x∈S∨w.heap.size≤x
theorem Dx:(Tryz.prog.info? 79).map (fun i=>(i.zero,i.size,i.bytes))=some (some (.agg #[.int .i64 0,.int .i64 0,.int .i64 0,.int .i64 0,.int .i64 0,.int .i64 0,.int .i64 0]),7,56):=by kernel_rfl
theorem Fv (t:Out):∀ u∈Out.cells t,u.oneCell'=true:=by intro u hu;simp [Out.cells] at hu;rcases hu with rfl|rfl|rfl|rfl|rfl|rfl|rfl<;>rfl
theorem G_out {B p:Nat} {w w2:World} {X:Wd} {O:List Out} {S:List Nat} {V:Vs} {vo v':Value} (h:G B p w X O S V vo) (o:Out) (hw:w2.ownsRow B 79 7 v' (O.length+1) ((O.map Out.cells).flatten++Out.cells o))
  (hg:w.grownBy w2 vo.ownBlock) (hn:∀ b,v'.ownBlock=some b→vo.ownBlock=some b∨w.heap.size≤b) :
  ∃ S',G B p (w2.setCell ⟨p,26,none⟩ v') X (O++[o]) S' V v'∧Fr S w (w2.setCell ⟨p,26,none⟩ v')∧∀ x∈S',x∈S∨w.heap.size≤x:=by
 have kw:∀ b,b<w.heap.size→vo.ownBlock≠some b→w2.heap[b]?=w.heap[b]?:=fun b h1 h2=>hg.block b h1 (fun e=>h2 e.symm)
 have keep:∀ b,b≠p→(w2.setCell ⟨p,26,none⟩ v').heap[b]?=w2.heap[b]?:=fun b hb=>I2 _ _ _ _ hb
 have hp:vo.ownBlock≠some p:=fun e=>(h.so p e).2.1 rfl
 have both:∀ b,b<w.heap.size→vo.ownBlock≠some b→b≠p→(w2.setCell ⟨p,26,none⟩ v').heap[b]?=w.heap[b]?:=fun b h1 h2 h3=>(keep b h3).trans (kw b h1 h2)
 have hbk:w2.heap[p]?=some (.cells (dj X V++[vo]).toArray 113 (0,0)):=(kw p h.plt hp).trans h.bk
 have hv:∀ b,v'.ownBlock=some b→b≠p∧V.f.ownBlock≠some b∧V.h.ownBlock≠some b∧B≤b:=by
  intro b hb;have hlt:=(hw.lt b hb).1;rcases hn b hb with e|e
  ·have:=h.so b e;exact ⟨this.2.1,this.2.2.1,this.2.2.2,hlt⟩
  ·exact ⟨by have:=h.plt;omega,fun g=>by have:=(h.of.lt b g).2;omega,fun g=>by have:=(h.oh.lt b g).2;omega,hlt⟩
 obtain ⟨S',hS1,hS2,hS3⟩:∃ S':List Nat,(∀ x∈S,x∈S')∧(∀ b,v'.ownBlock=some b→b∈S')∧∀ x∈S',x∈S∨(v'.ownBlock=some x):=by
  exact Q55
 have hso:∀ b,vo.ownBlock=some b→b∈S:=fun b hb=>(h.so b hb).1
 refine ⟨S',⟨aP hbk v',?_,?_,?_,?_,h.pB,hS1 _ h.sp,?_,?_,fun b hb=>⟨hS1 _ (h.sf b hb).1,(h.sf b hb).2⟩,fun b hb=>⟨hS1 _ (h.sh b hb).1,(h.sh b hb).2⟩,fun b hb=>⟨hS2 b hb,(hv b hb).1,(hv b hb).2.1,(hv b hb).2.2.1⟩⟩,⟨hg.os,hg.tape,hg.output,by simpa using hg.size,?_⟩,?_⟩
 ·have hS:∀ b,b<w.heap.size→b∉S→b∉S':=fun b h1 h2 h3=>by
   rcases hS3 b h3 with g|g
   ·exact h2 g
   ·rcases hn b g with e|e
    ·exact h2 (hso b e)
    ·omega
  exact dG (gT h.ro (K':=NI B S') (fun b h1 h2=>⟨hS b h1 h2.1,h2.2⟩)) (by simpa using hg.size) (fun b h1 h2=>both b h1 (fun e=>h2.1 (hS1 b (hso b e))) (fun e=>h2.1 (by rw [e];exact hS1 p h.sp)))
 ·exact aX h.of (fun b e=>both b (h.of.lt b e).2 (fun g=>(h.so b g).2.2.1 e) (h.sf b e).2)
 ·exact aX h.oh (fun b e=>both b (h.oh.lt b e).2 (fun g=>(h.so b g).2.2.2 e) (h.sh b e).2.1)
 ·rw [Ic,Ir,Il];simpa using aX hw (fun b e=>keep b (hv b e).1)
 ·exact Q167
 ·intro x hx;rcases hS3 x hx with g|g
  ·have h1:=h.sl x g;have h2:=hg.size;simp;omega
  ·have h1:=(hw.lt x g).2;simp;omega
 ·intro b h1 h2;exact both b h1 (fun e=>h2 (hso b e)) (fun e=>h2 (by rw [e];exact h.sp))
 ·intro x hx;rcases hS3 x hx with g|g
  ·exact Or.inl g
  ·rcases hn x g with e|e
   ·exact Or.inl (hso x e)
   ·exact Or.inr e
theorem uy {B p:Nat} {w w2:World} {X:Wd} {O:List Out} {S:List Nat} {V:Vs} {vo v':Value} (h:G B p w X O S V vo) (F':List Fl) (hb:Below B w w2) (hblk:∀ b,b<w.heap.size→V.f.ownBlock≠some b→w2.heap[b]?=w.heap[b]?)
  (hw:w2.ownsRow B 98 7 v' F'.length (F'.map Fl.cells).flatten) (hn:∀ b,v'.ownBlock=some b→V.f.ownBlock=some b∨w.heap.size≤b) :
  ∃ S',G B p (w2.setCell ⟨p,18,none⟩ v') { X with flows:=F' } O S' { V with f:=v' } vo∧Fr S w (w2.setCell ⟨p,18,none⟩ v')∧(∀ x∈S',x∈S∨w.heap.size≤x)∧∀ x∈S,x∈S':=by
 have keep:∀ b,b≠p→(w2.setCell ⟨p,18,none⟩ v').heap[b]?=w2.heap[b]?:=fun b hb=>I2 _ _ _ _ hb
 have hp:V.f.ownBlock≠some p:=fun e=>(h.sf p e).2 rfl
 have both:∀ b,b<w.heap.size→V.f.ownBlock≠some b→b≠p→(w2.setCell ⟨p,18,none⟩ v').heap[b]?=w.heap[b]?:=fun b h1 h2 h3=>(keep b h3).trans (hblk b h1 h2)
 have hbk:w2.heap[p]?=some (.cells (dj X V++[vo]).toArray 113 (0,0)):=(hblk p h.plt hp).trans h.bk
 have hv:∀ b,v'.ownBlock=some b→b≠p∧V.h.ownBlock≠some b∧vo.ownBlock≠some b∧B≤b:=by
  intro b hb;have hlt:=(hw.lt b hb).1;rcases hn b hb with e|e
  ·exact ⟨(h.sf b e).2,fun g=>(h.sh b g).2.2 e,fun g=>(h.so b g).2.2.1 e,hlt⟩
  ·exact ⟨by have:=h.plt;omega,fun g=>by have:=(h.oh.lt b g).2;omega,fun g=>by have:=(h.oo.lt b g).2;omega,hlt⟩
 obtain ⟨S',hS1,hS2,hS3⟩:∃ S':List Nat,(∀ x∈S,x∈S')∧(∀ b,v'.ownBlock=some b→b∈S')∧∀ x∈S',x∈S∨(v'.ownBlock=some x):=by
  exact Q55
 have hsf:∀ b,V.f.ownBlock=some b→b∈S:=fun b hb=>(h.sf b hb).1
 have hsz:w.heap.size≤(w2.setCell ⟨p,18,none⟩ v').heap.size:=by simpa using hb.size
 refine ⟨S',⟨aP hbk v',?_,?_,?_,?_,h.pB,hS1 _ h.sp,?_,?_,fun b hb=>⟨hS2 b hb,(hv b hb).1⟩,fun b hb=>⟨hS1 _ (h.sh b hb).1,(h.sh b hb).2.1,fun e=>(hv b e).2.1 hb⟩,fun b hb=>⟨hS1 _ (h.so b hb).1,(h.so b hb).2.1,fun e=>(hv b e).2.2.1 hb,(h.so b hb).2.2.2⟩⟩,⟨hb.os,hb.tape,hb.output,hsz,?_⟩,?_,hS1⟩
 ·have hS:∀ b,b<w.heap.size→b∉S→b∉S':=fun b h1 h2 h3=>by
   rcases hS3 b h3 with g|g
   ·exact h2 g
   ·rcases hn b g with e|e
    ·exact h2 (hsf b e)
    ·omega
  have r:=dG (gT h.ro (K':=NI B S') (fun b h1 h2=>⟨hS b h1 h2.1,h2.2⟩)) hsz (fun b h1 h2=>both b h1 (fun e=>h2.1 (hS1 b (hsf b e))) (fun e=>h2.1 (by rw [e];exact hS1 p h.sp)));exact ⟨r.ta,r.li,r.re,r.sp,r.wh,r.ml,r.mr⟩
 ·exact aX hw (fun b e=>keep b (hv b e).1)
 ·exact aX h.oh (fun b e=>both b (h.oh.lt b e).2 (fun g=>(h.sh b e).2.2 g) (h.sh b e).2.1)
 ·exact aX h.oo (fun b e=>both b (h.oo.lt b e).2 (fun g=>(h.so b e).2.2.1 g) (h.so b e).2.1)
 ·exact Q167
 ·intro x hx;rcases hS3 x hx with g|g
  ·have h1:=h.sl x g;omega
  ·have h1:=(hw.lt x g).2;simp;omega
 ·intro b h1 h2;exact both b h1 (fun e=>h2 (hsf b e)) (fun e=>h2 (by rw [e];exact h.sp))
 ·intro x hx;rcases hS3 x hx with g|g
  ·exact Or.inl g
  ·rcases hn x g with e|e
   ·exact Or.inl (hsf x e)
   ·exact Or.inr e
theorem mW {B p:Nat} {w:World} {X:Wd} {O:List Out} {S:List Nat} {V:Vs} {vo:Value} (h:G B p w X O S V vo) {g n c:Nat} (hv:V.f=.slice (some ⟨g,0,none⟩) n c) (k:Nat) (u:Value) (F':List Fl) (hl:F'.length=X.flows.length)
  (hF:(F'.map Fl.cells).flatten=(X.flows.map Fl.cells).flatten.set k u):G B p (w.setCell ⟨g,k,none⟩ u) { X with flows:=F' } O S V vo∧Fr S w (w.setCell ⟨g,k,none⟩ u):=by
 have hg:V.f.ownBlock=some g:=by rw [hv];rfl
 have keep:∀ b,b≠g→(w.setCell ⟨g,k,none⟩ u).heap[b]?=w.heap[b]?:=fun b hb=>I2 _ _ _ _ hb
 have hgp:=(h.sf g hg).2
 have hgS:=(h.sf g hg).1
 have hof:=h.of
 rw [hv] at hof
 refine ⟨⟨(keep p (fun e=>hgp e.symm)).trans h.bk,?_,?_,aX h.oh (fun b e=>keep b (fun e'=>(h.sh b e).2.2 (by rw [e'];exact hg))),aX h.oo (fun b e=>keep b (fun e'=>(h.so b e).2.2.1 (by rw [e'];exact hg))),h.pB,h.sp,h.sB,fun x hx=>by simpa using h.sl x hx,h.sf,h.sh,h.so⟩,⟨rfl,rfl,rfl,by simp,fun b _ hb=>keep b (fun e=>hb (by rw [e];exact hgS))⟩⟩
 ·have r:=dG h.ro (w':=w.setCell ⟨g,k,none⟩ u) (by simp) (fun b _ hb=>keep b (fun e=>hb.1 (by rw [e];exact hgS)));exact ⟨r.ta,r.li,r.re,r.sp,r.wh,r.ml,r.mr⟩
 ·show World.ownsRow _ _ _ _ V.f F'.length (F'.map Fl.cells).flatten
  rw [hF,hl,hv]
  have hn:n=X.flows.length:=by
   obtain ⟨a',c',e',_⟩:=aC hof;injection e'
  rw [hn] at hof ⊢;exact (hof.stored k u).1
theorem Ez {B p:Nat} {w w':World} {X:Wd} {O:List Out} {S:List Nat} {V:Vs} {vo:Value} (h:G B p w X O S V vo) (hb:Below w.heap.size w w') (b:Nat) (h1:w.heap.size≤b) (h2:b<w'.heap.size):G B p w' X O (b :: S) V vo:=by
 have g:=dB h hb;have hp:=h.plt;have hB:=h.pB;refine ⟨g.bk,dG (gT h.ro (fun x hx hS=>⟨fun hm=>?_,hS.2⟩)) hb.size (fun x hx _=>hb.block x hx),g.of,g.oh,g.oo,g.pB,Ip _ g.sp,fun x hx=>?_,fun x hx=>?_,fun x hx=>⟨Ip _ (g.sf x hx).1,(g.sf x hx).2⟩,fun x hx=>⟨Ip _ (g.sh x hx).1,(g.sh x hx).2⟩,fun x hx=>⟨Ip _ (g.so x hx).1,(g.so x hx).2⟩⟩
 ·rcases List.mem_cons.1 hm with rfl|hm
  ·omega
  ·exact hS.1 hm
 ·rcases List.mem_cons.1 hx with rfl|hx
  ·omega
  ·exact g.sB x hx
 ·rcases List.mem_cons.1 hx with rfl|hx
  ·exact h2
  ·exact g.sl x hx
theorem r8 {B p:Nat} {w:World} {X:Wd} {O:List Out} {S:List Nat} {V:Vs} {vo:Value} (h:G B p w X O S V vo) (b j:Nat) (u:Value) (hb:b∈S) (hp:b≠p) (hf:V.f.ownBlock≠some b) (hh:V.h.ownBlock≠some b) (ho:vo.ownBlock≠some b) :
  G B p (w.setCell ⟨b,j,none⟩ u) X O S V vo∧Fr S w (w.setCell ⟨b,j,none⟩ u):=by
 have keep:∀ x,x≠b→(w.setCell ⟨b,j,none⟩ u).heap[x]?=w.heap[x]?:=fun x hx=>I2 _ _ _ _ hx
 exact ⟨⟨(keep p (fun e=>hp e.symm)).trans h.bk,dG h.ro (by simp) (fun x _ hx=>keep x (fun e=>hx.1 (by rw [e];exact hb))),aX h.of (fun x e=>keep x (fun e'=>hf (by rw [← e'];exact e))),aX h.oh (fun x e=>keep x (fun e'=>hh (by rw [← e'];exact e))),aX h.oo (fun x e=>keep x (fun e'=>ho (by rw [← e'];exact e))),h.pB,h.sp,h.sB,fun x hx=>by simpa using h.sl x hx,h.sf,h.sh,h.so⟩,
  ⟨rfl,rfl,rfl,by simp,fun x _ hx=>keep x (fun e=>hx (by rw [e];exact hb))⟩⟩
theorem G.x26 {B p:Nat} {w:World} {X:Wd} {O:List Out} {S:List Nat} {V:Vs} {vo:Value} (h:G B p w X O S V vo):w.cell? ⟨p,26,none⟩=some vo:=by rw [ae h.bk 26];rfl
theorem dn {B p:Nat} {w:World} {X:Wd} {O:List Out} {S:List Nat} {V:Vs} {vo:Value} (h:G B p w X O S V vo) (o:Out) (hO:O.length≤1000000) :
  Calls Tryz.prog 59 #[.pointer (some ⟨p,0,none⟩),.agg (Out.cells o).toArray] w (GTo B p w S X (O++[o]) (fun V'=>V'=V) (.tuple #[])):=by
 obtain ⟨i0,hi,hi0,hi1,hi2⟩:=info_parts Dx
 obtain ⟨ao,co,rfl,_⟩:=aC h.oo
 have x26:=h.x26
 have xf:w.frozen? ⟨p,26,none⟩=false:=ap h.bk 26
 have hp:=h.plt
 have hso:∀ b,(Value.slice ao O.length co).ownBlock=some b→b≠p:=fun b e=>(h.so b e).2.1
 have HSo:=Hu hso
 have H:=Hu h
 have HLt:=Hu (fun b hb=>(h.oo.lt b hb).2)
 have hB:B≤w.heap.size:=by have:=h.pB;omega
 clear h hso
 obtain ⟨o0,o1,o2,o3,o4,o5,o6⟩:=o
 unfold Out.cells
 go_enter Tryz.func59,Tryz.ntmps59
 go_wp2_with fail
 obtain ⟨wb,hwb⟩:∃ wb,wb=w.alloc (.cells #[.int .i64 o0,.int .i64 o1,.int .i64 o2,.int .i64 o3,.int .i64 o4,.int .i64 o5,.int .i64 o6] 79):=⟨_,rfl⟩
 have b0:wb.cell? ⟨w.heap.size,0,none⟩=some (.int .i64 o0):=by rw [hwb];go_simp
 have b1:wb.cell? ⟨w.heap.size,1,none⟩=some (.int .i64 o1):=by rw [hwb];go_simp
 have b2:wb.cell? ⟨w.heap.size,2,none⟩=some (.int .i64 o2):=by rw [hwb];go_simp
 have b3:wb.cell? ⟨w.heap.size,3,none⟩=some (.int .i64 o3):=by rw [hwb];go_simp
 have b4:wb.cell? ⟨w.heap.size,4,none⟩=some (.int .i64 o4):=by rw [hwb];go_simp
 have b5:wb.cell? ⟨w.heap.size,5,none⟩=some (.int .i64 o5):=by rw [hwb];go_simp
 have b6:wb.cell? ⟨w.heap.size,6,none⟩=some (.int .i64 o6):=by rw [hwb];go_simp
 have hbb:Below w.heap.size w wb:=by rw [hwb];exact (Hv _ _).alloc (I3 _) _
 have hzb:wb.heap.size=w.heap.size+1:=by rw [hwb];simp
 have x26:=ah hbb x26 hp
 have xf:wb.frozen? ⟨p,26,none⟩=false:=(hbb.frozen (p:=⟨p,26,none⟩) hp).trans xf
 have HG:=Hu (dB H.out hbb)
 have HBb:=Hu hbb
 rw [← hwb]
 clear hwb hbb H
 have bp:p<wb.heap.size:=by omega
 (refine Zr (fun w':World=>w'.cell? ⟨w.heap.size,0,none⟩=some (.int .i64 o0)∧w'.cell? ⟨w.heap.size,1,none⟩=some (.int .i64 o1)∧w'.cell? ⟨w.heap.size,2,none⟩=some (.int .i64 o2)∧w'.cell? ⟨w.heap.size,3,none⟩=some (.int .i64 o3)∧w'.cell? ⟨w.heap.size,4,none⟩=some (.int .i64 o4)∧w'.cell? ⟨w.heap.size,5,none⟩=some (.int .i64 o5)∧w'.cell? ⟨w.heap.size,6,none⟩=some (.int .i64 o6)) (fun hHeld=>?_);refine eP 0 ?_;refine Zt 5 ?_;refine Z2 4 6 (fun K hK=>?_) (fun K hK=>?_);(focus (go_simp;refine Zk hK fun hHeld=>?_;clear hK K;refine Z1 6 (fun K hK=>?_);go_simp;refine Zk hK fun hHeld=>?_;clear hK K));rotate_left 1;(focus (go_simp;refine Zk hK fun hHeld=>?_;clear hK K;refine Z1 4 (fun K hK=>?_);go_simp;refine Zk hK fun hHeld=>?_;clear hK K));rotate_left 1;(all_goals (refine Z1 7 (fun K hK=>?_);rw [if_pos (by rfl)];(refine eZ _ _ _ 36 rfl B 79 i0 (.agg #[.int .i64 0,.int .i64 0,.int .i64 0,.int .i64 0,.int .i64 0,.int .i64 0,.int .i64 0]) 7 56 Tryz.underlying36 hi hi0 hi1 hi2 rfl (by decide) _ _ _ rfl (bA HG.out.oo (Hx ((Hv wb.heap.size wb).alloc (I3 _) _))) ⟨w.heap.size+1,0,none⟩ 1 1 (Out.cells ⟨o0,o1,o2,o3,o4,o5,o6⟩) rfl rfl (fun j u h=>fG (w:=wb) hzb.symm _ 79 j u h) (Fv _) (by unfold maxLen;omega) (by omega) (by simp;omega) ?_;intro v6 w6 hown6 hgr6 hnew6;have hk6:∀ b,b<wb.heap.size→(Value.slice ao O.length co).ownBlock≠some b→w6.heap[b]?=wb.heap[b]?:=(fun b hb hne=>(hgr6.block b (by simp;omega) (fun e=>hne e.symm)).trans ((Hx ((Hv wb.heap.size wb).alloc (I3 _) _)).block b hb));have hbx:w6.heap[w.heap.size]?=wb.heap[w.heap.size]?:=(hk6 w.heap.size (by omega) (fun e=>by have:=HLt.out _ e;omega));have hpx:w6.heap[p]?=wb.heap[p]?:=(hk6 p (by omega) (fun e=>HSo.out p e rfl));have b0:=(I8 (w:=wb) (w':=w6) (a:=⟨w.heap.size,0,none⟩) hbx).trans b0;have b1:=(I8 (w:=wb) (w':=w6) (a:=⟨w.heap.size,1,none⟩) hbx).trans b1;have b2:=(I8 (w:=wb) (w':=w6) (a:=⟨w.heap.size,2,none⟩) hbx).trans b2;have b3:=(I8 (w:=wb) (w':=w6) (a:=⟨w.heap.size,3,none⟩) hbx).trans b3;have b4:=(I8 (w:=wb) (w':=w6) (a:=⟨w.heap.size,4,none⟩) hbx).trans b4;have b5:=(I8 (w:=wb) (w':=w6) (a:=⟨w.heap.size,5,none⟩) hbx).trans b5;have b6:=(I8 (w:=wb) (w':=w6) (a:=⟨w.heap.size,6,none⟩) hbx).trans b6;have x26:=(I8 (w:=wb) (w':=w6) (a:=⟨p,26,none⟩) hpx).trans x26;have xf:=(World.frozen?_of_block (w:=wb) (w':=w6) (a:=⟨p,26,none⟩) hpx).trans xf;obtain ⟨a6,c6,rfl,_⟩:=aC hown6;have HO6:=Hu hown6;have HGr:=Hu hgr6;have HNw:=Hu hnew6;have ns:¬ w.heap.size=p:=(by omega);clear hown6 hgr6 hnew6 hk6 hbx hpx);refine Zk hK fun hHeld=>?_;clear hK K;refine df 8 ?_;refine Z1 10 (fun K hK=>?_);go_simp;refine Zk hK fun hHeld=>?_;clear hK K));(all_goals refine Zd ?_))
 all_goals
  have bW:Below wb.heap.size wb (wb.alloc (.cells #[.int .i64 o0,.int .i64 o1,.int .i64 o2,.int .i64 o3,.int .i64 o4,.int .i64 o5,.int .i64 o6] 79)).drew:=Hx ((Hv wb.heap.size wb).alloc (I3 _) _)
  obtain ⟨S',hG,hF,hS⟩:=G_out (dB HG.out bW) ⟨o0,o1,o2,o3,o4,o5,o6⟩ (by simpa using HO6.out) HGr.out HNw.out
  have HG':=Hu hG
  have hF':Fr S w _:=Fr.trans (Fr.of_below (HBb.out.trans (bW.mono (by omega)))) hF (fun x hx=>Or.inl hx)
  have HF':=Hu hF'
  have HS':=Hu hS
  clear hG hF hS hF' bW
  go_wp2_with fail
  refine Ix (v:=.tuple #[]) (by simp [results,Tryz.results59,go_sem]) rfl ⟨S',V,_,rfl,HG'.out,rfl,HF'.out,fun x hx=>?_⟩
  rcases HS'.out x hx with g|g
  ·exact Or.inl g
  ·exact Or.inr (by simp at g;omega)
end
end Go.Proofs.YtfliffgmeobclaaGreat
