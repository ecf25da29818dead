/- Texts of the row's proof. Conditions: none. -/
import Derived.Test.YtennppmadmgfoaaGreatDoorK03
import Derived.Test.YtennppmadmgfoaaGreatDoorK12
namespace Go.Proofs.YtennppmadmgfoaaGreatDoor
open Proofs.Tryz
set_option maxRecDepth 100000
set_option maxHeartbeats 8000000
section
open Go.RowKit
theorem Q52 {p:Prop} (h:p:=by
 cases hvb:v'.ownBlock with
 | none=>exact ⟨S,fun x hx=>hx,by simp,fun x hx=>Or.inl hx⟩
 | some b=>exact ⟨b :: S,fun x hx=>Ly _ hx,fun b' hb'=>by injection hb' with e;subst e;exact Lw,fun x hx=>by
   rcases List.mem_cons.1 hx with rfl|hx
   ·exact Or.inr rfl
   ·exact Or.inl hx⟩):p:=h
theorem Q154 {p:Prop} (h:p:=by
 intro x hx;rcases hS3 x hx with g|g
 ·exact h.sB x g
 ·exact (hv x g).2.2.2):p:=h
theorem Hp {B p:Nat} {w:World} {X:Wd} {O:List Out} {S:List Nat} {V:Vs} {vo:Value} (I:G B p w X O S V vo) {h:Wd} {V':Vs} (K:oV (NI B S) w h V') (j:Nat) (u:Value):oV (NI B S) (w.setCell ⟨p,j,none⟩ u) h V':=
 dK K (by simp) (fun z _ J=>KV _ _ _ _ (fun E:z=p=>J.1 (by rw [E];exact I.sp)))
theorem iY {B p:Nat} {w:World} {X:Wd} {O:List Out} {S:List Nat} {V:Vs} {vo:Value} (h:G B p w X O S V vo) (j:Nat) (u:Value) (I:Wd) (E:Vs)
  (hc:(dz X V++[vo]).toArray.setIfInBounds j u=(dz I E++[vo]).toArray) (Y:I.flows=X.flows) (K:E.f=V.f) (W:I.health=X.health) (U:E.h=V.h) (Z:E.m=V.m) (ro:oV (NI B S) w I E) :
  G B p (w.setCell ⟨p,j,none⟩ u) I O S E vo:=by
 have keep:∀ z,z≠p->(w.setCell ⟨p,j,none⟩ u).heap[z]?=w.heap[z]?:=fun z hb=>KV _ _ _ _ hb
 have er:eO I E=eO X V:=by unfold eO;rw [W,Z]
 refine ⟨by rw [<- hc];exact aR h.bk u,Hp h ro j u,?_,?_,aZ h.oo (fun z J=>keep z (h.so z J).2.1),h.pB,h.sp,h.sB,fun x hx=>by simpa using h.sl x hx,by rw [K];exact h.sf,by rw [K,U];exact h.sh,by rw [K,U];exact h.so⟩
 ·rw [Y,K];exact aZ h.of (fun z J=>keep z (h.sf z J).2)
 ·rw [W,U,er];exact aZ h.oh (fun z J=>keep z (h.sh z J).2.1)
theorem di {S:List Nat} {w:World} {p:Nat} (I:p∈S) (j:Nat) (u:Value):Fr S w (w.setCell ⟨p,j,none⟩ u):=
 ⟨rfl,rfl,rfl,by simp,fun h _ E=>KV _ _ _ _ (fun z:h=p=>E (by rw [z];exact I))⟩
theorem dv {B p:Nat} {w z:World} {X:Wd} {O:List Out} {S:List Nat} {V:Vs} {vo:Value} (h:G B p w X O S V vo) {sz N:Nat} {v:Value} {L:List (List Value)} (r:aN N z sz v L) (J:w.heap.size<=N):dj (NI B S) z sz v L:=
 bU (eE r) (fun E _ K=>⟨fun I=>by have:=h.sl E I;omega,by have:=h.pB;have:=h.plt;omega⟩)
theorem Fr.wide {S z:List Nat} {a b:World} (h:Fr S a b) (K:∀ x∈S,x∈z):Fr z a b:=⟨h.os,h.tape,h.output,h.size,fun k E J=>h.block k E (fun I=>J (K k I))⟩
def GTo (B p:Nat) (w:World) (S:List Nat) (X:Wd) (O:List Out) (Q:Vs->Prop) (r:Value) (e:Ending) (w':World):Prop:=
 ∃ h z I,e=.returned r/\G B p w' X O h z I/\Q z/\Fr S w w'/\∀ E∈h,E∈S\/w.heap.size<=E
theorem Gd:(prog.info? 75).map (fun i=>(i.zero,i.size,i.bytes))=some (some (.agg #[.int .i64 0,.int .i64 0,.int .i64 0,.int .i64 0,.int .i64 0,.int .i64 0,.int .i64 0]),7,56):=by kernel_rfl
theorem z8 (t:Out):∀ u∈Out.cells t,u.oneCell'=true:=by intro u h;simp [Out.cells] at h;rcases h with rfl|rfl|rfl|rfl|rfl|rfl|rfl<;>rfl
theorem G_out {B p:Nat} {w J:World} {X:Wd} {O:List Out} {S:List Nat} {V:Vs} {vo v':Value} (h:G B p w X O S V vo) (o:Out) (hw:J.ownsRow B 75 7 v' (O.length+1) ((O.map Out.cells).flatten++Out.cells o))
  (K:w.grownBy J vo.ownBlock) (Z:∀ b,v'.ownBlock=some b->vo.ownBlock=some b\/w.heap.size<=b) :
  ∃ S',G B p (J.setCell ⟨p,26,none⟩ v') X (O++[o]) S' V v'/\Fr S w (J.setCell ⟨p,26,none⟩ v')/\∀ x∈S',x∈S\/w.heap.size<=x:=by
 have kw:∀ b,b<w.heap.size->vo.ownBlock≠some b->J.heap[b]?=w.heap[b]?:=fun b I E=>K.block b I (fun e=>E e.symm)
 have keep:∀ b,b≠p->(J.setCell ⟨p,26,none⟩ v').heap[b]?=J.heap[b]?:=fun b z=>KV _ _ _ _ z
 have hp:vo.ownBlock≠some p:=fun e=>(h.so p e).2.1 rfl
 have both:∀ b,b<w.heap.size->vo.ownBlock≠some b->b≠p->(J.setCell ⟨p,26,none⟩ v').heap[b]?=w.heap[b]?:=fun b I E Y=>(keep b Y).trans (kw b I E)
 have a2:J.heap[p]?=some (.cells (dz X V++[vo]).toArray 134 (0,0)):=(kw p h.plt hp).trans h.bk
 have hv:∀ b,v'.ownBlock=some b->b≠p/\V.f.ownBlock≠some b/\V.h.ownBlock≠some b/\B<=b:=by
  intro b z;have a0:=(hw.lt b z).1;rcases Z b z with e|e
  ·have:=h.so b e;exact ⟨this.2.1,this.2.2.1,this.2.2.2,a0⟩
  ·exact ⟨by have:=h.plt;omega,fun g=>by have:=(h.of.lt b g).2;omega,fun g=>by have:=(h.oh.lt b g).2;omega,a0⟩
 obtain ⟨S',U,a1,hS3⟩:∃ S':List Nat,(∀ x∈S,x∈S')/\(∀ b,v'.ownBlock=some b->b∈S')/\∀ x∈S',x∈S\/(v'.ownBlock=some x):=by
  exact Q52
 have W:∀ b,vo.ownBlock=some b->b∈S:=fun b z=>(h.so b z).1
 refine ⟨S',⟨aR a2 v',?_,?_,?_,?_,h.pB,U _ h.sp,?_,?_,fun b z=>⟨U _ (h.sf b z).1,(h.sf b z).2⟩,fun b z=>⟨U _ (h.sh b z).1,(h.sh b z).2⟩,fun b z=>⟨a1 b z,(hv b z).1,(hv b z).2.1,(hv b z).2.2.1⟩⟩,⟨K.os,K.tape,K.output,by simpa using K.size,?_⟩,?_⟩
 ·have hS:∀ b,b<w.heap.size->b∉S->b∉S':=fun b I E Y=>by
   rcases hS3 b Y with g|g
   ·exact E g
   ·rcases Z b g with e|e
    ·exact E (W b e)
    ·omega
  exact dK (gY h.ro (K':=NI B S') (fun b I E=>⟨hS b I E.1,E.2⟩)) (by simpa using K.size) (fun b I E=>both b I (fun e=>E.1 (U b (W b e))) (fun e=>E.1 (by rw [e];exact U p h.sp)))
 ·exact aZ h.of (fun b e=>both b (h.of.lt b e).2 (fun g=>(h.so b g).2.2.1 e) (h.sf b e).2)
 ·exact aZ h.oh (fun b e=>both b (h.oh.lt b e).2 (fun g=>(h.so b g).2.2.2 e) (h.sh b e).2.1)
 ·rw [Ll,LG,Lv];simpa using aZ hw (fun b e=>keep b (hv b e).1)
 ·exact Q154
 ·intro x hx;rcases hS3 x hx with g|g
  ·have I:=h.sl x g;have E:=K.size;simp;omega
  ·have I:=(hw.lt x g).2;simp;omega
 ·intro b I E;exact both b I (fun e=>E (W b e)) (fun e=>E (by rw [e];exact h.sp))
 ·intro x hx;rcases hS3 x hx with g|g
  ·exact Or.inl g
  ·rcases Z x g with e|e
   ·exact Or.inl (W x e)
   ·exact Or.inr e
theorem vW {B p:Nat} {w J:World} {X:Wd} {O:List Out} {S:List Nat} {V:Vs} {vo v':Value} (h:G B p w X O S V vo) (Y:List Fl) (z:Below B w J) (a0:∀ b,b<w.heap.size->V.f.ownBlock≠some b->J.heap[b]?=w.heap[b]?)
  (hw:J.ownsRow B 170 7 v' Y.length (Y.map Fl.cells).flatten) (hn:∀ b,v'.ownBlock=some b->V.f.ownBlock=some b\/w.heap.size<=b) :
  ∃ S',G B p (J.setCell ⟨p,18,none⟩ v') { X with flows:=Y } O S' { V with f:=v' } vo/\Fr S w (J.setCell ⟨p,18,none⟩ v')/\(∀ x∈S',x∈S\/w.heap.size<=x)/\∀ x∈S,x∈S':=by
 have keep:∀ b,b≠p->(J.setCell ⟨p,18,none⟩ v').heap[b]?=J.heap[b]?:=fun b z=>KV _ _ _ _ z
 have hp:V.f.ownBlock≠some p:=fun e=>(h.sf p e).2 rfl
 have both:∀ b,b<w.heap.size->V.f.ownBlock≠some b->b≠p->(J.setCell ⟨p,18,none⟩ v').heap[b]?=w.heap[b]?:=fun b I E Z=>(keep b Z).trans (a0 b I E)
 have a4:J.heap[p]?=some (.cells (dz X V++[vo]).toArray 134 (0,0)):=(a0 p h.plt hp).trans h.bk
 have hv:∀ b,v'.ownBlock=some b->b≠p/\V.h.ownBlock≠some b/\vo.ownBlock≠some b/\B<=b:=by
  intro b z;have a1:=(hw.lt b z).1;rcases hn b z with e|e
  ·exact ⟨(h.sf b e).2,fun g=>(h.sh b g).2.2 e,fun g=>(h.so b g).2.2.1 e,a1⟩
  ·exact ⟨by have:=h.plt;omega,fun g=>by have:=(h.oh.lt b g).2;omega,fun g=>by have:=(h.oo.lt b g).2;omega,a1⟩
 obtain ⟨S',U,a3,hS3⟩:∃ S':List Nat,(∀ x∈S,x∈S')/\(∀ b,v'.ownBlock=some b->b∈S')/\∀ x∈S',x∈S\/(v'.ownBlock=some x):=by
  exact Q52
 have W:∀ b,V.f.ownBlock=some b->b∈S:=fun b z=>(h.sf b z).1
 have a2:w.heap.size<=(J.setCell ⟨p,18,none⟩ v').heap.size:=by simpa using z.size
 refine ⟨S',⟨aR a4 v',?_,?_,?_,?_,h.pB,U _ h.sp,?_,?_,fun b z=>⟨a3 b z,(hv b z).1⟩,fun b z=>⟨U _ (h.sh b z).1,(h.sh b z).2.1,fun e=>(hv b e).2.1 z⟩,fun b z=>⟨U _ (h.so b z).1,(h.so b z).2.1,fun e=>(hv b e).2.2.1 z,(h.so b z).2.2.2⟩⟩,⟨z.os,z.tape,z.output,a2,?_⟩,?_,U⟩
 ·have hS:∀ b,b<w.heap.size->b∉S->b∉S':=fun b I E Z=>by
   rcases hS3 b Z with g|g
   ·exact E g
   ·rcases hn b g with e|e
    ·exact E (W b e)
    ·omega
  have K:=dK (gY h.ro (K':=NI B S') (fun b I E=>⟨hS b I E.1,E.2⟩)) a2 (fun b I E=>both b I (fun e=>E.1 (U b (W b e))) (fun e=>E.1 (by rw [e];exact U p h.sp)));exact ⟨K.ta,K.li,K.re,K.sp,K.wh,K.ml,K.mr⟩
 ·exact aZ hw (fun b e=>keep b (hv b e).1)
 ·exact aZ h.oh (fun b e=>both b (h.oh.lt b e).2 (fun g=>(h.sh b e).2.2 g) (h.sh b e).2.1)
 ·exact aZ h.oo (fun b e=>both b (h.oo.lt b e).2 (fun g=>(h.so b e).2.2.1 g) (h.so b e).2.1)
 ·exact Q154
 ·intro x hx;rcases hS3 x hx with g|g
  ·have I:=h.sl x g;omega
  ·have I:=(hw.lt x g).2;simp;omega
 ·intro b I E;exact both b I (fun e=>E (W b e)) (fun e=>E (by rw [e];exact h.sp))
 ·intro x hx;rcases hS3 x hx with g|g
  ·exact Or.inl g
  ·rcases hn x g with e|e
   ·exact Or.inl (W x e)
   ·exact Or.inr e
theorem nT {B p:Nat} {w:World} {X:Wd} {O:List Out} {S:List Nat} {V:Vs} {vo:Value} (h:G B p w X O S V vo) {g n c:Nat} (Z:V.f=.slice (some ⟨g,0,none⟩) n c) (k:Nat) (u:Value) (J:List Fl) (hl:J.length=X.flows.length)
  (hF:(J.map Fl.cells).flatten=(X.flows.map Fl.cells).flatten.set k u):G B p (w.setCell ⟨g,k,none⟩ u) { X with flows:=J } O S V vo/\Fr S w (w.setCell ⟨g,k,none⟩ u):=by
 have W:V.f.ownBlock=some g:=by rw [Z];rfl
 have keep:∀ z,z≠g->(w.setCell ⟨g,k,none⟩ u).heap[z]?=w.heap[z]?:=fun z U=>KV _ _ _ _ U
 have a1:=(h.sf g W).2
 have a0:=(h.sf g W).1
 have Y:=h.of
 rw [Z] at Y
 refine ⟨⟨(keep p (fun E=>a1 E.symm)).trans h.bk,?_,?_,aZ h.oh (fun z E=>keep z (fun K=>(h.sh z E).2.2 (by rw [K];exact W))),aZ h.oo (fun z E=>keep z (fun K=>(h.so z E).2.2.1 (by rw [K];exact W))),h.pB,h.sp,h.sB,fun x hx=>by simpa using h.sl x hx,h.sf,h.sh,h.so⟩,⟨rfl,rfl,rfl,by simp,fun z _ U=>keep z (fun E=>U (by rw [E];exact a0))⟩⟩
 ·have I:=dK h.ro (w':=w.setCell ⟨g,k,none⟩ u) (by simp) (fun z _ U=>keep z (fun E=>U.1 (by rw [E];exact a0)));exact ⟨I.ta,I.li,I.re,I.sp,I.wh,I.ml,I.mr⟩
 ·show World.ownsRow _ _ _ _ V.f J.length (J.map Fl.cells).flatten
  rw [hF,hl,Z]
  have hn:n=X.flows.length:=by
   obtain ⟨a',c',K,_⟩:=aE Y;injection K
  rw [hn] at Y ⊢;exact (Y.stored k u).1
theorem I3 {B p:Nat} {w w':World} {X:Wd} {O:List Out} {S:List Nat} {V:Vs} {vo:Value} (I:G B p w X O S V vo) (J:Below w.heap.size w w') (b:Nat) (Y:w.heap.size<=b) (W:b<w'.heap.size):G B p w' X O (b :: S) V vo:=by
 have E:=dF I J;have hp:=I.plt;have Z:=I.pB;refine ⟨E.bk,dK (gY I.ro (fun z h U=>⟨fun K=>?_,U.2⟩)) J.size (fun z h _=>J.block z h),E.of,E.oh,E.oo,E.pB,Ly _ E.sp,fun z h=>?_,fun z h=>?_,fun z h=>⟨Ly _ (E.sf z h).1,(E.sf z h).2⟩,fun z h=>⟨Ly _ (E.sh z h).1,(E.sh z h).2⟩,fun z h=>⟨Ly _ (E.so z h).1,(E.so z h).2⟩⟩
 ·rcases List.mem_cons.1 K with rfl|K
  ·omega
  ·exact U.1 K
 ·rcases List.mem_cons.1 h with rfl|h
  ·omega
  ·exact E.sB z h
 ·rcases List.mem_cons.1 h with rfl|h
  ·exact W
  ·exact E.sl z h
theorem sx {B p:Nat} {w:World} {X:Wd} {O:List Out} {S:List Nat} {V:Vs} {vo:Value} (z:G B p w X O S V vo) (b j:Nat) (u:Value) (K:b∈S) (Z:b≠p) (U:V.f.ownBlock≠some b) (W:V.h.ownBlock≠some b) (Y:vo.ownBlock≠some b) :
  G B p (w.setCell ⟨b,j,none⟩ u) X O S V vo/\Fr S w (w.setCell ⟨b,j,none⟩ u):=by
 have keep:∀ h,h≠b->(w.setCell ⟨b,j,none⟩ u).heap[h]?=w.heap[h]?:=fun h I=>KV _ _ _ _ I
 exact ⟨⟨(keep p (fun E=>Z E.symm)).trans z.bk,dK z.ro (by simp) (fun h _ I=>keep h (fun E=>I.1 (by rw [E];exact K))),aZ z.of (fun h E=>keep h (fun J=>U (by rw [<- J];exact E))),aZ z.oh (fun h E=>keep h (fun J=>W (by rw [<- J];exact E))),aZ z.oo (fun h E=>keep h (fun J=>Y (by rw [<- J];exact E))),z.pB,z.sp,z.sB,fun h I=>by simpa using z.sl h I,z.sf,z.sh,z.so⟩,
  ⟨rfl,rfl,rfl,by simp,fun h _ I=>keep h (fun E=>I (by rw [E];exact K))⟩⟩
theorem G.x26 {B p:Nat} {w:World} {X:Wd} {O:List Out} {S:List Nat} {V:Vs} {vo:Value} (h:G B p w X O S V vo):w.cell? ⟨p,26,none⟩=some vo:=by rw [ae h.bk 26];rfl
theorem dw {B p:Nat} {w:World} {X:Wd} {O:List Out} {S:List Nat} {V:Vs} {vo:Value} (h:G B p w X O S V vo) (o:Out) (hO:O.length<=1000000) :
  Calls prog 63 #[.pointer (some ⟨p,0,none⟩),.agg (Out.cells o).toArray] w (GTo B p w S X (O++[o]) (fun V'=>V'=V) (.tuple #[])):=by
 obtain ⟨i0,hi,an,ar,au⟩:=info_parts Gd
 obtain ⟨ao,co,rfl,_⟩:=aE h.oo
 have a1:=h.x26
 have xf:w.frozen? ⟨p,26,none⟩=false:=az h.bk 26
 have hp:=h.plt
 have a9:∀ z,(Value.slice ao O.length co).ownBlock=some z->z≠p:=fun z U=>(h.so z U).2.1
 have am:=KL a9
 have H:=KL h
 have af:=KL (fun z hb=>(h.oo.lt z hb).2)
 have hB:B<=w.heap.size:=by have:=h.pB;omega
 clear h a9
 obtain ⟨o0,o1,o2,o3,Y,Z,o6⟩:=o
 unfold Out.cells
 go_in
 go_wp2_with fail
 obtain ⟨wb,I⟩:∃ wb,wb=w.alloc (.cells #[.int .i64 o0,.int .i64 o1,.int .i64 o2,.int .i64 o3,.int .i64 Y,.int .i64 Z,.int .i64 o6] 75):=⟨_,rfl⟩
 have b0:wb.cell? ⟨w.heap.size,0,none⟩=some (.int .i64 o0):=by rw [I];go_simp
 have b1:wb.cell? ⟨w.heap.size,1,none⟩=some (.int .i64 o1):=by rw [I];go_simp
 have b2:wb.cell? ⟨w.heap.size,2,none⟩=some (.int .i64 o2):=by rw [I];go_simp
 have b3:wb.cell? ⟨w.heap.size,3,none⟩=some (.int .i64 o3):=by rw [I];go_simp
 have b4:wb.cell? ⟨w.heap.size,4,none⟩=some (.int .i64 Y):=by rw [I];go_simp
 have b5:wb.cell? ⟨w.heap.size,5,none⟩=some (.int .i64 Z):=by rw [I];go_simp
 have b6:wb.cell? ⟨w.heap.size,6,none⟩=some (.int .i64 o6):=by rw [I];go_simp
 have a0:Below w.heap.size w wb:=by rw [I];exact (KM _ _).alloc (KY _) _
 have aw:wb.heap.size=w.heap.size+1:=by rw [I];simp
 have a1:=ah a0 a1 hp
 have xf:wb.frozen? ⟨p,26,none⟩=false:=(a0.frozen (p:=⟨p,26,none⟩) hp).trans xf
 have HG:=KL (dF H.out a0)
 have aa:=KL a0
 rw [<- I]
 clear I a0 H
 have bp:p<wb.heap.size:=by omega
 (refine Zr (fun w':World=>w'.cell? ⟨w.heap.size,0,none⟩=some (.int .i64 o0)/\w'.cell? ⟨w.heap.size,1,none⟩=some (.int .i64 o1)/\w'.cell? ⟨w.heap.size,2,none⟩=some (.int .i64 o2)/\w'.cell? ⟨w.heap.size,3,none⟩=some (.int .i64 o3)/\w'.cell? ⟨w.heap.size,4,none⟩=some (.int .i64 Y)/\w'.cell? ⟨w.heap.size,5,none⟩=some (.int .i64 Z)/\w'.cell? ⟨w.heap.size,6,none⟩=some (.int .i64 o6)) (fun W=>?_);refine eY 0 ?_;refine Zt 5 ?_;refine Z2 4 6 (fun K hK=>?_) (fun K hK=>?_);(focus (go_simp;refine Zk hK fun W=>?_;clear hK K;refine Z1 6 (fun K hK=>?_);go_simp;refine Zk hK fun W=>?_;clear hK K));rotate_left 1;(focus (go_simp;refine Zk hK fun W=>?_;clear hK K;refine Z1 4 (fun K hK=>?_);go_simp;refine Zk hK fun W=>?_;clear hK K));rotate_left 1;(all_goals (refine Z1 7 (fun K hK=>?_);rw [if_pos (by rfl)];(refine fo _ _ _ 68 rfl B 75 i0 (.agg #[.int .i64 0,.int .i64 0,.int .i64 0,.int .i64 0,.int .i64 0,.int .i64 0,.int .i64 0]) 7 56 underlying68 hi an ar au rfl (by decide) _ _ _ rfl (bF HG.out.oo (KN ((KM wb.heap.size wb).alloc (KY _) _))) ⟨w.heap.size+1,0,none⟩ 1 1 (Out.cells ⟨o0,o1,o2,o3,Y,Z,o6⟩) rfl rfl (fun j u h=>fO (w:=wb) aw.symm _ 75 j u h) (z8 _) (by unfold maxLen;omega) (by omega) (by simp;omega) ?_;intro v6 E a4 a2 a8;have a3:∀ z,z<wb.heap.size->(Value.slice ao O.length co).ownBlock≠some z->E.heap[z]?=wb.heap[z]?:=(fun z hb av=>(a2.block z (by simp;omega) (fun U=>av U.symm)).trans ((KN ((KM wb.heap.size wb).alloc (KY _) _)).block z hb));have J:E.heap[w.heap.size]?=wb.heap[w.heap.size]?:=(a3 w.heap.size (by omega) (fun U=>by have:=af.out _ U;omega));have a5:E.heap[p]?=wb.heap[p]?:=(a3 p (by omega) (fun U=>am.out p U rfl));have b0:=(Lg (w:=wb) (w':=E) (a:=⟨w.heap.size,0,none⟩) J).trans b0;have b1:=(Lg (w:=wb) (w':=E) (a:=⟨w.heap.size,1,none⟩) J).trans b1;have b2:=(Lg (w:=wb) (w':=E) (a:=⟨w.heap.size,2,none⟩) J).trans b2;have b3:=(Lg (w:=wb) (w':=E) (a:=⟨w.heap.size,3,none⟩) J).trans b3;have b4:=(Lg (w:=wb) (w':=E) (a:=⟨w.heap.size,4,none⟩) J).trans b4;have b5:=(Lg (w:=wb) (w':=E) (a:=⟨w.heap.size,5,none⟩) J).trans b5;have b6:=(Lg (w:=wb) (w':=E) (a:=⟨w.heap.size,6,none⟩) J).trans b6;have a1:=(Lg (w:=wb) (w':=E) (a:=⟨p,26,none⟩) a5).trans a1;have xf:=(World.frozen?_of_block (w:=wb) (w':=E) (a:=⟨p,26,none⟩) a5).trans xf;obtain ⟨a6,c6,rfl,_⟩:=aE a4;have ak:=KL a4;have ad:=KL a2;have ag:=KL a8;have ns:¬ w.heap.size=p:=(by omega);clear a4 a2 a8 a3 J a5);refine Zk hK fun W=>?_;clear hK K;refine dl 8 ?_;refine Z1 10 (fun K hK=>?_);go_simp;refine Zk hK fun W=>?_;clear hK K));(all_goals refine Zd ?_))
 all_goals
  have bW:Below wb.heap.size wb (wb.alloc (.cells #[.int .i64 o0,.int .i64 o1,.int .i64 o2,.int .i64 o3,.int .i64 Y,.int .i64 Z,.int .i64 o6] 75)).drew:=KN ((KM wb.heap.size wb).alloc (KY _) _)
  obtain ⟨S',hG,hF,hS⟩:=G_out (dF HG.out bW) ⟨o0,o1,o2,o3,Y,Z,o6⟩ (by simpa using ak.out) ad.out ag.out
  have ac:=KL hG
  have a7:Fr S w _:=Fr.trans (Fr.of_below (aa.out.trans (bW.mono (by omega)))) hF (fun x hx=>Or.inl hx)
  have ab:=KL a7
  have al:=KL hS
  clear hG hF hS a7 bW
  go_wp2_with fail
  refine LN (v:=.tuple #[]) (by simp [results,results63,go_sem]) rfl ⟨S',V,_,rfl,ac.out,rfl,ab.out,fun x hx=>?_⟩
  rcases al.out x hx with g|g
  ·exact Or.inl g
  ·exact Or.inr (by simp at g;omega)
end
end Go.Proofs.YtennppmadmgfoaaGreatDoor
