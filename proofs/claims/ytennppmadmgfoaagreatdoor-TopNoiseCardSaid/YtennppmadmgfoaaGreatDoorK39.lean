/- Texts of the row's proof. Conditions: none. -/
import Derived.Test.YtennppmadmgfoaaGreatDoorK17
import Derived.Test.YtennppmadmgfoaaGreatDoorK36
import Derived.Test.YtennppmadmgfoaaGreatDoorK38
namespace Go.Proofs.YtennppmadmgfoaaGreatDoor
open Proofs.Tryz
set_option maxRecDepth 100000
set_option maxHeartbeats 8000000
section
open Go.RowKit
structure WA (w:World) (X:Wd) (V:Vs):Prop where
 ro:oV (fun _=>True) w X V
 fl:aK w 7 V.f (X.flows.map Fl.cells)
 he:aK w 4 V.h (eO X V)
theorem WA.below {w w':World} {X:Wd} {V:Vs} (z:WA w X V) (h:Below w.heap.size w w'):WA w' X V:=
 ⟨dK z.ro h.size (fun E I _=>h.block E I),aq z.fl h,aq z.he h⟩
def Kp (N:Nat) (W h:World):Prop:=W.heap.size<=h.heap.size/\∀ b,N<=b->b<W.heap.size->h.heap[b]?=W.heap[b]?
theorem Kp.refl (N:Nat) (W:World):Kp N W W:=⟨KY _,fun _ _ _=>rfl⟩
theorem Kp.trans {N:Nat} {a b c:World} (h:Kp N a b) (k:Kp N b c):Kp N a c:=⟨Lz h.1 k.1,fun x z E=>(k.2 x z (Nat.lt_of_lt_of_le E h.1)).trans (h.2 x z E)⟩
theorem Kp.of_below {N:Nat} {W W':World} (h:Below W.heap.size W W'):Kp N W W':=⟨h.size,fun b _ z=>h.block b z⟩
theorem Kp.set {N p:Nat} {W h:World} (z:Kp N W h) (J:p<N) (j:Nat) (u:Value):Kp N W (h.setCell ⟨p,j,none⟩ u):=⟨by simpa using z.1,fun b E I=>(KV _ _ _ _ (fun e:b=p=>by omega)).trans (z.2 b E I)⟩
theorem Kp.alloc {N:Nat} {W z:World} (h:Kp N W z) (o:Obj):Kp N W (z.alloc o):=⟨by have:=h.1;simp;omega,fun b E I=>(KQ _ _ _ (by have:=h.1;omega)).trans (h.2 b E I)⟩
def Kn (N:Nat) (v:Value) (b:Nat):Prop:=N<=b/\v.ownBlock≠some b
structure CpA (N:Nat) (W:World) (X:Wd) (V:Vs):Prop where
 ta:dj (Kn N V.f) W 4 V.t (X.tab.map Sl.cells)
 li:dj (Kn N V.f) W 6 V.l (X.lives.map Lf.cells)
 re:dj (Kn N V.f) W 5 V.r (X.reqs.map Rq.cells)
 sp:dj (Kn N V.f) W 2 V.s (X.ring.map Sp.cells)
 of:W.ownsRow N 170 7 V.f X.flows.length (X.flows.map Fl.cells).flatten
theorem qz {N:Nat} {h:Nat->Prop} {W z:World} {sz:Nat} {v:Value} {L:List (List Value)} (E:dj h W sz v L) (k:Kp N W z) (K:∀ b,h b->N<=b):dj h z sz v L:=bI E k.1 (fun b I J=>k.2 b (K b J) I)
theorem oJ {N B sz n:Nat} {W z:World} {t:TypeId} {v:Value} {cs:List Value} (h:W.ownsRow B t sz v n cs) (k:Kp N W z) (E:N<=B):z.ownsRow B t sz v n cs:=aZ h (fun b e=>k.2 b (by have:=(h.lt b e).1;omega) (h.lt b e).2)
structure CpZ (N:Nat) (W:World) (X:Wd) (V:Vs):Prop where
 ro:oV (fun b=>N<=b/\V.f.ownBlock≠some b/\V.h.ownBlock≠some b) W X V
 of:W.ownsRow N 170 7 V.f X.flows.length (X.flows.map Fl.cells).flatten
 oh:W.ownsRow N 162 4 V.h X.health.length (eO X V).flatten
 ne:∀ b,V.f.ownBlock=some b->V.h.ownBlock≠some b
theorem CpZ.kp {N:Nat} {W z:World} {X:Wd} {V:Vs} (h:CpZ N W X V) (k:Kp N W z):CpZ N z X V:=
 ⟨dK h.ro k.1 (fun E I J=>k.2 E J.1 I),oJ h.of k (KY _),oJ h.oh k (KY _),h.ne⟩
theorem jT {N:Nat} {W:World} {X:Wd} {V:Vs} (h:CpZ N W X V) (hN:N<=W.heap.size):∃ S,G N W.heap.size (W.alloc (.cells (dz X V++[Value.slice none 0 0]).toArray 134)) X [] S V (.slice none 0 0)/\∀ x∈S,N<=x:=by
 have U:Kp N W (W.alloc (.cells (dz X V++[Value.slice none 0 0]).toArray 134)):=(Kp.refl N W).alloc _;have K:=h.kp U;refine ⟨W.heap.size :: ((match V.f.ownBlock with|some z=>[z]|none=>[])++(match V.h.ownBlock with|some z=>[z]|none=>[])),?_,?_⟩
 ·refine { bk:=aB _ rfl,ro:=?_,of:=K.of,oh:=K.oh,oo:=LJ _ _ _ _,pB:=hN,sp:=Lw ..,sB:=?_,sl:=?_,sf:=?_,sh:=?_,so:=fun z E=>by simp [Value.ownBlock] at E }
  ·refine dK (gY h.ro (fun z E I=>⟨fun hm=>?_,I.1⟩)) U.1 (fun z E _=>KQ _ _ _ E);rcases List.mem_cons.1 hm with rfl|hm
   ·omega
   ·rcases List.mem_append.1 hm with hm|hm
    ·cases e:V.f.ownBlock with
     | none=>rw [e] at hm;simp at hm
     | some c=>rw [e] at hm;simp at hm;subst hm;exact I.2.1 e
    ·cases e:V.h.ownBlock with
     | none=>rw [e] at hm;simp at hm
     | some c=>rw [e] at hm;simp at hm;subst hm;exact I.2.2 e
  ·exact Q47
  ·intro x hx;have J:W.heap.size<(W.alloc (.cells (dz X V++[Value.slice none 0 0]).toArray 134)).heap.size:=by simp
   rcases List.mem_cons.1 hx with rfl|hm
   ·exact J
   ·rcases List.mem_append.1 hm with hm|hm
    ·cases e:V.f.ownBlock with
     | none=>rw [e] at hm;simp at hm
     | some c=>rw [e] at hm;simp at hm;subst hm;exact Nat.lt_trans (h.of.lt _ e).2 J
    ·cases e:V.h.ownBlock with
     | none=>rw [e] at hm;simp at hm
     | some c=>rw [e] at hm;simp at hm;subst hm;exact Nat.lt_trans (h.oh.lt _ e).2 J
  ·intro z e;exact ⟨by simp [e],by have:=(h.of.lt z e).2;omega⟩
  ·intro z e;exact ⟨by simp [e],by have:=(h.oh.lt z e).2;omega,fun Y=>h.ne z Y e⟩
 ·exact Q47
def pV (h:List Value) (H:List Ht) (n k:Nat):List (List Value):=List.zipWith wD h (H.take k)++iV (n - k)
theorem hcpL_0 (H:List Ht) (n:Nat):pV [] H n 0=iV n:=by simp [pV]
theorem yg {h:List Value} {H:List Ht} {n k:Nat} (E:h.length=k) (I:H.length=n) (z:k<=n):(pV h H n k).length=n:=by
 unfold pV;simp [iv];omega
theorem Gm (z:List Value) (H:List Ht) (n k:Nat):∀ c∈pV z H n k,c.length=4:=by
 intro c h;rcases List.mem_append.1 h with h|h
 ·obtain ⟨I,E,rfl⟩:=List.mem_iff_getElem.1 h;simp [wD]
 ·exact lF _ c h
theorem Dr {h:List Value} {H:List Ht} {n k:Nat} (U:h.length=k) (W:H.length=n) (K:k<n) (m:Value):(pV h H n k).set k (wD m (H.getD k Ht.zero))=pV (h++[m]) H n (k+1):=by
 have z:k<H.length:=by omega
 unfold pV
 have J:(List.zipWith wD h (H.take k)).length=k:=by simp;omega
 have E:iV (n - k)=[.slice none 0 0,.bool false,.int .i64 0,.int .i64 0] :: iV (n - (k+1)):=by
  unfold iV;rw [show n - k=(n - (k+1))+1 by omega,List.replicate_succ]
 rw [E,List.set_append_right k _ (by omega),J,Nat.sub_self,List.set_cons_zero]
 have I:H.take (k+1)=H.take k++[H.getD k Ht.zero]:=by
  rw [Li z];simp [List.getD,z]
 rw [I,List.zipWith_append (by simp;omega)];simp
theorem Gl {X:Wd} {V:Vs} {n:Nat} (h:X.health.length=n):pV V.m X.health n n=eO X V:=by
 unfold pV eO;rw [<- h,List.take_length];simp [iV]
def pU (vs:List Value) (n k:Nat):List (List Value):=vs.map (fun x=>[x])++List.replicate (n - k) [.slice none 0 0]
theorem vp (vs:List Value) (n k:Nat):∀ c∈pU vs n k,c.length=1:=by
 intro c h;rcases List.mem_append.1 h with h|h
 ·obtain ⟨z,_,rfl⟩:=LH.1 h
  rfl
 ·rw [List.eq_of_mem_replicate h]
  rfl
theorem rM {vs:List Value} {n k:Nat} (z:vs.length=k) (h:k<=n):(pU vs n k).length=n:=by unfold pU;simp;omega
theorem CV {vs:List Value} {n k:Nat} (E:vs.length=k) (J:k<n) (m:Value):(pU vs n k).flatten.set k m=(pU (vs++[m]) n (k+1)).flatten:=by
 unfold pU
 have z:List.replicate (n - k) [Value.slice none 0 0]=[.slice none 0 0] :: List.replicate (n - (k+1)) [Value.slice none 0 0]:=by
  rw [show n - k=(n - (k+1))+1 by omega,List.replicate_succ]
 have h:∀ vs:List Value,(vs.map fun I=>[I]).flatten=vs:=fun vs=>by induction vs with|nil=>rfl|cons a vs ih=>rw [List.map_cons,List.flatten_cons,ih];rfl
 rw [Lv,Lv,z,h,h,List.set_append_right k _ (by omega),E,Nat.sub_self];simp
structure HcS (w W5:World) (A:Array Value) (X:Wd) (k:Nat) (ms:List Value) (wr:World):Prop where
 ml:ms.length=k
 be:Below w.heap.size w wr
 c0:wr.heap[w.heap.size]?=some (.cells A 56 (0,0))
 c1:wr.heap[w.heap.size+1]?=some (.cells bS 56 (0,0))
 kp:Kp (w.heap.size+2) W5 wr
 lt:W5.heap.size<wr.heap.size
 ow:wr.ownsRow (w.heap.size+2) 162 4 (.slice (some ⟨W5.heap.size,0,none⟩) 12 12) 12 (pV ms X.health 12 k).flatten
 ro:∀ i,i<k->dj (fun b=>W5.heap.size<b) wr 1 (ms.getD i undef) (cN (X.health.getD i Ht.zero).marks)
theorem yi {z:List Value} {m:Value} {i k:Nat} (I:z.length=k) (E:i<k+1):(z++[m]).getD i undef=if i<k then z.getD i undef else m:=by
 by_cases h:i<k
 ·rw [if_pos h];simp only [List.getD];rw [LR (by omega)]
 ·rw [if_neg h];simp only [List.getD];rw [LU (by omega)];have:i - z.length=0:=by omega
  rw [this]
  rfl
theorem Hc (M:List Bool):∀ c∈cN M,c.length=1:=by
 intro c h;unfold cN at h;obtain ⟨z,_,rfl⟩:=LH.1 h
 rfl
theorem HcS.next {w z wr w6:World} {A:Array Value} {X:Wd} {k n:Nat} {ms:List Value} {m':Value} {BT:TypeId} (h:HcS w z A X k ms wr) (Z:k<12) (Y:X.health.length=12) (hN:w.heap.size+2<=z.heap.size) (o:Obj)
  (K:Below (wr.alloc o).heap.size (wr.alloc o) w6) (a1:w6.ownsRow (wr.alloc o).heap.size BT 1 m' n (cN (X.health.getD k Ht.zero).marks).flatten) (hn:(cN (X.health.getD k Ht.zero).marks).length=n) :
  HcS w z A X (k+1) (ms++[m']) (((((w6.setCell ⟨wr.heap.size,0,none⟩ m').setCell ⟨z.heap.size,k*4,none⟩ m').setCell ⟨z.heap.size,k*4+1,none⟩ (.bool (X.health.getD k Ht.zero).out)).setCell ⟨z.heap.size,k*4+2,none⟩ (.int .i64 (X.health.getD k Ht.zero).until_)).setCell ⟨z.heap.size,k*4+3,none⟩ (.int .i64 (X.health.getD k Ht.zero).times)):=by
 have a2:=h.lt
 have a0:=h.be.size
 have z1:(wr.alloc o).heap.size=wr.heap.size+1:=by simp
 have b6:Below w.heap.size w w6:=(h.be.alloc a0 o).trans (K.mono (by omega))
 have s6:wr.heap.size+1<=w6.heap.size:=by have:=K.size;omega
 have k6:∀ b,b<wr.heap.size->w6.heap[b]?=wr.heap[b]?:=fun b E=>(K.block b (by omega)).trans (KQ _ _ _ E)
 generalize hW:(((((w6.setCell ⟨wr.heap.size,0,none⟩ m').setCell ⟨z.heap.size,k*4,none⟩ m').setCell ⟨z.heap.size,k*4+1,none⟩ (.bool (X.health.getD k Ht.zero).out)).setCell ⟨z.heap.size,k*4+2,none⟩ (.int .i64 (X.health.getD k Ht.zero).until_)).setCell ⟨z.heap.size,k*4+3,none⟩ (.int .i64 (X.health.getD k Ht.zero).times))=W
 have keep:∀ b,b≠z.heap.size->b≠wr.heap.size->W.heap[b]?=w6.heap[b]?:=fun b h1 h2=>by
  rw [<- hW,KV _ _ _ _ h1,KV _ _ _ _ h1,KV _ _ _ _ h1,KV _ _ _ _ h1,KV _ _ _ _ h2]
 have hz:W.heap.size=w6.heap.size:=by rw [<- hW];simp
 have keep2:∀ b,b<wr.heap.size->b≠z.heap.size->W.heap[b]?=wr.heap[b]?:=fun b h1 h2=>(keep b h2 (by omega)).trans (k6 b h1)
 refine ⟨by simp [h.ml],?_,(keep2 _ (lt_of_block h.c0) (by omega)).trans h.c0,(keep2 _ (lt_of_block h.c1) (by omega)).trans h.c1,⟨by omega,fun b h1 h2=>(keep2 b (by omega) (by omega)).trans (h.kp.2 b h1 h2)⟩,by omega,?_,fun i hi=>?_⟩
 ·rw [<- hW];have I:w.heap.size<=z.heap.size:=by omega
  exact ((((b6.setCell a0 _).setCell I _).setCell I _).setCell I _).setCell I _
 ·have U:=aZ (w':=w6.setCell ⟨wr.heap.size,0,none⟩ m') h.ow (fun b E=>by
   simp only [Value.ownBlock,Option.some.injEq] at E
   rw [KV _ _ _ _ (fun U:b=wr.heap.size=>by omega)];exact k6 b (by omega))
  have J:=(((U.stored (k*4) m').1.stored (k*4+1) (.bool (X.health.getD k Ht.zero).out)).1.stored (k*4+2) (.int .i64 (X.health.getD k Ht.zero).until_)).1.stored (k*4+3) (.int .i64 (X.health.getD k Ht.zero).times);rw [tV (Gm _ _ _ _) (by rw [yg h.ml Y (by omega)];exact Z)] at J;rw [hW] at J;rw [<- Dr h.ml Y Z m'];exact J.1
 ·rw [yi h.ml hi];by_cases hik:i<k
  ·exact Q137
  ·rw [if_neg hik];have:i=k:=by omega
   subst this;have r:=eE (aG a1 hn (Hc _));exact bI (bU (K':=fun b=>wr.heap.size+1<=b) r (fun b _ E=>by omega)) (by omega) (fun b h1 h2=>keep b (by omega) (by omega)) |> fun q=>bU q (fun b _ E=>by omega)
structure LcS (w W6:World) (A:Array Value) (X:Wd) (k:Nat) (vs:List Value) (wr:World):Prop where
 ml:vs.length=k
 be:Below w.heap.size w wr
 c0:wr.heap[w.heap.size]?=some (.cells A 56 (0,0))
 c1:wr.heap[w.heap.size+1]?=some (.cells bS 56 (0,0))
 kp:Kp (w.heap.size+2) W6 wr
 lt:W6.heap.size<wr.heap.size
 ow:wr.ownsRow (w.heap.size+2) 181 1 (.slice (some ⟨W6.heap.size,0,none⟩) 25 25) 25 (pU vs 25 k).flatten
 ro:∀ i,i<k->dj (fun b=>W6.heap.size<b) wr 2 (vs.getD i undef) ((X.lists.getD i []).map Tm.cells)
theorem LcS.next {w z wr w7:World} {A:Array Value} {X:Wd} {k n:Nat} {vs:List Value} {v':Value} {BT:TypeId} (h:LcS w z A X k vs wr) (Z:k<25) (hN:w.heap.size+2<=z.heap.size)
  (E:Below wr.heap.size wr w7) (a1:w7.ownsRow wr.heap.size BT 2 v' n ((X.lists.getD k []).map Tm.cells).flatten) (hn:((X.lists.getD k []).map Tm.cells).length=n) :
  LcS w z A X (k+1) (vs++[v']) (w7.setCell ⟨z.heap.size,k,none⟩ v'):=by
 have a2:=h.lt
 have a0:=h.be.size
 have K:Below w.heap.size w w7:=h.be.trans (E.mono a0)
 have s7:=E.size
 have keep:∀ b,b≠z.heap.size->(w7.setCell ⟨z.heap.size,k,none⟩ v').heap[b]?=w7.heap[b]?:=fun b h1=>KV _ _ _ _ h1
 have hz:(w7.setCell ⟨z.heap.size,k,none⟩ v').heap.size=w7.heap.size:=by simp
 have keep2:∀ b,b<wr.heap.size->b≠z.heap.size->(w7.setCell ⟨z.heap.size,k,none⟩ v').heap[b]?=wr.heap[b]?:=fun b h1 h2=>(keep b h2).trans (E.block b h1)
 refine ⟨by simp [h.ml],K.setCell (show w.heap.size<=z.heap.size by omega) _,(keep2 _ (lt_of_block h.c0) (by omega)).trans h.c0,(keep2 _ (lt_of_block h.c1) (by omega)).trans h.c1,⟨by omega,fun b h1 h2=>(keep2 b (by omega) (by omega)).trans (h.kp.2 b h1 h2)⟩,by omega,?_,fun i Y=>?_⟩
 ·have U:=aZ (w':=w7) h.ow (fun b I=>by
   simp only [Value.ownBlock,Option.some.injEq] at I
   exact E.block b (by omega))
  have J:=U.stored k v';rw [CV h.ml Z v'] at J;exact J.1
 ·rw [yi h.ml Y];by_cases hik:i<k
  ·exact Q137
  ·rw [if_neg hik];have:i=k:=by omega
   subst this;have r:=eE (aG a1 hn (by intro c W;obtain ⟨x,_,rfl⟩:=LH.1 W;rfl));exact bI (bU (K':=fun b=>wr.heap.size<=b) r (fun b _ I=>by omega)) (by omega) (fun b h1 h2=>keep b (by omega)) |> fun q=>bU q (fun b _ I=>by omega)
theorem CpZ.mk2 {w I W6 W7 W8 Wz:World} {A1 A2:Array Value} {X:Wd} {V:Vs} {ms vs:List Value} (Z:CpA (w.heap.size+2) I X V) (hH:HcS w I A1 X 12 ms W6) (k6:Kp (w.heap.size+2) W6 W7) (J:LcS w W7 A2 X 25 vs W8) (kz:Kp (w.heap.size+2) W8 Wz)
  (hN:w.heap.size+2<=I.heap.size) (hX:X.health.length=12) (hY:X.lists.length=25) :
  CpZ (w.heap.size+2) Wz X { V with h:=.slice (some ⟨I.heap.size,0,none⟩) 12 12,m:=ms,w:=.slice (some ⟨W7.heap.size,0,none⟩) 25 25 }:=by
 have l5:=hH.lt
 have l7:=J.lt
 have a2:=k6.1
 have a0:Kp (w.heap.size+2) I Wz:=((hH.kp.trans k6).trans J.kp).trans kz
 have a1:Kp (w.heap.size+2) W6 Wz:=(k6.trans J.kp).trans kz
 have hf:∀ z,V.f.ownBlock=some z->z<I.heap.size:=fun z E=>(Z.of.lt z E).2
 have up:∀ {U:Nat} {Y:Value} {L:List (List Value)},dj (Kn (w.heap.size+2) V.f) I U Y L->dj (fun z=>w.heap.size+2<=z/\V.f.ownBlock≠some z/\(Value.slice (some ⟨I.heap.size,0,none⟩) 12 12).ownBlock≠some z) Wz U Y L:=by
  intro U Y L K;refine qz (bU K (fun z hb hk=>⟨hk.1,hk.2,fun E=>?_⟩)) a0 (fun z h=>h.1);simp only [Value.ownBlock,Option.some.injEq] at E;omega
 have wide:∀ {W:World} {U:Nat} {Y:Value} {L:List (List Value)} {n:Nat},I.heap.size<=n->dj (fun z=>n<z) W U Y L->dj (fun z=>w.heap.size+2<=z/\V.f.ownBlock≠some z/\(Value.slice (some ⟨I.heap.size,0,none⟩) 12 12).ownBlock≠some z) W U Y L:=by
  intro W U Y L n hn K;refine bU K (fun z _ hk=>⟨by omega,fun E=>?_,fun E=>?_⟩)
  ·have:=hf z E;omega
  ·simp only [Value.ownBlock,Option.some.injEq] at E;omega
 refine ⟨⟨up Z.ta,up Z.li,up Z.re,up Z.sp,?_,by simp only [hH.ml,hX],fun i hi=>?_⟩,oJ Z.of a0 (KY _),?_,fun z E g=>?_⟩
 ·refine ⟨vs,by rw [J.ml,hY],?_,fun i hi=>?_⟩
  ·have K:=aG J.ow (rM J.ml (KY _)) (vp _ _ _);have E:pU vs 25 25=vs.map fun x=>[x]:=by simp [pU]
   rw [E] at K
   have rz:aN (w.heap.size+2) Wz 1 (.slice (some ⟨W7.heap.size,0,none⟩) 25 25) (vs.map fun x=>[x]):=by
    have:=aG (oJ J.ow kz (KY _)) (rM J.ml (KY _)) (vp _ _ _);rw [E] at this;exact this
   refine ⟨rz.1,fun z o n c e2 _=>?_⟩;injection e2 with e3 _ _;injection e3 with e3;injection e3 with e3 _;subst e3;refine ⟨by omega,fun E=>?_,fun E=>?_⟩
   ·have:=hf _ E;omega
   ·simp only [Value.ownBlock,Option.some.injEq] at E;omega
  ·rw [hY] at hi;have K:=wide (by omega) (J.ro i hi);exact qz K kz (fun z h=>h.1)
 ·rw [hX] at hi;exact qz (wide (KY _) (hH.ro i hi)) a1 (fun z h=>h.1)
 ·have E:=oJ hH.ow a1 (KY _);rw [hX];have e2:=Gl (X:=X) (V:={ V with h:=.slice (some ⟨I.heap.size,0,none⟩) 12 12,m:=ms,w:=.slice (some ⟨W7.heap.size,0,none⟩) 25 25 }) hX;rw [<- e2];exact E
 ·simp only [Value.ownBlock,Option.some.injEq] at g;have:=hf z E;omega
structure KK (X:Wd):Prop where
 t:X.tab.length<=1000
 f:X.flows.length<=1000
 l:X.lives.length<=1000
 r:X.reqs.length<=1000
 s:X.ring.length<=1000
 h:X.health.length=12
 m:∀ i,i<12->(X.health.getD i Ht.zero).marks.length<=1000
 w:X.lists.length=25
 x:∀ i,i<25->(X.lists.getD i []).length<=1000
def CpPost (w:World) (X:Wd) (e:Ending) (w':World):Prop:=∃ h,e=.returned (.agg (dz X h).toArray)/\CpZ (w.heap.size+2) w' X h/\Below w.heap.size w w'/\w.heap.size+2<=w'.heap.size
theorem wdA (X:Wd) (V:Vs):(dz X V).toArray=#[.int .i64 X.cf.flows,.int .i64 X.cf.num,.int .i64 X.cf.den,.int .i64 X.cf.tries,.int .i64 X.cf.warm,.int .i64 X.cf.drain,.int .i64 X.cf.idle,.int .i64 X.cf.connect,.int .i64 X.cf.retries,.int .i64 X.cf.most,.int .i64 X.cf.bn,.int .i64 X.cf.bd,.int .i64 X.cf.bb,.int .i64 X.cf.ww,.int .i64 X.cf.wf,.int .i64 X.cf.wh,.int .i64 X.now,V.t,V.f,V.l,V.r,V.s,V.h,.int .i64 X.tok,.int .i64 X.wnow,V.w]:=rfl
theorem dA {P:Program} {F:Nat} {args:Array Value} {Q:Ending->World->Prop} (w:World) (h:∀ w',w'=w->Calls P F args w' Q):Calls P F args w Q:=h w rfl
theorem gH {w:World} {B T sz n:Nat} {v:Value} {cs:List Value} (h:w.ownsRow B T sz v n cs):∃ a c,v=.slice a n c:=by
 obtain ⟨a,c,e,_⟩:=aE h;exact ⟨a,c,e⟩
theorem mn {P:Program} {E:Func} {p:Tmp} {h:TypeId} (I:E.results=#[.cell p h]) (z:Array Value) (w:World) (g:Nat) (t:TypeId) (cs:Array Value) (fr:Nat×Nat) (d:TypeDesc)
  (W:z.getD p undef=.pointer (some ⟨g,0,none⟩)) (K:w.heap[g]?=some (.cells cs t fr))
  (Z:P.underlying h=some d) (J:(match d with|.struct _|.array _ _=>true|_=>false)=true) (U:(P.info? h).map (·.size)=some cs.size) :
  (results E z).run P w=.ok (.agg cs) w:=by
 have Y:z[p]?.getD undef=.pointer (some ⟨g,0,none⟩):=by simpa using W
 simp [results,I,Y,asAddr,run_loadVar_row w g t h cs fr d K Z J U]
theorem Fb (X:Wd) {V:Vs} (h:V.t.oneCell'=true) (z:V.f.oneCell'=true) (E:V.l.oneCell'=true) (I:V.r.oneCell'=true) (J:V.s.oneCell'=true) (K:V.h.oneCell'=true) (U:V.w.oneCell'=true):(dz X V).toArray.all (·.oneCell')=true:=by
 rw [wdA];simp [h,z,E,I,J,K,U]
 repeat' (first|rfl|apply And.intro)
theorem xD {w:World} {B B' sz n:Nat} {t:TypeId} {v:Value} {cs:List Value} (J:w.ownsRow B t sz v n cs) (Z:B'<=B):w.ownsRow B' t sz v n cs:=by
 obtain ⟨h,K|⟨I,z,E,rfl,U,W,Y⟩⟩:=J
 ·exact ⟨h,Or.inl K⟩
 ·exact ⟨h,Or.inr ⟨I,z,E,rfl,Lz Z U,W,Y⟩⟩
theorem row_lo {N B sz n:Nat} {w W:World} {t:TypeId} {v f:Value} {L:List (List Value)} (h:w.ownsRow B t sz v n L.flatten) (hn:L.length=n) (hl:∀ c∈L,c.length=sz) (z:N<=B) (k:Kp N w W) (hf:∀ b,f.ownBlock=some b->w.heap.size<=b):dj (Kn N f) W sz v L:=by
 exact Q97
theorem zq {N B sz n:Nat} {w W:World} {t:TypeId} {v f:Value} {L:List (List Value)} (h:w.ownsRow B t sz v n L.flatten) (hn:L.length=n) (hl:∀ c∈L,c.length=sz) (z:N<=B) (k:Kp N w W) (hf:∀ b,f.ownBlock=some b->b<B):dj (Kn N f) W sz v L:=by
 exact Q97
theorem Gi {w:World} {X:Wd} {V:Vs} {a:Option Addr} {c:Nat} (r:aK w 4 (.slice a 12 c) (eO X V)) (hl:V.m.length=X.health.length) (h:X.health.length=12):∃ bh oh,a=some ⟨bh,oh,none⟩/\bh<w.heap.size/\∀ i j,i<12->j<4->w.cell? ⟨bh,oh+i*4+j,none⟩=(wD (V.m.getD i undef) (X.health.getD i Ht.zero))[j]?:=by
 have hn:=eC hl;obtain ⟨a',c',e,_,_,_,h4⟩:=r;obtain ⟨b',o',e2,hb,h6⟩:=h4 (by intro e;rw [e] at hn;simp at hn;omega);injection e with e _ _;refine ⟨b',o',e.trans e2,hb,fun i j hi hj=>?_⟩;have:=h6 i j (by omega) hj;rw [lE hl (by omega)] at this;exact this
theorem lrow25 {w:World} {L:List Value} {a:Option Addr} {c:Nat} (r:aK w 1 (.slice a 25 c) (L.map fun x=>[x])) (z:L.length=25):∃ b o,a=some ⟨b,o,none⟩/\b<w.heap.size/\∀ i,i<25->w.cell? ⟨b,o+i,none⟩=some (L.getD i undef):=by
 obtain ⟨Y,Z,h,_,_,_,W⟩:=aO undef r;obtain ⟨E,U,I,K,J⟩:=W (by intro h;rw [h] at z;simp at z);injection h with h _ _;refine ⟨E,U,h.trans I,K,fun i hi=>?_⟩;have:=J i 0 (by omega) (by omega);simpa using this
theorem pq {w:World} {X:Wd} {V:Vs} (h:WA w X V) (hm:KK X):Calls prog 35 #[.agg (dz X V).toArray] w (CpPost w X):=by
 have HW:=KL h;have HM:=KL hm
 obtain ⟨aH,cH,eH⟩:∃ a c,V.h=.slice a (eO X V).length c:=by obtain ⟨a,c,K,_⟩:=h.he;exact ⟨a,c,K⟩
 rw [eC h.ro.ml,hm.h] at eH;obtain ⟨VL,bu,bv,c8⟩:=h.ro.wh;obtain ⟨aL,cL,eL,_⟩:=ap bv.1;rw [bu,hm.w] at eL;obtain ⟨a0,c0,e0,_⟩:=ap (h.ro.ta.1);obtain ⟨a1,c1,e1,_⟩:=ap (h.fl);obtain ⟨a2,c2,e2,_⟩:=ap (h.ro.li.1);obtain ⟨a3,c3,e3,_⟩:=ap (h.ro.re.1);obtain ⟨a4,c4,e4,_⟩:=ap (h.ro.sp.1);have R0:=KL (show aK w 4 (.slice a0 X.tab.length c0) (X.tab.map Sl.cells) by have:=h.ro.ta.1;rw [e0] at this;exact this);have R1:=KL (show aK w 7 (.slice a1 X.flows.length c1) (X.flows.map Fl.cells) by have:=h.fl;rw [e1] at this;exact this);have R2:=KL (show aK w 6 (.slice a2 X.lives.length c2) (X.lives.map Lf.cells) by have:=h.ro.li.1;rw [e2] at this;exact this);have R3:=KL (show aK w 5 (.slice a3 X.reqs.length c3) (X.reqs.map Rq.cells) by have:=h.ro.re.1;rw [e3] at this;exact this);have R4:=KL (show aK w 2 (.slice a4 X.ring.length c4) (X.ring.map Sp.cells) by have:=h.ro.sp.1;rw [e4] at this;exact this);have RH:=KL (show aK w 4 (.slice aH 12 cH) (eO X V) by have:=h.he;rw [eH] at this;exact this);have RL:=KL (show aK w 1 (.slice aL 25 cL) (VL.map fun x=>[x]) by have:=bv.1;rw [eL] at this;exact this);have HV:=KL (And.intro bu c8);obtain ⟨N,hN⟩:∃ N,N=w.heap.size+2:=⟨_,rfl⟩;rw [wdA,eH,eL,e0,e1,e2,e3,e4];clear h hm bu bv c8 e0 e1 e2 e3 e4 eH eL;obtain ⟨HZ,bn⟩:∃ HZ,HZ=(iV 12).flatten.toArray:=⟨_,rfl⟩
 have bX:∀ W,(Instr.makeSlice 49 (.int .i64 12) (.int .i64 12)).run prog W=.ok (.slice (some ⟨W.heap.size,0,none⟩) 12 12) (W.alloc (.cells HZ 162)):=by
  intro W;subst bn
  kernel_rfl
 have cf:=KL bn;obtain ⟨LZ,bp⟩:∃ LZ,LZ=(pU [] 25 0).flatten.toArray:=⟨_,rfl⟩
 have c5:∀ W,(Instr.makeSlice 52 (.int .i64 25) (.int .i64 25)).run prog W=.ok (.slice (some ⟨W.heap.size,0,none⟩) 25 25) (W.alloc (.cells LZ 181)):=by
  intro W;subst bp
  kernel_rfl
 have cg:=KL bp;clear bn bp;obtain ⟨U,oh,cl,bd,bC⟩:∃ U oh,aH=some ⟨U,oh,none⟩/\U<w.heap.size/\∀ i j,i<12->j<4->w.cell? ⟨U,oh+i*4+j,none⟩=(wD (V.m.getD i undef) (X.health.getD i Ht.zero))[j]?:=Gi RH.out HW.out.ro.ml HM.out.h;obtain ⟨Y,oq,cn,co,bE⟩:∃ Y oq,aL=some ⟨Y,oq,none⟩/\Y<w.heap.size/\∀ i,i<25->w.cell? ⟨Y,oq+i,none⟩=some (VL.getD i undef):=lrow25 RL.out (by rw [HV.out.1,HM.out.w]);subst cl cn;have ba:=KL bC;have ch:=KL bE;clear bC bE;go_in;go_wp2_with fail;have zk:w.heap.size<w.heap.size+1:=Nat.lt_succ_self _;refine dA _ (fun W0 av=>?_)
 have b0:Below w.heap.size w W0:=by rw [av];exact ((KM _ _).alloc (KY _) _).alloc (by simp) _
 have k0:W0.heap[w.heap.size]?=some (.cells #[.int .i64 X.cf.flows,.int .i64 X.cf.num,.int .i64 X.cf.den,.int .i64 X.cf.tries,.int .i64 X.cf.warm,.int .i64 X.cf.drain,.int .i64 X.cf.idle,.int .i64 X.cf.connect,.int .i64 X.cf.retries,.int .i64 X.cf.most,.int .i64 X.cf.bn,.int .i64 X.cf.bd,.int .i64 X.cf.bb,.int .i64 X.cf.ww,.int .i64 X.cf.wf,.int .i64 X.cf.wh,.int .i64 X.now,(.slice a0 X.tab.length c0),(.slice a1 X.flows.length c1),(.slice a2 X.lives.length c2),(.slice a3 X.reqs.length c3),(.slice a4 X.ring.length c4),(.slice (some ⟨U,oh,none⟩) 12 cH),.int .i64 X.tok,.int .i64 X.wnow,(.slice (some ⟨Y,oq,none⟩) 25 cL)] 56 (0,0)):=by rw [av];exact (heap_alloc_old _ _ (by simp)).trans (aB _ rfl)
 have y0:W0.heap[w.heap.size+1]?=some (.cells bS 56 (0,0)):=by rw [av];exact aB _ (by simp)
 have z0:W0.heap.size=N:=by rw [av,hN];simp
 clear av;refine (BD _ X.tab W0 (aq R0.out b0) (by have:=HM.out.t;omega)).mono ?_;rintro K w1 ⟨v1,rfl,o0,aw⟩;obtain ⟨d0,J,rfl⟩:=gH o0;have O0:=KL o0;have g1:Below w.heap.size w w1:=b0.trans (aw.mono b0.size);have k1:=aj aw k0 (lt_of_block k0);have y1:=aj aw y0 (lt_of_block y0);have P1:=KL (And.intro g1 (And.intro k1 (And.intro y1 aw)));have cc:=ae k1 17;have b6:=ae k1 18;simp only [Le,Lc,Lb] at cc b6;have xf:∀ n,w1.frozen? ⟨w.heap.size,n,none⟩=false:=fun n=>az k1 n;have xl:=lt_of_block k1;clear g1 k1 y1 aw o0 k0 y0;go_wp2_with fail;refine dA _ (fun W1 ag=>?_)
 have b1:Below w.heap.size w W1:=by rw [ag];exact P1.out.1.setCell (KY _) _
 have k1:W1.heap[w.heap.size]?=some (.cells #[.int .i64 X.cf.flows,.int .i64 X.cf.num,.int .i64 X.cf.den,.int .i64 X.cf.tries,.int .i64 X.cf.warm,.int .i64 X.cf.drain,.int .i64 X.cf.idle,.int .i64 X.cf.connect,.int .i64 X.cf.retries,.int .i64 X.cf.most,.int .i64 X.cf.bn,.int .i64 X.cf.bd,.int .i64 X.cf.bb,.int .i64 X.cf.ww,.int .i64 X.cf.wf,.int .i64 X.cf.wh,.int .i64 X.now,(.slice d0 X.tab.length J),(.slice a1 X.flows.length c1),(.slice a2 X.lives.length c2),(.slice a3 X.reqs.length c3),(.slice a4 X.ring.length c4),(.slice (some ⟨U,oh,none⟩) 12 cH),.int .i64 X.tok,.int .i64 X.wnow,(.slice (some ⟨Y,oq,none⟩) 25 cL)] 56 (0,0)):=by rw [ag];exact aR P1.out.2.1 _
 have y1:W1.heap[w.heap.size+1]?=some (.cells bS 56 (0,0)):=by rw [ag];exact aY P1.out.2.2.1 (by omega)
 have M1:=KL (show Kp N W0 W1 by rw [ag];exact (Kp.of_below P1.out.2.2.2).set (by omega) _ _);have Z1:=KL (show W1.heap.size=w1.heap.size by rw [ag];simp);have L1:=KL (show Kp N w1 W1 by rw [ag];exact (Kp.refl N _).set (by omega) _ _);clear ag cc b6 xf xl;refine (JB _ X.flows W1 (aq R1.out b1) (by have:=HM.out.f;omega)).mono ?_;rintro K w2 ⟨v2,rfl,o1,ax⟩;obtain ⟨d1,Z,rfl⟩:=gH o1;have O1:=KL o1;have g2:Below w.heap.size w w2:=b1.trans (ax.mono b1.size);have k2:=aj ax k1 (lt_of_block k1);have y2:=aj ax y1 (lt_of_block y1);have P2:=KL (And.intro g2 (And.intro k2 (And.intro y2 ax)));have b6:=ae k2 18;have b8:=ae k2 19;simp only [Le,Lc,Lb] at b6 b8;have xf:∀ n,w2.frozen? ⟨w.heap.size,n,none⟩=false:=fun n=>az k2 n;have xl:=lt_of_block k2;clear g2 k2 y2 ax o1 k1 y1;go_wp2_with fail;refine dA _ (fun W2 ak=>?_)
 have b2:Below w.heap.size w W2:=by rw [ak];exact P2.out.1.setCell (KY _) _
 have k2:W2.heap[w.heap.size]?=some (.cells #[.int .i64 X.cf.flows,.int .i64 X.cf.num,.int .i64 X.cf.den,.int .i64 X.cf.tries,.int .i64 X.cf.warm,.int .i64 X.cf.drain,.int .i64 X.cf.idle,.int .i64 X.cf.connect,.int .i64 X.cf.retries,.int .i64 X.cf.most,.int .i64 X.cf.bn,.int .i64 X.cf.bd,.int .i64 X.cf.bb,.int .i64 X.cf.ww,.int .i64 X.cf.wf,.int .i64 X.cf.wh,.int .i64 X.now,(.slice d0 X.tab.length J),(.slice d1 X.flows.length Z),(.slice a2 X.lives.length c2),(.slice a3 X.reqs.length c3),(.slice a4 X.ring.length c4),(.slice (some ⟨U,oh,none⟩) 12 cH),.int .i64 X.tok,.int .i64 X.wnow,(.slice (some ⟨Y,oq,none⟩) 25 cL)] 56 (0,0)):=by rw [ak];exact aR P2.out.2.1 _
 have y2:W2.heap[w.heap.size+1]?=some (.cells bS 56 (0,0)):=by rw [ak];exact aY P2.out.2.2.1 (by omega)
 have M2:=KL (show Kp N W1 W2 by rw [ak];exact (Kp.of_below P2.out.2.2.2).set (by omega) _ _);have Z2:=KL (show W2.heap.size=w2.heap.size by rw [ak];simp);have L2:=KL (show Kp N w2 W2 by rw [ak];exact (Kp.refl N _).set (by omega) _ _);clear ak b6 b8 xf xl;refine (vF _ X.lives W2 (aq R2.out b2) (by have:=HM.out.l;omega)).mono ?_;rintro K w3 ⟨v3,rfl,o2,ay⟩;obtain ⟨d2,q2,rfl⟩:=gH o2;have O2:=KL o2;have g3:Below w.heap.size w w3:=b2.trans (ay.mono b2.size);have k3:=aj ay k2 (lt_of_block k2);have y3:=aj ay y2 (lt_of_block y2);have P3:=KL (And.intro g3 (And.intro k3 (And.intro y3 ay)));have b8:=ae k3 19;have b9:=ae k3 20;simp only [Le,Lc,Lb] at b8 b9;have xf:∀ n,w3.frozen? ⟨w.heap.size,n,none⟩=false:=fun n=>az k3 n;have xl:=lt_of_block k3;clear g3 k3 y3 ay o2 k2 y2;go_wp2_with fail;refine dA _ (fun W3 al=>?_)
 have b3:Below w.heap.size w W3:=by rw [al];exact P3.out.1.setCell (KY _) _
 have k3:W3.heap[w.heap.size]?=some (.cells #[.int .i64 X.cf.flows,.int .i64 X.cf.num,.int .i64 X.cf.den,.int .i64 X.cf.tries,.int .i64 X.cf.warm,.int .i64 X.cf.drain,.int .i64 X.cf.idle,.int .i64 X.cf.connect,.int .i64 X.cf.retries,.int .i64 X.cf.most,.int .i64 X.cf.bn,.int .i64 X.cf.bd,.int .i64 X.cf.bb,.int .i64 X.cf.ww,.int .i64 X.cf.wf,.int .i64 X.cf.wh,.int .i64 X.now,(.slice d0 X.tab.length J),(.slice d1 X.flows.length Z),(.slice d2 X.lives.length q2),(.slice a3 X.reqs.length c3),(.slice a4 X.ring.length c4),(.slice (some ⟨U,oh,none⟩) 12 cH),.int .i64 X.tok,.int .i64 X.wnow,(.slice (some ⟨Y,oq,none⟩) 25 cL)] 56 (0,0)):=by rw [al];exact aR P3.out.2.1 _
 have y3:W3.heap[w.heap.size+1]?=some (.cells bS 56 (0,0)):=by rw [al];exact aY P3.out.2.2.1 (by omega)
 have M3:=KL (show Kp N W2 W3 by rw [al];exact (Kp.of_below P3.out.2.2.2).set (by omega) _ _);have Z3:=KL (show W3.heap.size=w3.heap.size by rw [al];simp);have L3:=KL (show Kp N w3 W3 by rw [al];exact (Kp.refl N _).set (by omega) _ _);clear al b8 b9 xf xl;refine (vE _ X.reqs W3 (aq R3.out b3) (by have:=HM.out.r;omega)).mono ?_;rintro K w4 ⟨v4,rfl,o3,aA⟩;obtain ⟨d3,q3,rfl⟩:=gH o3;have O3:=KL o3;have g4:Below w.heap.size w w4:=b3.trans (aA.mono b3.size);have k4:=aj aA k3 (lt_of_block k3);have y4:=aj aA y3 (lt_of_block y3);have P4:=KL (And.intro g4 (And.intro k4 (And.intro y4 aA)));have b9:=ae k4 20;have bf:=ae k4 21;simp only [Le,Lc,Lb] at b9 bf;have xf:∀ n,w4.frozen? ⟨w.heap.size,n,none⟩=false:=fun n=>az k4 n;have xl:=lt_of_block k4;clear g4 k4 y4 aA o3 k3 y3;go_wp2_with fail;refine dA _ (fun W4 an=>?_)
 have b4:Below w.heap.size w W4:=by rw [an];exact P4.out.1.setCell (KY _) _
 have k4:W4.heap[w.heap.size]?=some (.cells #[.int .i64 X.cf.flows,.int .i64 X.cf.num,.int .i64 X.cf.den,.int .i64 X.cf.tries,.int .i64 X.cf.warm,.int .i64 X.cf.drain,.int .i64 X.cf.idle,.int .i64 X.cf.connect,.int .i64 X.cf.retries,.int .i64 X.cf.most,.int .i64 X.cf.bn,.int .i64 X.cf.bd,.int .i64 X.cf.bb,.int .i64 X.cf.ww,.int .i64 X.cf.wf,.int .i64 X.cf.wh,.int .i64 X.now,(.slice d0 X.tab.length J),(.slice d1 X.flows.length Z),(.slice d2 X.lives.length q2),(.slice d3 X.reqs.length q3),(.slice a4 X.ring.length c4),(.slice (some ⟨U,oh,none⟩) 12 cH),.int .i64 X.tok,.int .i64 X.wnow,(.slice (some ⟨Y,oq,none⟩) 25 cL)] 56 (0,0)):=by rw [an];exact aR P4.out.2.1 _
 have y4:W4.heap[w.heap.size+1]?=some (.cells bS 56 (0,0)):=by rw [an];exact aY P4.out.2.2.1 (by omega)
 have M4:=KL (show Kp N W3 W4 by rw [an];exact (Kp.of_below P4.out.2.2.2).set (by omega) _ _);have Z4:=KL (show W4.heap.size=w4.heap.size by rw [an];simp);have L4:=KL (show Kp N w4 W4 by rw [an];exact (Kp.refl N _).set (by omega) _ _);clear an b9 bf xf xl;refine (vC _ X.ring W4 (aq R4.out b4) (by have:=HM.out.s;omega)).mono ?_;rintro K w5 ⟨v5,rfl,o4,aF⟩;obtain ⟨d4,q4,rfl⟩:=gH o4;have O4:=KL o4;have g5:Below w.heap.size w w5:=b4.trans (aF.mono b4.size);have k5:=aj aF k4 (lt_of_block k4);have y5:=aj aF y4 (lt_of_block y4);have P5:=KL (And.intro g5 (And.intro k5 (And.intro y5 aF)));have bf:=ae k5 21;have bi:=ae k5 22;simp only [Le,Lc,Lb] at bf bi;have xf:∀ n,w5.frozen? ⟨w.heap.size,n,none⟩=false:=fun n=>az k5 n;have xl:=lt_of_block k5;clear g5 k5 y5 aF o4 k4 y4;go_wp2_with fail;refine qq _ (fun wx ad=>?_);obtain ⟨W5,ab⟩:∃ W5,W5=w5.setCell ⟨w.heap.size,21,none⟩ (.slice d4 X.ring.length q4):=⟨_,rfl⟩;rw [<- ab] at ad
 have b5:Below w.heap.size w W5:=by rw [ab];exact P5.out.1.setCell (KY _) _
 have k5:W5.heap[w.heap.size]?=some (.cells #[.int .i64 X.cf.flows,.int .i64 X.cf.num,.int .i64 X.cf.den,.int .i64 X.cf.tries,.int .i64 X.cf.warm,.int .i64 X.cf.drain,.int .i64 X.cf.idle,.int .i64 X.cf.connect,.int .i64 X.cf.retries,.int .i64 X.cf.most,.int .i64 X.cf.bn,.int .i64 X.cf.bd,.int .i64 X.cf.bb,.int .i64 X.cf.ww,.int .i64 X.cf.wf,.int .i64 X.cf.wh,.int .i64 X.now,(.slice d0 X.tab.length J),(.slice d1 X.flows.length Z),(.slice d2 X.lives.length q2),(.slice d3 X.reqs.length q3),(.slice d4 X.ring.length q4),(.slice (some ⟨U,oh,none⟩) 12 cH),.int .i64 X.tok,.int .i64 X.wnow,(.slice (some ⟨Y,oq,none⟩) 25 cL)] 56 (0,0)):=by rw [ab];exact aR P5.out.2.1 _
 have y5:W5.heap[w.heap.size+1]?=some (.cells bS 56 (0,0)):=by rw [ab];exact aY P5.out.2.2.1 (by omega)
 have M5:=KL (show Kp N W4 W5 by rw [ab];exact (Kp.of_below P5.out.2.2.2).set (by omega) _ _);have L5:=KL (show Kp N w5 W5 by rw [ab];exact (Kp.refl N _).set (by omega) _ _);have Z5:=KL (show W5.heap.size=w5.heap.size by rw [ab];simp)
 have ca:N<=W5.heap.size:=by have:=b5.size;have:=lt_of_block y5;omega
 have bx:Below w.heap.size w wx:=by rw [ad];exact b5.alloc b5.size _
 have S0:=KL (show HcS w W5 #[.int .i64 X.cf.flows,.int .i64 X.cf.num,.int .i64 X.cf.den,.int .i64 X.cf.tries,.int .i64 X.cf.warm,.int .i64 X.cf.drain,.int .i64 X.cf.idle,.int .i64 X.cf.connect,.int .i64 X.cf.retries,.int .i64 X.cf.most,.int .i64 X.cf.bn,.int .i64 X.cf.bd,.int .i64 X.cf.bb,.int .i64 X.cf.ww,.int .i64 X.cf.wf,.int .i64 X.cf.wh,.int .i64 X.now,(.slice d0 X.tab.length J),(.slice d1 X.flows.length Z),(.slice d2 X.lives.length q2),(.slice d3 X.reqs.length q3),(.slice d4 X.ring.length q4),(.slice (some ⟨U,oh,none⟩) 12 cH),.int .i64 X.tok,.int .i64 X.wnow,(.slice (some ⟨Y,oq,none⟩) 25 cL)] X 0 [] wx from ⟨rfl,bx,by rw [ad];exact (heap_alloc_old _ _ (lt_of_block k5)).trans k5,by rw [ad];exact (heap_alloc_old _ _ (lt_of_block y5)).trans y5,by rw [ad];exact (Kp.refl _ _).alloc _,by rw [ad];simp,by rw [ad,hcpL_0];exact ry (by omega) (by rw [aB _ rfl,cf.out]) (by unfold maxLen;omega) (by rw [aP (lF 12),iv]),fun i hi=>by omega⟩);have cA:=Z1.out;have cC:=Z2.out;have cF:=Z3.out;have cK:=Z4.out;have ct:=P1.out.2.2.2.size;have cu:=L1.out.1;have cv:=M2.out.1;have cw:=M3.out.1;have cx:=M4.out.1
 have cd:=KL (show CpA N W5 X ({ V with t:=.slice d0 X.tab.length J,f:=.slice d1 X.flows.length Z,l:=.slice d2 X.lives.length q2,r:=.slice d3 X.reqs.length q3,s:=.slice d4 X.ring.length q4 }:Vs) from ⟨
  row_lo O0.out (by simp) (ld _) (by omega) ((((L1.out.trans M2.out).trans M3.out).trans M4.out).trans M5.out) (fun b K=>by have:=(O1.out.lt b K).1;omega),
  zq O2.out (by simp) (Bm _) (by omega) ((L3.out.trans M4.out).trans M5.out) (fun b K=>by have:=(O1.out.lt b K).2;omega),
  zq O3.out (by simp) (Bk _) (by omega) (L4.out.trans M5.out) (fun b K=>by have:=(O1.out.lt b K).2;omega),
  zq O4.out (by simp) (iu _) (by omega) L5.out (fun b K=>by have:=(O1.out.lt b K).2;omega),
  xD (oJ O1.out (((L2.out.trans M3.out).trans M4.out).trans M5.out) (by omega)) (by omega)⟩)
 clear cA cC cF cK ct cu cv cw cx;have bb:=KL ca;have HN:=KL hN;rw [<- Z5.out];clear ad ab b5 k5 y5 bx ca hN;go_loopw [44] (fun i wr=>∃ (E:Nat) (ms:List Value),E<=12/\i=.int .i64 E/\HcS w W5 #[.int .i64 X.cf.flows,.int .i64 X.cf.num,.int .i64 X.cf.den,.int .i64 X.cf.tries,.int .i64 X.cf.warm,.int .i64 X.cf.drain,.int .i64 X.cf.idle,.int .i64 X.cf.connect,.int .i64 X.cf.retries,.int .i64 X.cf.most,.int .i64 X.cf.bn,.int .i64 X.cf.bd,.int .i64 X.cf.bb,.int .i64 X.cf.ww,.int .i64 X.cf.wf,.int .i64 X.cf.wh,.int .i64 X.now,(.slice d0 X.tab.length J),(.slice d1 X.flows.length Z),(.slice d2 X.lives.length q2),(.slice d3 X.reqs.length q3),(.slice d4 X.ring.length q4),(.slice (some ⟨U,oh,none⟩) 12 cH),.int .i64 X.tok,.int .i64 X.wnow,(.slice (some ⟨Y,oq,none⟩) 25 cL)] X E ms wr) (fun i _=>12 - (intOf i).toNat)
 case atStart=>exact ⟨0,[],by omega,rfl,S0.out⟩
 case round=>
  obtain ⟨E,ms,hk,rfl,I⟩:=hrel;have HS:=KL I;have d5:=I.be.size;have cT:=I.lt;rcases (show E<12\/E=12 by omega) with a5|rfl
  ·have cr:(E:Int)<12:=by omega
   have cS:(0:Int)<=(E:Int):=by omega
   have a8:=(HW.out.below (I.be.mono (KY _))).ro.mr E (by rw [HM.out.h];exact a5);have bY:=HM.out.m E a5;have J:=(I.be.cell (p:=⟨U,oh+E*4+0,none⟩) bd).trans (ba.out E 0 a5 (by omega));have Z:=(I.be.cell (p:=⟨U,oh+E*4+1,none⟩) bd).trans (ba.out E 1 a5 (by omega));have q2:=(I.be.cell (p:=⟨U,oh+E*4+2,none⟩) bd).trans (ba.out E 2 a5 (by omega));have q3:=(I.be.cell (p:=⟨U,oh+E*4+3,none⟩) bd).trans (ba.out E 3 a5 (by omega));simp only [wD,Lb,Lc,Nat.add_zero] at J Z q2 q3;obtain ⟨H,hH⟩:∃ H,H=X.health.getD E Ht.zero:=⟨_,rfl⟩;obtain ⟨mv,aT⟩:∃ mv,mv=V.m.getD E undef:=⟨_,rfl⟩;rw [<- hH] at a8 bY Z q2 q3;rw [<- aT] at a8 J;obtain ⟨am,cm,rfl,_⟩:=ap a8.1;have HH:=KL hH;have bk:=KL a8.1;obtain ⟨M_,o_,u_,t_⟩:=H;simp only at bY Z q2 q3;clear I a8 hH aT;go_wp2_with fail;refine dA _ (fun wc c9=>?_);obtain ⟨ob,bt⟩:∃ ob:Obj,ob=.cells #[.slice am M_.length cm,.bool o_,.int .i64 u_,.int .i64 t_] 162 (0,0):=⟨_,rfl⟩;have ac:wc=wr.alloc ob:=by rw [c9,bt]
   refine (jz _ M_ wc (by rw [ac];exact ai bk.out _) (by omega)).mono ?_;rintro K w6 ⟨v6,rfl,o6,aS⟩;obtain ⟨a6,c6,rfl⟩:=gH o6;have bs:=HS.out.next (m':=.slice a6 M_.length c6) (n:=M_.length) a5 HM.out.h (by rw [<- HN.out];exact bb.out) ob (by rw [ac] at aS;exact aS) (by rw [ac,] at o6;rw [<- HH.out];exact o6) (by rw [<- HH.out];simp [cN]);rw [<- HH.out] at bs;have bm:=KL bs;have ar:=aj aS (show wc.heap[wr.heap.size]?=some (.cells #[.slice am M_.length cm,.bool o_,.int .i64 u_,.int .i64 t_] 162 (0,0)) by rw [ac,bt];exact aB _ rfl) (by rw [ac];simp);have x0:=ae ar 0;have x1:=ae ar 1;have x2:=ae ar 2;have x3:=ae ar 3;simp only [Le,Lc,Lb] at x0 x1 x2 x3;have xf:∀ n,w6.frozen? ⟨wr.heap.size,n,none⟩=false:=fun n=>az ar n;have xl:=lt_of_block ar
   have au:=aZ (w':=w6) HS.out.ow (fun b hb=>by
    simp only [Value.ownBlock,Option.some.injEq] at hb
    exact (aS.block b (by rw [ac];simp;omega)).trans (by rw [ac];exact KQ _ _ _ (by omega)))
   have xg:∀ n,w6.frozen? ⟨W5.heap.size,n,none⟩=false:=fun n=>au.frozenAt n;have br:(pV ms X.health 12 E).flatten.length=48:=by rw [aP (Gm _ _ _ _),yg HS.out.ml HM.out.h (by omega)]
   obtain ⟨z0,p0⟩:∃ z,w6.cell? ⟨W5.heap.size,E*4,none⟩=some z:=⟨_,(au.cellAt (E*4) (by omega)).trans (Lj (by omega))⟩;obtain ⟨z1,p1⟩:∃ z,w6.cell? ⟨W5.heap.size,E*4+1,none⟩=some z:=⟨_,(au.cellAt (E*4+1) (by omega)).trans (Lj (by omega))⟩;obtain ⟨z2,p2⟩:∃ z,w6.cell? ⟨W5.heap.size,E*4+2,none⟩=some z:=⟨_,(au.cellAt (E*4+2) (by omega)).trans (Lj (by omega))⟩;obtain ⟨z3,p3⟩:∃ z,w6.cell? ⟨W5.heap.size,E*4+3,none⟩=some z:=⟨_,(au.cellAt (E*4+3) (by omega)).trans (Lj (by omega))⟩;have l5:W5.heap.size<w6.heap.size:=by omega
   have ne:¬ W5.heap.size=wr.heap.size:=by omega
   have d7:¬ wr.heap.size=W5.heap.size:=by omega
   clear bs ar au br c9 ac aS o6 bt J Z q2 q3 bX;go_wp2;go_roundw
   case rel=>exact ⟨E+1,ms++[.slice a6 M_.length c6],by omega,by go_num,bm.out⟩
   case measure=>simp [intOf];omega
  ·have cp:¬ ((12:Nat):Int)<12:=by omega
   have bi:=ae I.c0 22;have bj:=ae I.c0 25;simp only [Le,Lc,Lb] at bi bj;have xf:∀ n,wr.frozen? ⟨w.heap.size,n,none⟩=false:=fun n=>az I.c0 n;have xl:=lt_of_block I.c0;clear I bX;go_wp2_with fail;refine qq _ (fun wy af=>?_);obtain ⟨W7,ao⟩:∃ W7,W7=wr.setCell ⟨w.heap.size,22,none⟩ (.slice (some ⟨W5.heap.size,0,none⟩) 12 12):=⟨_,rfl⟩;rw [<- ao] at af
   have z7:W7.heap.size=wr.heap.size:=by rw [ao];simp
   have b7:Below w.heap.size w W7:=by rw [ao];exact HS.out.be.setCell (KY _) _
   have k7:W7.heap[w.heap.size]?=some (.cells #[.int .i64 X.cf.flows,.int .i64 X.cf.num,.int .i64 X.cf.den,.int .i64 X.cf.tries,.int .i64 X.cf.warm,.int .i64 X.cf.drain,.int .i64 X.cf.idle,.int .i64 X.cf.connect,.int .i64 X.cf.retries,.int .i64 X.cf.most,.int .i64 X.cf.bn,.int .i64 X.cf.bd,.int .i64 X.cf.bb,.int .i64 X.cf.ww,.int .i64 X.cf.wf,.int .i64 X.cf.wh,.int .i64 X.now,(.slice d0 X.tab.length J),(.slice d1 X.flows.length Z),(.slice d2 X.lives.length q2),(.slice d3 X.reqs.length q3),(.slice d4 X.ring.length q4),(.slice (some ⟨W5.heap.size,0,none⟩) 12 12),.int .i64 X.tok,.int .i64 X.wnow,(.slice (some ⟨Y,oq,none⟩) 25 cL)] 56 (0,0)):=by rw [ao];exact aR HS.out.c0 _
   have y7:W7.heap[w.heap.size+1]?=some (.cells bS 56 (0,0)):=by rw [ao];exact aY HS.out.c1 (by omega)
   have M7:=KL (show Kp N wr W7 by rw [ao];exact (Kp.refl N _).set (by have:=HN.out;omega) _ _)
   have bT:Below w.heap.size w wy:=by rw [af];exact b7.alloc b7.size _
   have T0:=KL (show LcS w W7 #[.int .i64 X.cf.flows,.int .i64 X.cf.num,.int .i64 X.cf.den,.int .i64 X.cf.tries,.int .i64 X.cf.warm,.int .i64 X.cf.drain,.int .i64 X.cf.idle,.int .i64 X.cf.connect,.int .i64 X.cf.retries,.int .i64 X.cf.most,.int .i64 X.cf.bn,.int .i64 X.cf.bd,.int .i64 X.cf.bb,.int .i64 X.cf.ww,.int .i64 X.cf.wf,.int .i64 X.cf.wh,.int .i64 X.now,(.slice d0 X.tab.length J),(.slice d1 X.flows.length Z),(.slice d2 X.lives.length q2),(.slice d3 X.reqs.length q3),(.slice d4 X.ring.length q4),(.slice (some ⟨W5.heap.size,0,none⟩) 12 12),.int .i64 X.tok,.int .i64 X.wnow,(.slice (some ⟨Y,oq,none⟩) 25 cL)] X 0 [] wy from ⟨rfl,bT,by rw [af];exact (heap_alloc_old _ _ (lt_of_block k7)).trans k7,by rw [af];exact (heap_alloc_old _ _ (lt_of_block y7)).trans y7,by rw [af];exact (Kp.refl _ _).alloc _,by rw [af];simp,by rw [af];exact ry (by have:=HN.out;have:=bb.out;omega) (by rw [aB _ rfl,cg.out]) (by unfold maxLen;omega) (by rw [aP (vp _ _ _)];simp [pU]),fun i hi=>by omega⟩);have ck:=KL (show N<=W7.heap.size by have:=bb.out;omega);rw [<- z7];clear af ao b7 k7 y7 bT z7 bi bj xf xl;go_loopw [69] (fun i wr=>∃ (E:Nat) (vs:List Value),E<=25/\i=.int .i64 E/\LcS w W7 #[.int .i64 X.cf.flows,.int .i64 X.cf.num,.int .i64 X.cf.den,.int .i64 X.cf.tries,.int .i64 X.cf.warm,.int .i64 X.cf.drain,.int .i64 X.cf.idle,.int .i64 X.cf.connect,.int .i64 X.cf.retries,.int .i64 X.cf.most,.int .i64 X.cf.bn,.int .i64 X.cf.bd,.int .i64 X.cf.bb,.int .i64 X.cf.ww,.int .i64 X.cf.wf,.int .i64 X.cf.wh,.int .i64 X.now,(.slice d0 X.tab.length J),(.slice d1 X.flows.length Z),(.slice d2 X.lives.length q2),(.slice d3 X.reqs.length q3),(.slice d4 X.ring.length q4),(.slice (some ⟨W5.heap.size,0,none⟩) 12 12),.int .i64 X.tok,.int .i64 X.wnow,(.slice (some ⟨Y,oq,none⟩) 25 cL)] X E vs wr) (fun i _=>25 - (intOf i).toNat)
   case atStart=>exact ⟨0,[],by omega,rfl,T0.out⟩
   case round=>
    obtain ⟨E,vs,hk,rfl,I⟩:=hrel;have HT:=KL I;have d6:=I.be.size;have cY:=I.lt;rcases (show E<25\/E=25 by omega) with a5|rfl
    ·have cr:(E:Int)<25:=by omega
     have cS:(0:Int)<=(E:Int):=by omega
     have a8:=bI (HV.out.2 E (by rw [HM.out.w];exact a5)) I.be.size (fun b hb _=>I.be.block b hb);have cy:=HM.out.x E a5;have J:=(I.be.cell (p:=⟨Y,oq+E,none⟩) co).trans (ch.out E a5);obtain ⟨H,hH⟩:∃ H,H=X.lists.getD E []:=⟨_,rfl⟩;obtain ⟨mv,aT⟩:∃ mv,mv=VL.getD E undef:=⟨_,rfl⟩;rw [<- hH] at a8 cy;rw [<- aT] at a8 J;obtain ⟨am,cm,rfl,_⟩:=ap a8.1;have HH:=KL hH;have bk:=KL a8.1;clear I a8 hH aT;go_wp2_with fail;refine (vA _ H _ bk.out (by omega)).mono ?_;rintro K w7 ⟨v7,rfl,o7,bc⟩;obtain ⟨a7,c7,rfl⟩:=gH o7;have bm:=KL (HT.out.next (v':=.slice a7 H.length c7) (n:=H.length) a5 (by rw [<- HN.out];exact ck.out) bc (by rw [<- HH.out];exact o7) (by rw [<- HH.out];simp))
     have bw:=aZ (w':=w7) HT.out.ow (fun b hb=>by
      simp only [Value.ownBlock,Option.some.injEq] at hb
      exact bc.block b (by omega))
     have xg:∀ n,w7.frozen? ⟨W7.heap.size,n,none⟩=false:=fun n=>bw.frozenAt n;have br:(pU vs 25 E).flatten.length=25:=by rw [aP (vp _ _ _),rM HT.out.ml (by omega)]
     obtain ⟨z0,p0⟩:∃ z,w7.cell? ⟨W7.heap.size,E,none⟩=some z:=⟨_,(bw.cellAt E (by omega)).trans (Lj (by omega))⟩
     have l5:W7.heap.size<w7.heap.size:=by have:=bc.size;omega
     clear bw br bc o7 J c5;go_wp2;go_roundw
     case rel=>exact ⟨E+1,vs++[.slice a7 H.length c7],by omega,by go_num,bm.out⟩
     case measure=>simp [intOf];omega
    ·have cp:¬ ((25:Nat):Int)<25:=by omega
     have bj:=ae I.c0 25;simp only [Le,Lc,Lb] at bj;have xf:∀ n,wr.frozen? ⟨w.heap.size,n,none⟩=false:=fun n=>az I.c0 n;have xl:=lt_of_block I.c0;obtain ⟨Vz,a9⟩:∃ Vz:Vs,Vz={ ({ V with t:=.slice d0 X.tab.length J,f:=.slice d1 X.flows.length Z,l:=.slice d2 X.lives.length q2,r:=.slice d3 X.reqs.length q3,s:=.slice d4 X.ring.length q4 }:Vs) with h:=.slice (some ⟨W5.heap.size,0,none⟩) 12 12,m:=ms,w:=.slice (some ⟨W7.heap.size,0,none⟩) 25 25 }:=⟨_,rfl⟩
     have y8:(wr.setCell ⟨w.heap.size,25,none⟩ (.slice (some ⟨W7.heap.size,0,none⟩) 25 25)).heap[w.heap.size]?=some (.cells (dz X Vz).toArray 56 (0,0)):=by rw [a9];exact aR I.c0 _
     have y9:(wr.setCell ⟨w.heap.size,25,none⟩ (.slice (some ⟨W7.heap.size,0,none⟩) 25 25)).heap[w.heap.size+1]?=some (.cells bS 56 (0,0)):=aY I.c1 (by omega);have bz:Below w.heap.size w ((wr.setCell ⟨w.heap.size,25,none⟩ (.slice (some ⟨W7.heap.size,0,none⟩) 25 25)).setRow (w.heap.size+1) (dz X Vz).toArray):=aV (I.be.setCell (KY _) _) (by omega)
     have kz:Kp N wr ((wr.setCell ⟨w.heap.size,25,none⟩ (.slice (some ⟨W7.heap.size,0,none⟩) 25 25)).setRow (w.heap.size+1) (dz X Vz).toArray):=by
      have hn:=HN.out;refine ⟨by simp [World.setRow],fun b h1 h2=>?_⟩;rw [setRow_other _ _ _ _ (by omega)];exact KV _ _ _ _ (fun K:b=w.heap.size=>by omega)
     have cb:=Fb X (V:=Vz) (by rw [a9];rfl) (by rw [a9];rfl) (by rw [a9];rfl) (by rw [a9];rfl) (by rw [a9];rfl) (by rw [a9];rfl) (by rw [a9];rfl);have aa:=KL (And.intro bz (And.intro kz (And.intro y8 (And.intro y9 (And.intro cb a9)))));clear I c5 bz kz y8 y9 cb a9;go_wp2_with (first|(refine LO rfl 56 (.tmp 1) rfl w.heap.size rfl 56 (dz X Vz).toArray (0,0) _ aa.out.2.2.1 underlying56 rfl (by kernel_rfl) ?_)|(refine LP rfl 56 (.tmp 2) (.tmp 83) rfl (w.heap.size+1) (dz X Vz).toArray rfl rfl 56 bS aa.out.2.2.2.1 (by kernel_rfl) rfl aa.out.2.2.2.2.1 ?_));refine LN (v:=.agg (dz X Vz).toArray) ?_ rfl ?_
     ·exact mn results35 _ _ (w.heap.size+1) 56 (dz X Vz).toArray (0,0) _ rfl (bB aa.out.2.2.2.1) underlying56 rfl (by kernel_rfl)
     ·have hn:=HN.out;refine ⟨Vz,rfl,?_,aa.out.1,by have:=lt_of_block (bB (arr':=(dz X Vz).toArray) aa.out.2.2.2.1);omega⟩;have bW:=cd.out;have m7:=M7.out;have kz:=aa.out.2.1;have z5:=bb.out;rw [hn] at bW m7 kz z5;have hz:=CpZ.mk2 bW HS.out m7 HT.out kz z5 HM.out.h HM.out.w;rw [<- aa.out.2.2.2.2.2] at hz;exact hz
end
end Go.Proofs.YtennppmadmgfoaaGreatDoor
