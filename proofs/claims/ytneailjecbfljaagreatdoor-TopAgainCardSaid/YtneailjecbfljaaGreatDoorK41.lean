/- Texts of the row's proof. Conditions: none. -/
import Derived.Test.YtneailjecbfljaaGreatDoorK19
import Derived.Test.YtneailjecbfljaaGreatDoorK38
import Derived.Test.YtneailjecbfljaaGreatDoorK40
namespace Go.Proofs.YtneailjecbfljaaGreatDoor
set_option maxRecDepth 100000
set_option maxHeartbeats 8000000
section
open Go.RowKit
structure WA (w:World) (X:Wd) (V:Vs):Prop where
 ro:nO (fun _=>True) w X V
 fl:aI w 7 V.f (X.flows.map Fl.cells)
 he:aI w 4 V.h (eD X V)
theorem WA.below {w w':World} {X:Wd} {V:Vs} (h:WA w X V) (hb:Below w.heap.size w w'):WA w' X V:=
 ⟨dE h.ro hb.size (fun b hb' _=>hb.block b hb'),au h.fl hb,au h.he hb⟩
def Kp (N:Nat) (W W':World):Prop:=W.heap.size≤W'.heap.size∧∀ b,N≤b→b<W.heap.size→W'.heap[b]?=W.heap[b]?
theorem Kp.refl (N:Nat) (W:World):Kp N W W:=⟨Hz _,fun _ _ _=>rfl⟩
theorem Kp.trans {N:Nat} {a b c:World} (h:Kp N a b) (k:Kp N b c):Kp N a c:=⟨Il h.1 k.1,fun x h1 h2=>(k.2 x h1 (Nat.lt_of_lt_of_le h2 h.1)).trans (h.2 x h1 h2)⟩
theorem Kp.of_below {N:Nat} {W W':World} (h:Below W.heap.size W W'):Kp N W W':=⟨h.size,fun b _ hb=>h.block b hb⟩
theorem Kp.set {N p:Nat} {W W':World} (h:Kp N W W') (hp:p<N) (j:Nat) (u:Value):Kp N W (W'.setCell ⟨p,j,none⟩ u):=⟨by simpa using h.1,fun b h1 h2=>(Hy _ _ _ _ (fun e:b=p=>by omega)).trans (h.2 b h1 h2)⟩
theorem Kp.alloc {N:Nat} {W W':World} (h:Kp N W W') (o:Obj):Kp N W (W'.alloc o):=⟨by have:=h.1;simp;omega,fun b h1 h2=>(Hu _ _ _ (by have:=h.1;omega)).trans (h.2 b h1 h2)⟩
def Kn (N:Nat) (v:Value) (b:Nat):Prop:=N≤b∧v.ownBlock≠some b
structure CpA (N:Nat) (W:World) (X:Wd) (V:Vs):Prop where
 ta:dd (Kn N V.f) W 4 V.t (X.tab.map Sl.cells)
 li:dd (Kn N V.f) W 6 V.l (X.lives.map Lf.cells)
 re:dd (Kn N V.f) W 5 V.r (X.reqs.map Rq.cells)
 sp:dd (Kn N V.f) W 2 V.s (X.ring.map Sp.cells)
 of:W.ownsRow N 72 7 V.f X.flows.length (X.flows.map Fl.cells).flatten
theorem pi {N:Nat} {K:Nat→Prop} {W W':World} {sz:Nat} {v:Value} {L:List (List Value)} (h:dd K W sz v L) (k:Kp N W W') (hK:∀ b,K b→N≤b):dd K W' sz v L:=bF h k.1 (fun b h1 h2=>k.2 b (hK b h2) h1)
theorem nB {N B sz n:Nat} {W W':World} {t:TypeId} {v:Value} {cs:List Value} (h:W.ownsRow B t sz v n cs) (k:Kp N W W') (hN:N≤B):W'.ownsRow B t sz v n cs:=aX h (fun b e=>k.2 b (by have:=(h.lt b e).1;omega) (h.lt b e).2)
structure CpZ (N:Nat) (W:World) (X:Wd) (V:Vs):Prop where
 ro:nO (fun b=>N≤b∧V.f.ownBlock≠some b∧V.h.ownBlock≠some b) W X V
 of:W.ownsRow N 72 7 V.f X.flows.length (X.flows.map Fl.cells).flatten
 oh:W.ownsRow N 148 4 V.h X.health.length (eD X V).flatten
 ne:∀ b,V.f.ownBlock=some b→V.h.ownBlock≠some b
theorem CpZ.kp {N:Nat} {W W':World} {X:Wd} {V:Vs} (h:CpZ N W X V) (k:Kp N W W'):CpZ N W' X V:=
 ⟨dE h.ro k.1 (fun b h1 h2=>k.2 b h2.1 h1),nB h.of k (Hz _),nB h.oh k (Hz _),h.ne⟩
theorem jH {N:Nat} {W:World} {X:Wd} {V:Vs} (h:CpZ N W X V) (hN:N≤W.heap.size):∃ S,G N W.heap.size (W.alloc (.cells (ds X V++[Value.slice none 0 0]).toArray 119)) X [] S V (.slice none 0 0)∧∀ x∈S,N≤x:=by
 have k:Kp N W (W.alloc (.cells (ds X V++[Value.slice none 0 0]).toArray 119)):=(Kp.refl N W).alloc _;have h':=h.kp k;refine ⟨W.heap.size :: ((match V.f.ownBlock with|some b=>[b]|none=>[])++(match V.h.ownBlock with|some b=>[b]|none=>[])),?_,?_⟩
 ·refine { bk:=az _ rfl,ro:=?_,of:=h'.of,oh:=h'.oh,oo:=Iq _ _ _ _,pB:=hN,sp:=Ii ..,sB:=?_,sl:=?_,sf:=?_,sh:=?_,so:=fun b hb=>by simp [Value.ownBlock] at hb }
  ·refine dE (gR h.ro (fun b hb hk=>⟨fun hm=>?_,hk.1⟩)) k.1 (fun b hb _=>Hu _ _ _ hb);rcases List.mem_cons.1 hm with rfl|hm
   ·omega
   ·rcases List.mem_append.1 hm with hm|hm
    ·cases e:V.f.ownBlock with
     | none=>rw [e] at hm;simp at hm
     | some c=>rw [e] at hm;simp at hm;subst hm;exact hk.2.1 e
    ·cases e:V.h.ownBlock with
     | none=>rw [e] at hm;simp at hm
     | some c=>rw [e] at hm;simp at hm;subst hm;exact hk.2.2 e
  ·exact Q49
  ·intro x hx;have hz:W.heap.size<(W.alloc (.cells (ds X V++[Value.slice none 0 0]).toArray 119)).heap.size:=by simp
   rcases List.mem_cons.1 hx with rfl|hm
   ·exact hz
   ·rcases List.mem_append.1 hm with hm|hm
    ·cases e:V.f.ownBlock with
     | none=>rw [e] at hm;simp at hm
     | some c=>rw [e] at hm;simp at hm;subst hm;exact Nat.lt_trans (h.of.lt _ e).2 hz
    ·cases e:V.h.ownBlock with
     | none=>rw [e] at hm;simp at hm
     | some c=>rw [e] at hm;simp at hm;subst hm;exact Nat.lt_trans (h.oh.lt _ e).2 hz
  ·intro b e;exact ⟨by simp [e],by have:=(h.of.lt b e).2;omega⟩
  ·intro b e;exact ⟨by simp [e],by have:=(h.oh.lt b e).2;omega,fun g=>h.ne b g e⟩
 ·exact Q49
def oN (ms:List Value) (H:List Ht) (n k:Nat):List (List Value):=List.zipWith uD ms (H.take k)++iL (n - k)
theorem hcpL_0 (H:List Ht) (n:Nat):oN [] H n 0=iL n:=by simp [oN]
theorem vY {ms:List Value} {H:List Ht} {n k:Nat} (hm:ms.length=k) (hn:H.length=n) (hk:k≤n):(oN ms H n k).length=n:=by
 unfold oN;simp [ij];omega
theorem DF (ms:List Value) (H:List Ht) (n k:Nat):∀ c∈oN ms H n k,c.length=4:=by
 intro c hc;rcases List.mem_append.1 hc with hc|hc
 ·obtain ⟨i,hi,rfl⟩:=List.mem_iff_getElem.1 hc;simp [uD]
 ·exact kQ _ c hc
theorem Bi {ms:List Value} {H:List Ht} {n k:Nat} (hm:ms.length=k) (hn:H.length=n) (hk:k<n) (m:Value):(oN ms H n k).set k (uD m (H.getD k Ht.zero))=oN (ms++[m]) H n (k+1):=by
 have hkl:k<H.length:=by omega
 unfold oN
 have hz:(List.zipWith uD ms (H.take k)).length=k:=by simp;omega
 have e1:iL (n - k)=[.slice none 0 0,.bool false,.int .i64 0,.int .i64 0] :: iL (n - (k+1)):=by
  unfold iL;rw [show n - k=(n - (k+1))+1 by omega,List.replicate_succ]
 rw [e1,List.set_append_right k _ (by omega),hz,Nat.sub_self,List.set_cons_zero]
 have e2:H.take (k+1)=H.take k++[H.getD k Ht.zero]:=by
  rw [I6 hkl];simp [List.getD,hkl]
 rw [e2,List.zipWith_append (by simp;omega)];simp
theorem DE {X:Wd} {V:Vs} {n:Nat} (hn:X.health.length=n):oN V.m X.health n n=eD X V:=by
 unfold oN eD;rw [← hn,List.take_length];simp [iL]
def oM (vs:List Value) (n k:Nat):List (List Value):=vs.map (fun x=>[x])++List.replicate (n - k) [.slice none 0 0]
theorem tV (vs:List Value) (n k:Nat):∀ c∈oM vs n k,c.length=1:=by
 intro c hc;rcases List.mem_append.1 hc with hc|hc
 ·obtain ⟨x,_,rfl⟩:=Io.1 hc
  rfl
 ·rw [List.eq_of_mem_replicate hc]
  rfl
theorem qz {vs:List Value} {n k:Nat} (hv:vs.length=k) (hk:k≤n):(oM vs n k).length=n:=by unfold oM;simp;omega
theorem AG {vs:List Value} {n k:Nat} (hv:vs.length=k) (hk:k<n) (m:Value):(oM vs n k).flatten.set k m=(oM (vs++[m]) n (k+1)).flatten:=by
 unfold oM
 have e1:List.replicate (n - k) [Value.slice none 0 0]=[.slice none 0 0] :: List.replicate (n - (k+1)) [Value.slice none 0 0]:=by
  rw [show n - k=(n - (k+1))+1 by omega,List.replicate_succ]
 have e2:∀ vs:List Value,(vs.map fun x=>[x]).flatten=vs:=fun vs=>by induction vs with|nil=>rfl|cons a vs ih=>rw [List.map_cons,List.flatten_cons,ih];rfl
 rw [Ih,Ih,e1,e2,e2,List.set_append_right k _ (by omega),hv,Nat.sub_self];simp
structure HcS (w W5:World) (A:Array Value) (X:Wd) (k:Nat) (ms:List Value) (wr:World):Prop where
 ml:ms.length=k
 be:Below w.heap.size w wr
 c0:wr.heap[w.heap.size]?=some (.cells A 55 (0,0))
 c1:wr.heap[w.heap.size+1]?=some (.cells bP 55 (0,0))
 kp:Kp (w.heap.size+2) W5 wr
 lt:W5.heap.size<wr.heap.size
 ow:wr.ownsRow (w.heap.size+2) 148 4 (.slice (some ⟨W5.heap.size,0,none⟩) 12 12) 12 (oN ms X.health 12 k).flatten
 ro:∀ i,i<k→dd (fun b=>W5.heap.size<b) wr 1 (ms.getD i undef) (cG (X.health.getD i Ht.zero).marks)
theorem wj {ms:List Value} {m:Value} {i k:Nat} (hl:ms.length=k) (hi:i<k+1):(ms++[m]).getD i undef=if i<k then ms.getD i undef else m:=by
 by_cases h:i<k
 ·rw [if_pos h];simp only [List.getD];rw [Ix (by omega)]
 ·rw [if_neg h];simp only [List.getD];rw [Iy (by omega)];have:i - ms.length=0:=by omega
  rw [this]
  rfl
theorem Eb (M:List Bool):∀ c∈cG M,c.length=1:=by
 intro c hc;unfold cG at hc;obtain ⟨x,_,rfl⟩:=Io.1 hc
 rfl
theorem HcS.next {w W5 wr w6:World} {A:Array Value} {X:Wd} {k n:Nat} {ms:List Value} {m':Value} {BT:TypeId} (h:HcS w W5 A X k ms wr) (hk:k<12) (hX:X.health.length=12) (hN:w.heap.size+2≤W5.heap.size) (o:Obj)
  (hb6:Below (wr.alloc o).heap.size (wr.alloc o) w6) (own6:w6.ownsRow (wr.alloc o).heap.size BT 1 m' n (cG (X.health.getD k Ht.zero).marks).flatten) (hn:(cG (X.health.getD k Ht.zero).marks).length=n) :
  HcS w W5 A X (k+1) (ms++[m']) (((((w6.setCell ⟨wr.heap.size,0,none⟩ m').setCell ⟨W5.heap.size,k*4,none⟩ m').setCell ⟨W5.heap.size,k*4+1,none⟩ (.bool (X.health.getD k Ht.zero).out)).setCell ⟨W5.heap.size,k*4+2,none⟩ (.int .i64 (X.health.getD k Ht.zero).until_)).setCell ⟨W5.heap.size,k*4+3,none⟩ (.int .i64 (X.health.getD k Ht.zero).times)):=by
 have hlt:=h.lt
 have hws:=h.be.size
 have z1:(wr.alloc o).heap.size=wr.heap.size+1:=by simp
 have b6:Below w.heap.size w w6:=(h.be.alloc hws o).trans (hb6.mono (by omega))
 have s6:wr.heap.size+1≤w6.heap.size:=by have:=hb6.size;omega
 have k6:∀ b,b<wr.heap.size→w6.heap[b]?=wr.heap[b]?:=fun b hb=>(hb6.block b (by omega)).trans (Hu _ _ _ hb)
 generalize hW:(((((w6.setCell ⟨wr.heap.size,0,none⟩ m').setCell ⟨W5.heap.size,k*4,none⟩ m').setCell ⟨W5.heap.size,k*4+1,none⟩ (.bool (X.health.getD k Ht.zero).out)).setCell ⟨W5.heap.size,k*4+2,none⟩ (.int .i64 (X.health.getD k Ht.zero).until_)).setCell ⟨W5.heap.size,k*4+3,none⟩ (.int .i64 (X.health.getD k Ht.zero).times))=W
 have keep:∀ b,b≠W5.heap.size→b≠wr.heap.size→W.heap[b]?=w6.heap[b]?:=fun b h1 h2=>by
  rw [← hW,Hy _ _ _ _ h1,Hy _ _ _ _ h1,Hy _ _ _ _ h1,Hy _ _ _ _ h1,Hy _ _ _ _ h2]
 have hz:W.heap.size=w6.heap.size:=by rw [← hW];simp
 have keep2:∀ b,b<wr.heap.size→b≠W5.heap.size→W.heap[b]?=wr.heap[b]?:=fun b h1 h2=>(keep b h2 (by omega)).trans (k6 b h1)
 refine ⟨by simp [h.ml],?_,(keep2 _ (lt_of_block h.c0) (by omega)).trans h.c0,(keep2 _ (lt_of_block h.c1) (by omega)).trans h.c1,⟨by omega,fun b h1 h2=>(keep2 b (by omega) (by omega)).trans (h.kp.2 b h1 h2)⟩,by omega,?_,fun i hi=>?_⟩
 ·rw [← hW];have h5:w.heap.size≤W5.heap.size:=by omega
  exact ((((b6.setCell hws _).setCell h5 _).setCell h5 _).setCell h5 _).setCell h5 _
 ·have e:=aX (w':=w6.setCell ⟨wr.heap.size,0,none⟩ m') h.ow (fun b hb=>by
   simp only [Value.ownBlock,Option.some.injEq] at hb
   rw [Hy _ _ _ _ (fun e:b=wr.heap.size=>by omega)];exact k6 b (by omega))
  have e4:=(((e.stored (k*4) m').1.stored (k*4+1) (.bool (X.health.getD k Ht.zero).out)).1.stored (k*4+2) (.int .i64 (X.health.getD k Ht.zero).until_)).1.stored (k*4+3) (.int .i64 (X.health.getD k Ht.zero).times);rw [sF (DF _ _ _ _) (by rw [vY h.ml hX (by omega)];exact hk)] at e4;rw [hW] at e4;rw [← Bi h.ml hX hk m'];exact e4.1
 ·rw [wj h.ml hi];by_cases hik:i<k
  ·exact Q150
  ·rw [if_neg hik];have:i=k:=by omega
   subst this;have r:=ep (aD own6 hn (Eb _));exact bF (bQ (K':=fun b=>wr.heap.size+1≤b) r (fun b _ hb=>by omega)) (by omega) (fun b h1 h2=>keep b (by omega) (by omega)) |> fun q=>bQ q (fun b _ hb=>by omega)
structure LcS (w W6:World) (A:Array Value) (X:Wd) (k:Nat) (vs:List Value) (wr:World):Prop where
 ml:vs.length=k
 be:Below w.heap.size w wr
 c0:wr.heap[w.heap.size]?=some (.cells A 55 (0,0))
 c1:wr.heap[w.heap.size+1]?=some (.cells bP 55 (0,0))
 kp:Kp (w.heap.size+2) W6 wr
 lt:W6.heap.size<wr.heap.size
 ow:wr.ownsRow (w.heap.size+2) 173 1 (.slice (some ⟨W6.heap.size,0,none⟩) 25 25) 25 (oM vs 25 k).flatten
 ro:∀ i,i<k→dd (fun b=>W6.heap.size<b) wr 2 (vs.getD i undef) ((X.lists.getD i []).map Tm.cells)
theorem LcS.next {w W6 wr w7:World} {A:Array Value} {X:Wd} {k n:Nat} {vs:List Value} {v':Value} {BT:TypeId} (h:LcS w W6 A X k vs wr) (hk:k<25) (hN:w.heap.size+2≤W6.heap.size)
  (hb7:Below wr.heap.size wr w7) (own7:w7.ownsRow wr.heap.size BT 2 v' n ((X.lists.getD k []).map Tm.cells).flatten) (hn:((X.lists.getD k []).map Tm.cells).length=n) :
  LcS w W6 A X (k+1) (vs++[v']) (w7.setCell ⟨W6.heap.size,k,none⟩ v'):=by
 have hlt:=h.lt
 have hws:=h.be.size
 have b7:Below w.heap.size w w7:=h.be.trans (hb7.mono hws)
 have s7:=hb7.size
 have keep:∀ b,b≠W6.heap.size→(w7.setCell ⟨W6.heap.size,k,none⟩ v').heap[b]?=w7.heap[b]?:=fun b h1=>Hy _ _ _ _ h1
 have hz:(w7.setCell ⟨W6.heap.size,k,none⟩ v').heap.size=w7.heap.size:=by simp
 have keep2:∀ b,b<wr.heap.size→b≠W6.heap.size→(w7.setCell ⟨W6.heap.size,k,none⟩ v').heap[b]?=wr.heap[b]?:=fun b h1 h2=>(keep b h2).trans (hb7.block b h1)
 refine ⟨by simp [h.ml],b7.setCell (show w.heap.size≤W6.heap.size by omega) _,(keep2 _ (lt_of_block h.c0) (by omega)).trans h.c0,(keep2 _ (lt_of_block h.c1) (by omega)).trans h.c1,⟨by omega,fun b h1 h2=>(keep2 b (by omega) (by omega)).trans (h.kp.2 b h1 h2)⟩,by omega,?_,fun i hi=>?_⟩
 ·have e:=aX (w':=w7) h.ow (fun b hb=>by
   simp only [Value.ownBlock,Option.some.injEq] at hb
   exact hb7.block b (by omega))
  have e4:=e.stored k v';rw [AG h.ml hk v'] at e4;exact e4.1
 ·rw [wj h.ml hi];by_cases hik:i<k
  ·exact Q150
  ·rw [if_neg hik];have:i=k:=by omega
   subst this;have r:=ep (aD own7 hn (by intro c hc;obtain ⟨x,_,rfl⟩:=Io.1 hc;rfl));exact bF (bQ (K':=fun b=>wr.heap.size≤b) r (fun b _ hb=>by omega)) (by omega) (fun b h1 h2=>keep b (by omega)) |> fun q=>bQ q (fun b _ hb=>by omega)
theorem CpZ.mk2 {w W5 W6 W7 W8 Wz:World} {A1 A2:Array Value} {X:Wd} {V:Vs} {ms vs:List Value} (hA:CpA (w.heap.size+2) W5 X V) (hH:HcS w W5 A1 X 12 ms W6) (k6:Kp (w.heap.size+2) W6 W7) (hL:LcS w W7 A2 X 25 vs W8) (kz:Kp (w.heap.size+2) W8 Wz)
  (hN:w.heap.size+2≤W5.heap.size) (hX:X.health.length=12) (hY:X.lists.length=25) :
  CpZ (w.heap.size+2) Wz X { V with h:=.slice (some ⟨W5.heap.size,0,none⟩) 12 12,m:=ms,w:=.slice (some ⟨W7.heap.size,0,none⟩) 25 25 }:=by
 have l5:=hH.lt
 have l7:=hL.lt
 have s67:=k6.1
 have k5z:Kp (w.heap.size+2) W5 Wz:=((hH.kp.trans k6).trans hL.kp).trans kz
 have k6z:Kp (w.heap.size+2) W6 Wz:=(k6.trans hL.kp).trans kz
 have hf:∀ b,V.f.ownBlock=some b→b<W5.heap.size:=fun b e=>(hA.of.lt b e).2
 have up:∀ {sz:Nat} {v:Value} {L:List (List Value)},dd (Kn (w.heap.size+2) V.f) W5 sz v L→dd (fun b=>w.heap.size+2≤b∧V.f.ownBlock≠some b∧(Value.slice (some ⟨W5.heap.size,0,none⟩) 12 12).ownBlock≠some b) Wz sz v L:=by
  intro sz v L r;refine pi (bQ r (fun b hb hk=>⟨hk.1,hk.2,fun e=>?_⟩)) k5z (fun b h=>h.1);simp only [Value.ownBlock,Option.some.injEq] at e;omega
 have wide:∀ {W:World} {sz:Nat} {v:Value} {L:List (List Value)} {n:Nat},W5.heap.size≤n→dd (fun b=>n<b) W sz v L→dd (fun b=>w.heap.size+2≤b∧V.f.ownBlock≠some b∧(Value.slice (some ⟨W5.heap.size,0,none⟩) 12 12).ownBlock≠some b) W sz v L:=by
  intro W sz v L n hn r;refine bQ r (fun b _ hk=>⟨by omega,fun e=>?_,fun e=>?_⟩)
  ·have:=hf b e;omega
  ·simp only [Value.ownBlock,Option.some.injEq] at e;omega
 refine ⟨⟨up hA.ta,up hA.li,up hA.re,up hA.sp,?_,by simp only [hH.ml,hX],fun i hi=>?_⟩,nB hA.of k5z (Hz _),?_,fun b e g=>?_⟩
 ·refine ⟨vs,by rw [hL.ml,hY],?_,fun i hi=>?_⟩
  ·have r:=aD hL.ow (qz hL.ml (Hz _)) (tV _ _ _);have e:oM vs 25 25=vs.map fun x=>[x]:=by simp [oM]
   rw [e] at r
   have rz:aM (w.heap.size+2) Wz 1 (.slice (some ⟨W7.heap.size,0,none⟩) 25 25) (vs.map fun x=>[x]):=by
    have:=aD (nB hL.ow kz (Hz _)) (qz hL.ml (Hz _)) (tV _ _ _);rw [e] at this;exact this
   refine ⟨rz.1,fun b o n c e2 _=>?_⟩;injection e2 with e3 _ _;injection e3 with e3;injection e3 with e3 _;subst e3;refine ⟨by omega,fun e=>?_,fun e=>?_⟩
   ·have:=hf _ e;omega
   ·simp only [Value.ownBlock,Option.some.injEq] at e;omega
  ·rw [hY] at hi;have r:=wide (by omega) (hL.ro i hi);exact pi r kz (fun b h=>h.1)
 ·rw [hX] at hi;exact pi (wide (Hz _) (hH.ro i hi)) k6z (fun b h=>h.1)
 ·have e:=nB hH.ow k6z (Hz _);rw [hX];have e2:=DE (X:=X) (V:={ V with h:=.slice (some ⟨W5.heap.size,0,none⟩) 12 12,m:=ms,w:=.slice (some ⟨W7.heap.size,0,none⟩) 25 25 }) hX;rw [← e2];exact e
 ·simp only [Value.ownBlock,Option.some.injEq] at g;have:=hf b e;omega
structure Ho (X:Wd):Prop where
 t:X.tab.length≤1000
 f:X.flows.length≤1000
 l:X.lives.length≤1000
 r:X.reqs.length≤1000
 s:X.ring.length≤1000
 h:X.health.length=12
 m:∀ i,i<12→(X.health.getD i Ht.zero).marks.length≤1000
 w:X.lists.length=25
 x:∀ i,i<25→(X.lists.getD i []).length≤1000
def CpPost (w:World) (X:Wd) (e:Ending) (w':World):Prop:=∃ V',e=.returned (.agg (ds X V').toArray)∧CpZ (w.heap.size+2) w' X V'∧Below w.heap.size w w'∧w.heap.size+2≤w'.heap.size
theorem wdA (X:Wd) (V:Vs):(ds X V).toArray=#[.int .i64 X.cf.flows,.int .i64 X.cf.num,.int .i64 X.cf.den,.int .i64 X.cf.tries,.int .i64 X.cf.warm,.int .i64 X.cf.drain,.int .i64 X.cf.idle,.int .i64 X.cf.connect,.int .i64 X.cf.retries,.int .i64 X.cf.most,.int .i64 X.cf.bn,.int .i64 X.cf.bd,.int .i64 X.cf.bb,.int .i64 X.cf.ww,.int .i64 X.cf.wf,.int .i64 X.cf.wh,.int .i64 X.now,V.t,V.f,V.l,V.r,V.s,V.h,.int .i64 X.tok,.int .i64 X.wnow,V.w]:=rfl
theorem dt {P:Program} {F:Nat} {args:Array Value} {Q:Ending→World→Prop} (w:World) (h:∀ w',w'=w→Calls P F args w' Q):Calls P F args w Q:=h w rfl
theorem gv {w:World} {B T sz n:Nat} {v:Value} {cs:List Value} (h:w.ownsRow B T sz v n cs):∃ a c,v=.slice a n c:=by
 obtain ⟨a,c,e,_⟩:=aC h;exact ⟨a,c,e⟩
theorem lK {P:Program} {fn:Func} {p:Tmp} {ty:TypeId} (h:fn.results=#[.cell p ty]) (tmps:Array Value) (w:World) (g:Nat) (t:TypeId) (cs:Array Value) (fr:Nat×Nat) (d:TypeDesc)
  (hp:tmps.getD p undef=.pointer (some ⟨g,0,none⟩)) (hg:w.heap[g]?=some (.cells cs t fr))
  (hu:P.underlying ty=some d) (hd:(match d with|.struct _|.array _ _=>true|_=>false)=true) (hi:(P.info? ty).map (·.size)=some cs.size) :
  (results fn tmps).run P w=.ok (.agg cs) w:=by
 have hp':tmps[p]?.getD undef=.pointer (some ⟨g,0,none⟩):=by simpa using hp
 simp [results,h,hp',asAddr,run_loadVar_row w g t ty cs fr d hg hu hd hi]
theorem CN (X:Wd) {V:Vs} (h1:V.t.oneCell'=true) (h2:V.f.oneCell'=true) (h3:V.l.oneCell'=true) (h4:V.r.oneCell'=true) (h5:V.s.oneCell'=true) (h6:V.h.oneCell'=true) (h7:V.w.oneCell'=true):(ds X V).toArray.all (·.oneCell')=true:=by
 rw [wdA];simp [h1,h2,h3,h4,h5,h6,h7]
 repeat' (first|rfl|apply And.intro)
theorem vw {w:World} {B B' sz n:Nat} {t:TypeId} {v:Value} {cs:List Value} (h:w.ownsRow B t sz v n cs) (hB:B'≤B):w.ownsRow B' t sz v n cs:=by
 obtain ⟨h1,h2|⟨g,cap,cur,rfl,h4,h5,h6⟩⟩:=h
 ·exact ⟨h1,Or.inl h2⟩
 ·exact ⟨h1,Or.inr ⟨g,cap,cur,rfl,Il hB h4,h5,h6⟩⟩
theorem row_lo {N B sz n:Nat} {w W:World} {t:TypeId} {v f:Value} {L:List (List Value)} (h:w.ownsRow B t sz v n L.flatten) (hn:L.length=n) (hl:∀ c∈L,c.length=sz) (hN:N≤B) (k:Kp N w W) (hf:∀ b,f.ownBlock=some b→w.heap.size≤b):dd (Kn N f) W sz v L:=by
 exact Q109
theorem xK {N B sz n:Nat} {w W:World} {t:TypeId} {v f:Value} {L:List (List Value)} (h:w.ownsRow B t sz v n L.flatten) (hn:L.length=n) (hl:∀ c∈L,c.length=sz) (hN:N≤B) (k:Kp N w W) (hf:∀ b,f.ownBlock=some b→b<B):dd (Kn N f) W sz v L:=by
 exact Q109
theorem DA {w:World} {X:Wd} {V:Vs} {a:Option Addr} {c:Nat} (r:aI w 4 (.slice a 12 c) (eD X V)) (hl:V.m.length=X.health.length) (h:X.health.length=12):∃ bh oh,a=some ⟨bh,oh,none⟩∧bh<w.heap.size∧∀ i j,i<12→j<4→w.cell? ⟨bh,oh+i*4+j,none⟩=(uD (V.m.getD i undef) (X.health.getD i Ht.zero))[j]?:=by
 have hn:=ej hl;obtain ⟨a',c',e,_,_,_,h4⟩:=r;obtain ⟨b',o',e2,hb,h6⟩:=h4 (by intro e;rw [e] at hn;simp at hn;omega);injection e with e _ _;refine ⟨b',o',e.trans e2,hb,fun i j hi hj=>?_⟩;have:=h6 i j (by omega) hj;rw [kP hl (by omega)] at this;exact this
theorem lrow25 {w:World} {L:List Value} {a:Option Addr} {c:Nat} (r:aI w 1 (.slice a 25 c) (L.map fun x=>[x])) (h:L.length=25):∃ b o,a=some ⟨b,o,none⟩∧b<w.heap.size∧∀ i,i<25→w.cell? ⟨b,o+i,none⟩=some (L.getD i undef):=by
 obtain ⟨a',c',e,_,_,_,p⟩:=aK undef r;obtain ⟨b',o',e2,hb,h6⟩:=p (by intro e;rw [e] at h;simp at h);injection e with e _ _;refine ⟨b',o',e.trans e2,hb,fun i hi=>?_⟩;have:=h6 i 0 (by omega) (by omega);simpa using this
theorem oa {w:World} {X:Wd} {V:Vs} (h:WA w X V) (hm:Ho X):Calls Tryz.prog 30 #[.agg (ds X V).toArray] w (CpPost w X):=by
 have HW:=Hp h;have HM:=Hp hm
 obtain ⟨aH,cH,eH⟩:∃ a c,V.h=.slice a (eD X V).length c:=by obtain ⟨a,c,e,_⟩:=h.he;exact ⟨a,c,e⟩
 rw [ej h.ro.ml,hm.h] at eH;obtain ⟨VL,hv1,hv2,hv3⟩:=h.ro.wh;obtain ⟨aL,cL,eL,_⟩:=aq hv2.1;rw [hv1,hm.w] at eL;obtain ⟨a0,c0,e0,_⟩:=aq (h.ro.ta.1);obtain ⟨a1,c1,e1,_⟩:=aq (h.fl);obtain ⟨a2,c2,e2,_⟩:=aq (h.ro.li.1);obtain ⟨a3,c3,e3,_⟩:=aq (h.ro.re.1);obtain ⟨a4,c4,e4,_⟩:=aq (h.ro.sp.1);have R0:=Hp (show aI w 4 (.slice a0 X.tab.length c0) (X.tab.map Sl.cells) by have:=h.ro.ta.1;rw [e0] at this;exact this);have R1:=Hp (show aI w 7 (.slice a1 X.flows.length c1) (X.flows.map Fl.cells) by have:=h.fl;rw [e1] at this;exact this);have R2:=Hp (show aI w 6 (.slice a2 X.lives.length c2) (X.lives.map Lf.cells) by have:=h.ro.li.1;rw [e2] at this;exact this);have R3:=Hp (show aI w 5 (.slice a3 X.reqs.length c3) (X.reqs.map Rq.cells) by have:=h.ro.re.1;rw [e3] at this;exact this);have R4:=Hp (show aI w 2 (.slice a4 X.ring.length c4) (X.ring.map Sp.cells) by have:=h.ro.sp.1;rw [e4] at this;exact this);have RH:=Hp (show aI w 4 (.slice aH 12 cH) (eD X V) by have:=h.he;rw [eH] at this;exact this);have RL:=Hp (show aI w 1 (.slice aL 25 cL) (VL.map fun x=>[x]) by have:=hv2.1;rw [eL] at this;exact this);have HV:=Hp (And.intro hv1 hv3);obtain ⟨N,hN⟩:∃ N,N=w.heap.size+2:=⟨_,rfl⟩;rw [wdA,eH,eL,e0,e1,e2,e3,e4];clear h hm hv1 hv2 hv3 e0 e1 e2 e3 e4 eH eL;obtain ⟨HZ,hHZ⟩:∃ HZ,HZ=(iL 12).flatten.toArray:=⟨_,rfl⟩
 have hmk:∀ W,(Instr.makeSlice 48 (.int .i64 12) (.int .i64 12)).run Tryz.prog W=.ok (.slice (some ⟨W.heap.size,0,none⟩) 12 12) (W.alloc (.cells HZ 148)):=by
  intro W;subst hHZ
  kernel_rfl
 have HHZ:=Hp hHZ;obtain ⟨LZ,hLZ⟩:∃ LZ,LZ=(oM [] 25 0).flatten.toArray:=⟨_,rfl⟩
 have hmk2:∀ W,(Instr.makeSlice 51 (.int .i64 25) (.int .i64 25)).run Tryz.prog W=.ok (.slice (some ⟨W.heap.size,0,none⟩) 25 25) (W.alloc (.cells LZ 173)):=by
  intro W;subst hLZ
  kernel_rfl
 have HLZ:=Hp hLZ;clear hHZ hLZ;obtain ⟨bh,oh,hbh,hbhl,RHc⟩:∃ bh oh,aH=some ⟨bh,oh,none⟩∧bh<w.heap.size∧∀ i j,i<12→j<4→w.cell? ⟨bh,oh+i*4+j,none⟩=(uD (V.m.getD i undef) (X.health.getD i Ht.zero))[j]?:=DA RH.out HW.out.ro.ml HM.out.h;obtain ⟨bq,oq,hbq,hbql,RLc⟩:∃ bq oq,aL=some ⟨bq,oq,none⟩∧bq<w.heap.size∧∀ i,i<25→w.cell? ⟨bq,oq+i,none⟩=some (VL.getD i undef):=lrow25 RL.out (by rw [HV.out.1,HM.out.w]);subst hbh hbq;have HRc:=Hp RHc;have HLc:=Hp RLc;clear RHc RLc;go_enter Tryz.func30,Tryz.ntmps30;go_wp2_with fail;have zk:w.heap.size<w.heap.size+1:=Nat.lt_succ_self _;refine dt _ (fun W0 hW0=>?_)
 have b0:Below w.heap.size w W0:=by rw [hW0];exact ((Hq _ _).alloc (Hz _) _).alloc (by simp) _
 have k0:W0.heap[w.heap.size]?=some (.cells #[.int .i64 X.cf.flows,.int .i64 X.cf.num,.int .i64 X.cf.den,.int .i64 X.cf.tries,.int .i64 X.cf.warm,.int .i64 X.cf.drain,.int .i64 X.cf.idle,.int .i64 X.cf.connect,.int .i64 X.cf.retries,.int .i64 X.cf.most,.int .i64 X.cf.bn,.int .i64 X.cf.bd,.int .i64 X.cf.bb,.int .i64 X.cf.ww,.int .i64 X.cf.wf,.int .i64 X.cf.wh,.int .i64 X.now,(.slice a0 X.tab.length c0),(.slice a1 X.flows.length c1),(.slice a2 X.lives.length c2),(.slice a3 X.reqs.length c3),(.slice a4 X.ring.length c4),(.slice (some ⟨bh,oh,none⟩) 12 cH),.int .i64 X.tok,.int .i64 X.wnow,(.slice (some ⟨bq,oq,none⟩) 25 cL)] 55 (0,0)):=by rw [hW0];exact (heap_alloc_old _ _ (by simp)).trans (az _ rfl)
 have y0:W0.heap[w.heap.size+1]?=some (.cells bP 55 (0,0)):=by rw [hW0];exact az _ (by simp)
 have z0:W0.heap.size=N:=by rw [hW0,hN];simp
 clear hW0;refine (zG _ X.tab W0 (au R0.out b0) (by have:=HM.out.t;omega)).mono ?_;rintro e w1 ⟨v1,rfl,o0,hb1⟩;obtain ⟨d0,q0,rfl⟩:=gv o0;have O0:=Hp o0;have g1:Below w.heap.size w w1:=b0.trans (hb1.mono b0.size);have k1:=aj hb1 k0 (lt_of_block k0);have y1:=aj hb1 y0 (lt_of_block y0);have P1:=Hp (And.intro g1 (And.intro k1 (And.intro y1 hb1)));have x17:=ae k1 17;have x18:=ae k1 18;simp only [I3,I2,I1] at x17 x18;have xf:∀ n,w1.frozen? ⟨w.heap.size,n,none⟩=false:=fun n=>ap k1 n;have xl:=lt_of_block k1;clear g1 k1 y1 hb1 o0 k0 y0;go_wp2_with fail;refine dt _ (fun W1 hW1=>?_)
 have b1:Below w.heap.size w W1:=by rw [hW1];exact P1.out.1.setCell (Hz _) _
 have k1:W1.heap[w.heap.size]?=some (.cells #[.int .i64 X.cf.flows,.int .i64 X.cf.num,.int .i64 X.cf.den,.int .i64 X.cf.tries,.int .i64 X.cf.warm,.int .i64 X.cf.drain,.int .i64 X.cf.idle,.int .i64 X.cf.connect,.int .i64 X.cf.retries,.int .i64 X.cf.most,.int .i64 X.cf.bn,.int .i64 X.cf.bd,.int .i64 X.cf.bb,.int .i64 X.cf.ww,.int .i64 X.cf.wf,.int .i64 X.cf.wh,.int .i64 X.now,(.slice d0 X.tab.length q0),(.slice a1 X.flows.length c1),(.slice a2 X.lives.length c2),(.slice a3 X.reqs.length c3),(.slice a4 X.ring.length c4),(.slice (some ⟨bh,oh,none⟩) 12 cH),.int .i64 X.tok,.int .i64 X.wnow,(.slice (some ⟨bq,oq,none⟩) 25 cL)] 55 (0,0)):=by rw [hW1];exact aP P1.out.2.1 _
 have y1:W1.heap[w.heap.size+1]?=some (.cells bP 55 (0,0)):=by rw [hW1];exact aU P1.out.2.2.1 (by omega)
 have M1:=Hp (show Kp N W0 W1 by rw [hW1];exact (Kp.of_below P1.out.2.2.2).set (by omega) _ _);have Z1:=Hp (show W1.heap.size=w1.heap.size by rw [hW1];simp);have L1:=Hp (show Kp N w1 W1 by rw [hW1];exact (Kp.refl N _).set (by omega) _ _);clear hW1 x17 x18 xf xl;refine (Gm _ X.flows W1 (au R1.out b1) (by have:=HM.out.f;omega)).mono ?_;rintro e w2 ⟨v2,rfl,o1,hb2⟩;obtain ⟨d1,q1,rfl⟩:=gv o1;have O1:=Hp o1;have g2:Below w.heap.size w w2:=b1.trans (hb2.mono b1.size);have k2:=aj hb2 k1 (lt_of_block k1);have y2:=aj hb2 y1 (lt_of_block y1);have P2:=Hp (And.intro g2 (And.intro k2 (And.intro y2 hb2)));have x18:=ae k2 18;have x19:=ae k2 19;simp only [I3,I2,I1] at x18 x19;have xf:∀ n,w2.frozen? ⟨w.heap.size,n,none⟩=false:=fun n=>ap k2 n;have xl:=lt_of_block k2;clear g2 k2 y2 hb2 o1 k1 y1;go_wp2_with fail;refine dt _ (fun W2 hW2=>?_)
 have b2:Below w.heap.size w W2:=by rw [hW2];exact P2.out.1.setCell (Hz _) _
 have k2:W2.heap[w.heap.size]?=some (.cells #[.int .i64 X.cf.flows,.int .i64 X.cf.num,.int .i64 X.cf.den,.int .i64 X.cf.tries,.int .i64 X.cf.warm,.int .i64 X.cf.drain,.int .i64 X.cf.idle,.int .i64 X.cf.connect,.int .i64 X.cf.retries,.int .i64 X.cf.most,.int .i64 X.cf.bn,.int .i64 X.cf.bd,.int .i64 X.cf.bb,.int .i64 X.cf.ww,.int .i64 X.cf.wf,.int .i64 X.cf.wh,.int .i64 X.now,(.slice d0 X.tab.length q0),(.slice d1 X.flows.length q1),(.slice a2 X.lives.length c2),(.slice a3 X.reqs.length c3),(.slice a4 X.ring.length c4),(.slice (some ⟨bh,oh,none⟩) 12 cH),.int .i64 X.tok,.int .i64 X.wnow,(.slice (some ⟨bq,oq,none⟩) 25 cL)] 55 (0,0)):=by rw [hW2];exact aP P2.out.2.1 _
 have y2:W2.heap[w.heap.size+1]?=some (.cells bP 55 (0,0)):=by rw [hW2];exact aU P2.out.2.2.1 (by omega)
 have M2:=Hp (show Kp N W1 W2 by rw [hW2];exact (Kp.of_below P2.out.2.2.2).set (by omega) _ _);have Z2:=Hp (show W2.heap.size=w2.heap.size by rw [hW2];simp);have L2:=Hp (show Kp N w2 W2 by rw [hW2];exact (Kp.refl N _).set (by omega) _ _);clear hW2 x18 x19 xf xl;refine (ug _ X.lives W2 (au R2.out b2) (by have:=HM.out.l;omega)).mono ?_;rintro e w3 ⟨v3,rfl,o2,hb3⟩;obtain ⟨d2,q2,rfl⟩:=gv o2;have O2:=Hp o2;have g3:Below w.heap.size w w3:=b2.trans (hb3.mono b2.size);have k3:=aj hb3 k2 (lt_of_block k2);have y3:=aj hb3 y2 (lt_of_block y2);have P3:=Hp (And.intro g3 (And.intro k3 (And.intro y3 hb3)));have x19:=ae k3 19;have x20:=ae k3 20;simp only [I3,I2,I1] at x19 x20;have xf:∀ n,w3.frozen? ⟨w.heap.size,n,none⟩=false:=fun n=>ap k3 n;have xl:=lt_of_block k3;clear g3 k3 y3 hb3 o2 k2 y2;go_wp2_with fail;refine dt _ (fun W3 hW3=>?_)
 have b3:Below w.heap.size w W3:=by rw [hW3];exact P3.out.1.setCell (Hz _) _
 have k3:W3.heap[w.heap.size]?=some (.cells #[.int .i64 X.cf.flows,.int .i64 X.cf.num,.int .i64 X.cf.den,.int .i64 X.cf.tries,.int .i64 X.cf.warm,.int .i64 X.cf.drain,.int .i64 X.cf.idle,.int .i64 X.cf.connect,.int .i64 X.cf.retries,.int .i64 X.cf.most,.int .i64 X.cf.bn,.int .i64 X.cf.bd,.int .i64 X.cf.bb,.int .i64 X.cf.ww,.int .i64 X.cf.wf,.int .i64 X.cf.wh,.int .i64 X.now,(.slice d0 X.tab.length q0),(.slice d1 X.flows.length q1),(.slice d2 X.lives.length q2),(.slice a3 X.reqs.length c3),(.slice a4 X.ring.length c4),(.slice (some ⟨bh,oh,none⟩) 12 cH),.int .i64 X.tok,.int .i64 X.wnow,(.slice (some ⟨bq,oq,none⟩) 25 cL)] 55 (0,0)):=by rw [hW3];exact aP P3.out.2.1 _
 have y3:W3.heap[w.heap.size+1]?=some (.cells bP 55 (0,0)):=by rw [hW3];exact aU P3.out.2.2.1 (by omega)
 have M3:=Hp (show Kp N W2 W3 by rw [hW3];exact (Kp.of_below P3.out.2.2.2).set (by omega) _ _);have Z3:=Hp (show W3.heap.size=w3.heap.size by rw [hW3];simp);have L3:=Hp (show Kp N w3 W3 by rw [hW3];exact (Kp.refl N _).set (by omega) _ _);clear hW3 x19 x20 xf xl;refine (ue _ X.reqs W3 (au R3.out b3) (by have:=HM.out.r;omega)).mono ?_;rintro e w4 ⟨v4,rfl,o3,hb4⟩;obtain ⟨d3,q3,rfl⟩:=gv o3;have O3:=Hp o3;have g4:Below w.heap.size w w4:=b3.trans (hb4.mono b3.size);have k4:=aj hb4 k3 (lt_of_block k3);have y4:=aj hb4 y3 (lt_of_block y3);have P4:=Hp (And.intro g4 (And.intro k4 (And.intro y4 hb4)));have x20:=ae k4 20;have x21:=ae k4 21;simp only [I3,I2,I1] at x20 x21;have xf:∀ n,w4.frozen? ⟨w.heap.size,n,none⟩=false:=fun n=>ap k4 n;have xl:=lt_of_block k4;clear g4 k4 y4 hb4 o3 k3 y3;go_wp2_with fail;refine dt _ (fun W4 hW4=>?_)
 have b4:Below w.heap.size w W4:=by rw [hW4];exact P4.out.1.setCell (Hz _) _
 have k4:W4.heap[w.heap.size]?=some (.cells #[.int .i64 X.cf.flows,.int .i64 X.cf.num,.int .i64 X.cf.den,.int .i64 X.cf.tries,.int .i64 X.cf.warm,.int .i64 X.cf.drain,.int .i64 X.cf.idle,.int .i64 X.cf.connect,.int .i64 X.cf.retries,.int .i64 X.cf.most,.int .i64 X.cf.bn,.int .i64 X.cf.bd,.int .i64 X.cf.bb,.int .i64 X.cf.ww,.int .i64 X.cf.wf,.int .i64 X.cf.wh,.int .i64 X.now,(.slice d0 X.tab.length q0),(.slice d1 X.flows.length q1),(.slice d2 X.lives.length q2),(.slice d3 X.reqs.length q3),(.slice a4 X.ring.length c4),(.slice (some ⟨bh,oh,none⟩) 12 cH),.int .i64 X.tok,.int .i64 X.wnow,(.slice (some ⟨bq,oq,none⟩) 25 cL)] 55 (0,0)):=by rw [hW4];exact aP P4.out.2.1 _
 have y4:W4.heap[w.heap.size+1]?=some (.cells bP 55 (0,0)):=by rw [hW4];exact aU P4.out.2.2.1 (by omega)
 have M4:=Hp (show Kp N W3 W4 by rw [hW4];exact (Kp.of_below P4.out.2.2.2).set (by omega) _ _);have Z4:=Hp (show W4.heap.size=w4.heap.size by rw [hW4];simp);have L4:=Hp (show Kp N w4 W4 by rw [hW4];exact (Kp.refl N _).set (by omega) _ _);clear hW4 x20 x21 xf xl;refine (ud _ X.ring W4 (au R4.out b4) (by have:=HM.out.s;omega)).mono ?_;rintro e w5 ⟨v5,rfl,o4,hb5⟩;obtain ⟨d4,q4,rfl⟩:=gv o4;have O4:=Hp o4;have g5:Below w.heap.size w w5:=b4.trans (hb5.mono b4.size);have k5:=aj hb5 k4 (lt_of_block k4);have y5:=aj hb5 y4 (lt_of_block y4);have P5:=Hp (And.intro g5 (And.intro k5 (And.intro y5 hb5)));have x21:=ae k5 21;have x22:=ae k5 22;simp only [I3,I2,I1] at x21 x22;have xf:∀ n,w5.frozen? ⟨w.heap.size,n,none⟩=false:=fun n=>ap k5 n;have xl:=lt_of_block k5;clear g5 k5 y5 hb5 o4 k4 y4;go_wp2_with fail;refine pa _ (fun wx hwx=>?_);obtain ⟨W5,hW5⟩:∃ W5,W5=w5.setCell ⟨w.heap.size,21,none⟩ (.slice d4 X.ring.length q4):=⟨_,rfl⟩;rw [← hW5] at hwx
 have b5:Below w.heap.size w W5:=by rw [hW5];exact P5.out.1.setCell (Hz _) _
 have k5:W5.heap[w.heap.size]?=some (.cells #[.int .i64 X.cf.flows,.int .i64 X.cf.num,.int .i64 X.cf.den,.int .i64 X.cf.tries,.int .i64 X.cf.warm,.int .i64 X.cf.drain,.int .i64 X.cf.idle,.int .i64 X.cf.connect,.int .i64 X.cf.retries,.int .i64 X.cf.most,.int .i64 X.cf.bn,.int .i64 X.cf.bd,.int .i64 X.cf.bb,.int .i64 X.cf.ww,.int .i64 X.cf.wf,.int .i64 X.cf.wh,.int .i64 X.now,(.slice d0 X.tab.length q0),(.slice d1 X.flows.length q1),(.slice d2 X.lives.length q2),(.slice d3 X.reqs.length q3),(.slice d4 X.ring.length q4),(.slice (some ⟨bh,oh,none⟩) 12 cH),.int .i64 X.tok,.int .i64 X.wnow,(.slice (some ⟨bq,oq,none⟩) 25 cL)] 55 (0,0)):=by rw [hW5];exact aP P5.out.2.1 _
 have y5:W5.heap[w.heap.size+1]?=some (.cells bP 55 (0,0)):=by rw [hW5];exact aU P5.out.2.2.1 (by omega)
 have M5:=Hp (show Kp N W4 W5 by rw [hW5];exact (Kp.of_below P5.out.2.2.2).set (by omega) _ _);have L5:=Hp (show Kp N w5 W5 by rw [hW5];exact (Kp.refl N _).set (by omega) _ _);have Z5:=Hp (show W5.heap.size=w5.heap.size by rw [hW5];simp)
 have hz5:N≤W5.heap.size:=by have:=b5.size;have:=lt_of_block y5;omega
 have bx:Below w.heap.size w wx:=by rw [hwx];exact b5.alloc b5.size _
 have S0:=Hp (show HcS w W5 #[.int .i64 X.cf.flows,.int .i64 X.cf.num,.int .i64 X.cf.den,.int .i64 X.cf.tries,.int .i64 X.cf.warm,.int .i64 X.cf.drain,.int .i64 X.cf.idle,.int .i64 X.cf.connect,.int .i64 X.cf.retries,.int .i64 X.cf.most,.int .i64 X.cf.bn,.int .i64 X.cf.bd,.int .i64 X.cf.bb,.int .i64 X.cf.ww,.int .i64 X.cf.wf,.int .i64 X.cf.wh,.int .i64 X.now,(.slice d0 X.tab.length q0),(.slice d1 X.flows.length q1),(.slice d2 X.lives.length q2),(.slice d3 X.reqs.length q3),(.slice d4 X.ring.length q4),(.slice (some ⟨bh,oh,none⟩) 12 cH),.int .i64 X.tok,.int .i64 X.wnow,(.slice (some ⟨bq,oq,none⟩) 25 cL)] X 0 [] wx from ⟨rfl,bx,by rw [hwx];exact (heap_alloc_old _ _ (lt_of_block k5)).trans k5,by rw [hwx];exact (heap_alloc_old _ _ (lt_of_block y5)).trans y5,by rw [hwx];exact (Kp.refl _ _).alloc _,by rw [hwx];simp,by rw [hwx,hcpL_0];exact qm (by omega) (by rw [az _ rfl,HHZ.out]) (by unfold maxLen;omega) (by rw [aN (kQ 12),ij]),fun i hi=>by omega⟩);have hs1:=Z1.out;have hs2:=Z2.out;have hs3:=Z3.out;have hs4:=Z4.out;have hm0:=P1.out.2.2.2.size;have hm1:=L1.out.1;have hm2:=M2.out.1;have hm3:=M3.out.1;have hm4:=M4.out.1
 have HA5:=Hp (show CpA N W5 X ({ V with t:=.slice d0 X.tab.length q0,f:=.slice d1 X.flows.length q1,l:=.slice d2 X.lives.length q2,r:=.slice d3 X.reqs.length q3,s:=.slice d4 X.ring.length q4 }:Vs) from ⟨
  row_lo O0.out (by simp) (kL _) (by omega) ((((L1.out.trans M2.out).trans M3.out).trans M4.out).trans M5.out) (fun b e=>by have:=(O1.out.lt b e).1;omega),
  xK O2.out (by simp) (zu _) (by omega) ((L3.out.trans M4.out).trans M5.out) (fun b e=>by have:=(O1.out.lt b e).2;omega),
  xK O3.out (by simp) (zt _) (by omega) (L4.out.trans M5.out) (fun b e=>by have:=(O1.out.lt b e).2;omega),
  xK O4.out (by simp) (ii _) (by omega) L5.out (fun b e=>by have:=(O1.out.lt b e).2;omega),
  vw (nB O1.out (((L2.out.trans M3.out).trans M4.out).trans M5.out) (by omega)) (by omega)⟩)
 clear hs1 hs2 hs3 hs4 hm0 hm1 hm2 hm3 hm4;have HZ5:=Hp hz5;have HN:=Hp hN;rw [← Z5.out];clear hwx hW5 b5 k5 y5 bx hz5 hN;go_loopw [44] (fun i wr=>∃ (k:Nat) (ms:List Value),k≤12∧i=.int .i64 k∧HcS w W5 #[.int .i64 X.cf.flows,.int .i64 X.cf.num,.int .i64 X.cf.den,.int .i64 X.cf.tries,.int .i64 X.cf.warm,.int .i64 X.cf.drain,.int .i64 X.cf.idle,.int .i64 X.cf.connect,.int .i64 X.cf.retries,.int .i64 X.cf.most,.int .i64 X.cf.bn,.int .i64 X.cf.bd,.int .i64 X.cf.bb,.int .i64 X.cf.ww,.int .i64 X.cf.wf,.int .i64 X.cf.wh,.int .i64 X.now,(.slice d0 X.tab.length q0),(.slice d1 X.flows.length q1),(.slice d2 X.lives.length q2),(.slice d3 X.reqs.length q3),(.slice d4 X.ring.length q4),(.slice (some ⟨bh,oh,none⟩) 12 cH),.int .i64 X.tok,.int .i64 X.wnow,(.slice (some ⟨bq,oq,none⟩) 25 cL)] X k ms wr) (fun i _=>12 - (intOf i).toNat)
 case atStart=>exact ⟨0,[],by omega,rfl,S0.out⟩
 case round=>
  obtain ⟨k,ms,hk,rfl,hs⟩:=hrel;have HS:=Hp hs;have hw0:=hs.be.size;have hl5:=hs.lt;rcases (show k<12∨k=12 by omega) with hlt|rfl
  ·have hlt':(k:Int)<12:=by omega
   have k0':(0:Int)≤(k:Int):=by omega
   have hmr:=(HW.out.below (hs.be.mono (Hz _))).ro.mr k (by rw [HM.out.h];exact hlt);have hmk':=HM.out.m k hlt;have q0:=(hs.be.cell (p:=⟨bh,oh+k*4+0,none⟩) hbhl).trans (HRc.out k 0 hlt (by omega));have q1:=(hs.be.cell (p:=⟨bh,oh+k*4+1,none⟩) hbhl).trans (HRc.out k 1 hlt (by omega));have q2:=(hs.be.cell (p:=⟨bh,oh+k*4+2,none⟩) hbhl).trans (HRc.out k 2 hlt (by omega));have q3:=(hs.be.cell (p:=⟨bh,oh+k*4+3,none⟩) hbhl).trans (HRc.out k 3 hlt (by omega));simp only [uD,I1,I2,Nat.add_zero] at q0 q1 q2 q3;obtain ⟨H,hH⟩:∃ H,H=X.health.getD k Ht.zero:=⟨_,rfl⟩;obtain ⟨mv,hmv⟩:∃ mv,mv=V.m.getD k undef:=⟨_,rfl⟩;rw [← hH] at hmr hmk' q1 q2 q3;rw [← hmv] at hmr q0;obtain ⟨am,cm,rfl,_⟩:=aq hmr.1;have HH:=Hp hH;have HMr:=Hp hmr.1;obtain ⟨M_,o_,u_,t_⟩:=H;simp only at hmk' q1 q2 q3;clear hs hmr hH hmv;go_wp2_with fail;refine dt _ (fun wc hwc=>?_);obtain ⟨ob,hob⟩:∃ ob:Obj,ob=.cells #[.slice am M_.length cm,.bool o_,.int .i64 u_,.int .i64 t_] 148 (0,0):=⟨_,rfl⟩;have hwc':wc=wr.alloc ob:=by rw [hwc,hob]
   refine (jo _ M_ wc (by rw [hwc'];exact ai HMr.out _) (by omega)).mono ?_;rintro e w6 ⟨v6,rfl,o6,hb6⟩;obtain ⟨a6,c6,rfl⟩:=gv o6;have hnx:=HS.out.next (m':=.slice a6 M_.length c6) (n:=M_.length) hlt HM.out.h (by rw [← HN.out];exact HZ5.out) ob (by rw [hwc'] at hb6;exact hb6) (by rw [hwc',] at o6;rw [← HH.out];exact o6) (by rw [← HH.out];simp [cG]);rw [← HH.out] at hnx;have HNx:=Hp hnx;have hc6:=aj hb6 (show wc.heap[wr.heap.size]?=some (.cells #[.slice am M_.length cm,.bool o_,.int .i64 u_,.int .i64 t_] 148 (0,0)) by rw [hwc',hob];exact az _ rfl) (by rw [hwc'];simp);have x0:=ae hc6 0;have x1:=ae hc6 1;have x2:=ae hc6 2;have x3:=ae hc6 3;simp only [I3,I2,I1] at x0 x1 x2 x3;have xf:∀ n,w6.frozen? ⟨wr.heap.size,n,none⟩=false:=fun n=>ap hc6 n;have xl:=lt_of_block hc6
   have ow6:=aX (w':=w6) HS.out.ow (fun b hb=>by
    simp only [Value.ownBlock,Option.some.injEq] at hb
    exact (hb6.block b (by rw [hwc'];simp;omega)).trans (by rw [hwc'];exact Hu _ _ _ (by omega)))
   have xg:∀ n,w6.frozen? ⟨W5.heap.size,n,none⟩=false:=fun n=>ow6.frozenAt n;have hfl:(oN ms X.health 12 k).flatten.length=48:=by rw [aN (DF _ _ _ _),vY HS.out.ml HM.out.h (by omega)]
   obtain ⟨z0,p0⟩:∃ z,w6.cell? ⟨W5.heap.size,k*4,none⟩=some z:=⟨_,(ow6.cellAt (k*4) (by omega)).trans (I7 (by omega))⟩;obtain ⟨z1,p1⟩:∃ z,w6.cell? ⟨W5.heap.size,k*4+1,none⟩=some z:=⟨_,(ow6.cellAt (k*4+1) (by omega)).trans (I7 (by omega))⟩;obtain ⟨z2,p2⟩:∃ z,w6.cell? ⟨W5.heap.size,k*4+2,none⟩=some z:=⟨_,(ow6.cellAt (k*4+2) (by omega)).trans (I7 (by omega))⟩;obtain ⟨z3,p3⟩:∃ z,w6.cell? ⟨W5.heap.size,k*4+3,none⟩=some z:=⟨_,(ow6.cellAt (k*4+3) (by omega)).trans (I7 (by omega))⟩;have l5:W5.heap.size<w6.heap.size:=by omega
   have ne:¬ W5.heap.size=wr.heap.size:=by omega
   have ne':¬ wr.heap.size=W5.heap.size:=by omega
   clear hnx hc6 ow6 hfl hwc hwc' hb6 o6 hob q0 q1 q2 q3 hmk;go_wp2;go_roundw
   case rel=>exact ⟨k+1,ms++[.slice a6 M_.length c6],by omega,by go_num,HNx.out⟩
   case measure=>simp [intOf];omega
  ·have hge:¬ ((12:Nat):Int)<12:=by omega
   have x22:=ae hs.c0 22;have x25:=ae hs.c0 25;simp only [I3,I2,I1] at x22 x25;have xf:∀ n,wr.frozen? ⟨w.heap.size,n,none⟩=false:=fun n=>ap hs.c0 n;have xl:=lt_of_block hs.c0;clear hs hmk;go_wp2_with fail;refine pa _ (fun wy hwy=>?_);obtain ⟨W7,hW7⟩:∃ W7,W7=wr.setCell ⟨w.heap.size,22,none⟩ (.slice (some ⟨W5.heap.size,0,none⟩) 12 12):=⟨_,rfl⟩;rw [← hW7] at hwy
   have z7:W7.heap.size=wr.heap.size:=by rw [hW7];simp
   have b7:Below w.heap.size w W7:=by rw [hW7];exact HS.out.be.setCell (Hz _) _
   have k7:W7.heap[w.heap.size]?=some (.cells #[.int .i64 X.cf.flows,.int .i64 X.cf.num,.int .i64 X.cf.den,.int .i64 X.cf.tries,.int .i64 X.cf.warm,.int .i64 X.cf.drain,.int .i64 X.cf.idle,.int .i64 X.cf.connect,.int .i64 X.cf.retries,.int .i64 X.cf.most,.int .i64 X.cf.bn,.int .i64 X.cf.bd,.int .i64 X.cf.bb,.int .i64 X.cf.ww,.int .i64 X.cf.wf,.int .i64 X.cf.wh,.int .i64 X.now,(.slice d0 X.tab.length q0),(.slice d1 X.flows.length q1),(.slice d2 X.lives.length q2),(.slice d3 X.reqs.length q3),(.slice d4 X.ring.length q4),(.slice (some ⟨W5.heap.size,0,none⟩) 12 12),.int .i64 X.tok,.int .i64 X.wnow,(.slice (some ⟨bq,oq,none⟩) 25 cL)] 55 (0,0)):=by rw [hW7];exact aP HS.out.c0 _
   have y7:W7.heap[w.heap.size+1]?=some (.cells bP 55 (0,0)):=by rw [hW7];exact aU HS.out.c1 (by omega)
   have M7:=Hp (show Kp N wr W7 by rw [hW7];exact (Kp.refl N _).set (by have:=HN.out;omega) _ _)
   have by_:Below w.heap.size w wy:=by rw [hwy];exact b7.alloc b7.size _
   have T0:=Hp (show LcS w W7 #[.int .i64 X.cf.flows,.int .i64 X.cf.num,.int .i64 X.cf.den,.int .i64 X.cf.tries,.int .i64 X.cf.warm,.int .i64 X.cf.drain,.int .i64 X.cf.idle,.int .i64 X.cf.connect,.int .i64 X.cf.retries,.int .i64 X.cf.most,.int .i64 X.cf.bn,.int .i64 X.cf.bd,.int .i64 X.cf.bb,.int .i64 X.cf.ww,.int .i64 X.cf.wf,.int .i64 X.cf.wh,.int .i64 X.now,(.slice d0 X.tab.length q0),(.slice d1 X.flows.length q1),(.slice d2 X.lives.length q2),(.slice d3 X.reqs.length q3),(.slice d4 X.ring.length q4),(.slice (some ⟨W5.heap.size,0,none⟩) 12 12),.int .i64 X.tok,.int .i64 X.wnow,(.slice (some ⟨bq,oq,none⟩) 25 cL)] X 0 [] wy from ⟨rfl,by_,by rw [hwy];exact (heap_alloc_old _ _ (lt_of_block k7)).trans k7,by rw [hwy];exact (heap_alloc_old _ _ (lt_of_block y7)).trans y7,by rw [hwy];exact (Kp.refl _ _).alloc _,by rw [hwy];simp,by rw [hwy];exact qm (by have:=HN.out;have:=HZ5.out;omega) (by rw [az _ rfl,HLZ.out]) (by unfold maxLen;omega) (by rw [aN (tV _ _ _)];simp [oM]),fun i hi=>by omega⟩);have HZ7:=Hp (show N≤W7.heap.size by have:=HZ5.out;omega);rw [← z7];clear hwy hW7 b7 k7 y7 by_ z7 x22 x25 xf xl;go_loopw [69] (fun i wr=>∃ (k:Nat) (vs:List Value),k≤25∧i=.int .i64 k∧LcS w W7 #[.int .i64 X.cf.flows,.int .i64 X.cf.num,.int .i64 X.cf.den,.int .i64 X.cf.tries,.int .i64 X.cf.warm,.int .i64 X.cf.drain,.int .i64 X.cf.idle,.int .i64 X.cf.connect,.int .i64 X.cf.retries,.int .i64 X.cf.most,.int .i64 X.cf.bn,.int .i64 X.cf.bd,.int .i64 X.cf.bb,.int .i64 X.cf.ww,.int .i64 X.cf.wf,.int .i64 X.cf.wh,.int .i64 X.now,(.slice d0 X.tab.length q0),(.slice d1 X.flows.length q1),(.slice d2 X.lives.length q2),(.slice d3 X.reqs.length q3),(.slice d4 X.ring.length q4),(.slice (some ⟨W5.heap.size,0,none⟩) 12 12),.int .i64 X.tok,.int .i64 X.wnow,(.slice (some ⟨bq,oq,none⟩) 25 cL)] X k vs wr) (fun i _=>25 - (intOf i).toNat)
   case atStart=>exact ⟨0,[],by omega,rfl,T0.out⟩
   case round=>
    obtain ⟨k,vs,hk,rfl,hs⟩:=hrel;have HT:=Hp hs;have hw7:=hs.be.size;have hl7:=hs.lt;rcases (show k<25∨k=25 by omega) with hlt|rfl
    ·have hlt':(k:Int)<25:=by omega
     have k0':(0:Int)≤(k:Int):=by omega
     have hmr:=bF (HV.out.2 k (by rw [HM.out.w];exact hlt)) hs.be.size (fun b hb _=>hs.be.block b hb);have hmx:=HM.out.x k hlt;have q0:=(hs.be.cell (p:=⟨bq,oq+k,none⟩) hbql).trans (HLc.out k hlt);obtain ⟨H,hH⟩:∃ H,H=X.lists.getD k []:=⟨_,rfl⟩;obtain ⟨mv,hmv⟩:∃ mv,mv=VL.getD k undef:=⟨_,rfl⟩;rw [← hH] at hmr hmx;rw [← hmv] at hmr q0;obtain ⟨am,cm,rfl,_⟩:=aq hmr.1;have HH:=Hp hH;have HMr:=Hp hmr.1;clear hs hmr hH hmv;go_wp2_with fail;refine (uc _ H _ HMr.out (by omega)).mono ?_;rintro e w7 ⟨v7,rfl,o7,hb7⟩;obtain ⟨a7,c7,rfl⟩:=gv o7;have HNx:=Hp (HT.out.next (v':=.slice a7 H.length c7) (n:=H.length) hlt (by rw [← HN.out];exact HZ7.out) hb7 (by rw [← HH.out];exact o7) (by rw [← HH.out];simp))
     have ow7:=aX (w':=w7) HT.out.ow (fun b hb=>by
      simp only [Value.ownBlock,Option.some.injEq] at hb
      exact hb7.block b (by omega))
     have xg:∀ n,w7.frozen? ⟨W7.heap.size,n,none⟩=false:=fun n=>ow7.frozenAt n;have hfl:(oM vs 25 k).flatten.length=25:=by rw [aN (tV _ _ _),qz HT.out.ml (by omega)]
     obtain ⟨z0,p0⟩:∃ z,w7.cell? ⟨W7.heap.size,k,none⟩=some z:=⟨_,(ow7.cellAt k (by omega)).trans (I7 (by omega))⟩
     have l5:W7.heap.size<w7.heap.size:=by have:=hb7.size;omega
     clear ow7 hfl hb7 o7 q0 hmk2;go_wp2;go_roundw
     case rel=>exact ⟨k+1,vs++[.slice a7 H.length c7],by omega,by go_num,HNx.out⟩
     case measure=>simp [intOf];omega
    ·have hge:¬ ((25:Nat):Int)<25:=by omega
     have x25:=ae hs.c0 25;simp only [I3,I2,I1] at x25;have xf:∀ n,wr.frozen? ⟨w.heap.size,n,none⟩=false:=fun n=>ap hs.c0 n;have xl:=lt_of_block hs.c0;obtain ⟨Vz,hVz⟩:∃ Vz:Vs,Vz={ ({ V with t:=.slice d0 X.tab.length q0,f:=.slice d1 X.flows.length q1,l:=.slice d2 X.lives.length q2,r:=.slice d3 X.reqs.length q3,s:=.slice d4 X.ring.length q4 }:Vs) with h:=.slice (some ⟨W5.heap.size,0,none⟩) 12 12,m:=ms,w:=.slice (some ⟨W7.heap.size,0,none⟩) 25 25 }:=⟨_,rfl⟩
     have y8:(wr.setCell ⟨w.heap.size,25,none⟩ (.slice (some ⟨W7.heap.size,0,none⟩) 25 25)).heap[w.heap.size]?=some (.cells (ds X Vz).toArray 55 (0,0)):=by rw [hVz];exact aP hs.c0 _
     have y9:(wr.setCell ⟨w.heap.size,25,none⟩ (.slice (some ⟨W7.heap.size,0,none⟩) 25 25)).heap[w.heap.size+1]?=some (.cells bP 55 (0,0)):=aU hs.c1 (by omega);have bz:Below w.heap.size w ((wr.setCell ⟨w.heap.size,25,none⟩ (.slice (some ⟨W7.heap.size,0,none⟩) 25 25)).setRow (w.heap.size+1) (ds X Vz).toArray):=aW (hs.be.setCell (Hz _) _) (by omega)
     have kz:Kp N wr ((wr.setCell ⟨w.heap.size,25,none⟩ (.slice (some ⟨W7.heap.size,0,none⟩) 25 25)).setRow (w.heap.size+1) (ds X Vz).toArray):=by
      have hn:=HN.out;refine ⟨by simp [World.setRow],fun b h1 h2=>?_⟩;rw [setRow_other _ _ _ _ (by omega)];exact Hy _ _ _ _ (fun e:b=w.heap.size=>by omega)
     have one:=CN X (V:=Vz) (by rw [hVz];rfl) (by rw [hVz];rfl) (by rw [hVz];rfl) (by rw [hVz];rfl) (by rw [hVz];rfl) (by rw [hVz];rfl) (by rw [hVz];rfl);have HBz:=Hp (And.intro bz (And.intro kz (And.intro y8 (And.intro y9 (And.intro one hVz)))));clear hs hmk2 bz kz y8 y9 one hVz;go_wp2_with (first|(refine Iu rfl 55 (.tmp 1) rfl w.heap.size rfl 55 (ds X Vz).toArray (0,0) _ HBz.out.2.2.1 Tryz.underlying55 rfl (by kernel_rfl) ?_)|(refine Iv rfl 55 (.tmp 2) (.tmp 83) rfl (w.heap.size+1) (ds X Vz).toArray rfl rfl 55 bP HBz.out.2.2.2.1 (by kernel_rfl) rfl HBz.out.2.2.2.2.1 ?_));refine It (v:=.agg (ds X Vz).toArray) ?_ rfl ?_
     ·exact lK Tryz.results30 _ _ (w.heap.size+1) 55 (ds X Vz).toArray (0,0) _ rfl (aZ HBz.out.2.2.2.1) Tryz.underlying55 rfl (by kernel_rfl)
     ·have hn:=HN.out;refine ⟨Vz,rfl,?_,HBz.out.1,by have:=lt_of_block (aZ (arr':=(ds X Vz).toArray) HBz.out.2.2.2.1);omega⟩;have hA5:=HA5.out;have m7:=M7.out;have kz:=HBz.out.2.1;have z5:=HZ5.out;rw [hn] at hA5 m7 kz z5;have hz:=CpZ.mk2 hA5 HS.out m7 HT.out kz z5 HM.out.h HM.out.w;rw [← HBz.out.2.2.2.2.2] at hz;exact hz
end
end Go.Proofs.YtneailjecbfljaaGreatDoor
