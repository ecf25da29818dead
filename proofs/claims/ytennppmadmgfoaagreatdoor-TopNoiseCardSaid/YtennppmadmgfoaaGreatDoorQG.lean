/- Texts of the row's proof. Conditions: none. -/
import Derived.Test.YtennppmadmgfoaaGreatDoorQP
import Derived.Test.YtennppmadmgfoaaGreatDoorK45
import Derived.Test.YtennppmadmgfoaaGreatDoorQW
import Derived.Test.YtennppmadmgfoaaGreatDoorQA
import Derived.Test.YtennppmadmgfoaaGreatDoorQO
namespace Go.Proofs.YtennppmadmgfoaaGreatDoor
open Proofs.Tryz
set_option maxRecDepth 100000
set_option maxHeartbeats 8000000
open Go.RowKit
def AtE (x:Ev) (c:Int):Ending:=.returned (.tuple (if c=0 then #[.agg (Ev.cells x).toArray,.nilIface] else #[.agg (Ev.cells Ev.zero).toArray,.iface 62 (.int .i64 c)]))
def FrAt (w:World) (v:Value) (zc:List (List Int)):Prop:=∃ h:List Value,h.length=zc.length/\aK w 1 v (h.map fun x=>[x])/\∀ i,i<zc.length->aK w 1 (h.getD i undef) (byts (zc.getD i []))
theorem FrAt.below {w w':World} {v:Value} {zc:List (List Int)} (E:FrAt w v zc) (h:Below w.heap.size w w'):FrAt w' v zc:=by
 obtain ⟨z,G,I,J⟩:=E
 exact ⟨z,G,aq I h,fun U K=>aq (J U K) h⟩
def FrAc (L:List Int):Ac->Prop
 | .inl x=>IsB L/\DecAns L x 0/\EvGood x
 | .inr c=>IsB L/\DecAns L Ev.zero c/\c≠0
theorem prog_smany (a:Option Addr) (n c:Nat) (w:World):Calls prog 213 #[.slice a n c] w fun e w'=>e=.returned (.int .i64 (n:Int))/\w'=w:=by
 go_in
 go_wp2
 go_ret
 exact ⟨rfl,rfl⟩
theorem prog_sat {w:World} {zc:List (List Int)} {n:Nat} {a:Option Addr} {cp:Nat} (h:FrAt w (.slice a n cp) zc) (hn:n=zc.length) {i:Nat} (hi:i<n) {x:Ev} {c:Int} (hB:IsB (zc.getD i [])) (hd:DecAns (zc.getD i []) x c) :
  Calls prog 212 #[.slice a n cp,.int .i64 (i:Int)] w fun e w'=>e=AtE x c/\Below w.heap.size w w':=by
 obtain ⟨VF,h1,h2,h3⟩:=h
 have hr:=h3 i (by omega)
 obtain ⟨_,_,e1,_,_,_,pt⟩:=aO undef h2
 injection e1 with e1 _ _
 obtain ⟨b,o,e2,hb,q⟩:=pt (by intro e;rw [e] at h1;simp at h1;omega)
 rw [<- e1] at e2
 subst e2
 have v0:=q i 0 (by omega) (by omega)
 obtain ⟨F,hF⟩:∃ F,F=VF.getD i undef:=⟨_,rfl⟩
 rw [<- hF] at v0 hr
 obtain ⟨L,hL⟩:∃ L,L=zc.getD i []:=⟨_,rfl⟩
 rw [<- hL] at hr hB hd
 clear hF hL h2 h3 e1 q pt
 obtain ⟨fa,fc,rfl,_⟩:=ap hr
 simp only [Lb,Nat.mul_one,Nat.add_zero] at v0
 have i0:(0:Int)<=(i:Int):=by omega
 have i1:(i:Int)<(n:Int):=by omega
 have HD:=KL (fun w' (hb':Below w.heap.size w w')=>prog_Dec _ L x c w' hB (aq hr hb') hd)
 clear hr hB hd h1 hn
 obtain ⟨x0,x1,x2,x3,x4,x5,x6,x7⟩:=x
 go_in
 go_wp2_with fail
 refine (HD.out _ ((KM _ _).alloc (KY _) _)).mono ?_
 rintro e w2 ⟨rfl,hb2⟩
 have hb0:=((KM w.heap.size w).alloc (KY _) _).trans (hb2.mono (by simp))
 have x0':=aj hb2 (aB (w:=w) (.cells #[.int .i64 0,.int .i64 0,.int .i64 0,.int .i64 0,.bool false,.int .i64 0,.int .i64 0,.int .i64 0] 61) rfl) (by simp)
 have s2:=hb2.size
 simp at s2
 have m2:w.heap.size<w2.heap.size:=by omega
 have d0:=ae x0' 0
 have d1:=ae x0' 1
 have d2:=ae x0' 2
 have d3:=ae x0' 3
 have d4:=ae x0' 4
 have d5:=ae x0' 5
 have d6:=ae x0' 6
 have d7:=ae x0' 7
 simp at d0 d1 d2 d3 d4 d5 d6 d7
 have df:=fun n=>az x0' n
 clear hb2 x0'
 unfold Ev.agg
 by_cases hc:c=0
 ·subst hc
  go_wp2
  refine LN (v:=.tuple #[.agg #[.int .i64 x0,.int .i64 x1,.int .i64 x2,.int .i64 x3,.bool x4,.int .i64 x5,.int .i64 x6,.int .i64 x7],.nilIface]) ?_ rfl ⟨rfl,Zb⟩
  simp [results,results212,go_sem, *]
 ·have e1:(c == 0)=false:=by simpa using hc
  have e2:(c != 0)=true:=by simpa using hc
  go_wp2
  refine LN (v:=.tuple #[.agg #[.int .i64 0,.int .i64 0,.int .i64 0,.int .i64 0,.bool false,.int .i64 0,.int .i64 0,.int .i64 0],.iface 62 (.int .i64 c)]) ?_ rfl ⟨by unfold AtE;rw [if_neg hc];rfl,Zb⟩
  simp [results,results212,go_sem, *]
theorem as_bad {B k:Nat} {J w:World} {T:TypeId} (c:Int) (I:w.heap[k]?=some (.cells #[.int .i64 0] T (0,0))) (W:B<=k) (Y:Below B J w) (Z:w.cell? ⟨0,0,none⟩=some (.iface 214 (.agg #[.pointer (some ⟨1,118,none⟩)]))) :
  Calls prog 28 #[.iface 62 (.int .i64 c),.iface 122 (.pointer (some ⟨k,0,none⟩))] w fun e w'=>e=.returned (.bool true)/\Below B J w'/\w'.cell? ⟨k,0,none⟩=some (.int .i64 c):=by
 have lk:=lt_of_block I
 have U:w.cell? ⟨k,0,none⟩=some (.int .i64 0):=(ae I 0).trans rfl
 refine (as_hit c ⟨k,0,none⟩ (.int .i64 0) w Z U (by simp [World.frozen?,I])).mono ?_
 rintro e w' ⟨rfl,rfl⟩
 have h:∀ {z:Nat} {V G:World} (E:Obj),z<=G.heap.size/\Below z V G->z<=(G.alloc E).heap.size/\Below z V (G.alloc E):=fun E K=>⟨by simp;omega,K.2.alloc K.1 E⟩
 refine ⟨rfl,(h _ (h _ (h _ (h _ ⟨by omega,Y⟩)))).2.setCell W _,World.cell?_setCell_same' _ _ _ (by rw [ah (h _ (h _ (h _ (h _ ⟨KY _,KM _ _⟩)))).2 U lk];rfl)⟩
theorem row_one {w:World} {k:Nat} {T:TypeId} {fr:Nat×Nat} (o:Out) (h:w.heap[k]?=some (.cells (Out.cells o).toArray T fr)):aK w 7 (.slice (some ⟨k,0,none⟩) 1 1) [Out.cells o]:=
 ⟨_,1,rfl,KY _,by decide,by simp,fun _=>⟨k,0,rfl,lt_of_block h,fun E I z G=>by
  obtain rfl:E=0:=by simpa using z
  rw [ae h];simp⟩⟩
theorem info_OS:(prog.info? 68).map (fun i=>(i.zero,i.size,i.bytes))=some (some (.slice none 0 0),1,24):=by kernel_rfl
def OutsN (N:Nat) (w:World) (v:Value) (Os:List (List Out)):Prop:=∃ h:List Value,h.length=Os.length/\dj (fun b=>N<=b) w 1 v (h.map fun x=>[x])/\∀ i,i<Os.length->dj (fun b=>N<=b) w 7 (h.getD i undef) ((Os.getD i []).map Out.cells)
theorem OutsN.keep {N:Nat} {w w':World} {v:Value} {Os:List (List Out)} (G:OutsN N w v Os) (z:w.heap.size<=w'.heap.size) (h:∀ b,b<w.heap.size->N<=b->w'.heap[b]?=w.heap[b]?):OutsN N w' v Os:=by
 obtain ⟨E,I,J,K⟩:=G
 exact ⟨E,I,bI J z h,fun W U=>bI (K W U) z h⟩
theorem OutsN.mono {N M:Nat} {w:World} {v:Value} {Os:List (List Out)} (h:OutsN N w v Os) (z:M<=N):OutsN M w v Os:=by
 obtain ⟨E,I,J,K⟩:=h
 exact ⟨E,I,bU J (fun G _ h=>Lz z h),fun W U=>bU (K W U) (fun G _ h=>Lz z h)⟩
def PlayPost (w:World) (c:Cf) (A:List Ac) (e:Ending) (w':World):Prop:=∃ h a cp,e=.returned (.tuple #[.agg h,.slice a A.length cp,.int .i64 0])/\h.size=26/\h.all (·.oneCell')=true/\OutsN w.heap.size w' (.slice a A.length cp) (actW (dD c) A).2/\Below w.heap.size w w'
structure RunA (N r q:Nat) (w wr:World) (R:Wd×List (List Out)) (V:Vs) (VV:List Value) (v:Value):Prop where
 bk:wr.heap[q]?=some (.cells (dz R.1 V).toArray 56 (0,0))
 rz:wr.heap[r]?=some (.cells bS 56 (0,0))
 wk:WK (fun b=>b≠q/\v.ownBlock≠some b) wr R.1 V
 vl:VV.length=R.2.length
 ow:wr.ownsRow N 68 1 v R.2.length VV
 ro:∀ i,i<R.2.length->dj (fun b=>b≠q/\(N<=b/\b≠r)/\v.ownBlock≠some b) wr 7 (VV.getD i undef) ((R.2.getD i []).map Out.cells)
 be:Below N w wr
 nq:N<=q/\N<=r/\q≠r
 sepv:∀ b,v.ownBlock=some b->b≠q/\b≠r
theorem flat_one (VV:List Value):(VV.map fun x=>[x]).flatten=VV:=by induction VV with|nil=>rfl|cons a L ih=>simp [ih]
theorem RunA.push {N M r q:Nat} {w wr w5 w6 J:World} {R:Wd×List (List Out)} {R1:Wd} {V V2:Vs} {W:List Value} {v v7 vo:Value} {O:List Out} (G:RunA N r q w wr R V W v) (hN:N<=wr.heap.size) (hb:Below wr.heap.size wr w5) (hM:wr.heap.size<=M)
  (a1:WK (fun b=>b≠q/\v.ownBlock≠some b) w5 R1 V2) (a3:dj (fun b=>M<=b) w5 7 vo (O.map Out.cells))
  (a2:w6.heap[q]?=some (.cells (dz R1 V2).toArray 56 (0,0))) (f6:∀ b,b≠q->w6.heap[b]?=w5.heap[b]?) (s6:w6.heap.size=w5.heap.size)
  (o7:J.ownsRow N 68 1 v7 (R.2.length+1) (W++[vo])) (f7:∀ b,b<w6.heap.size->v.ownBlock≠some b->J.heap[b]?=w6.heap[b]?) (s7:w6.heap.size<=J.heap.size)
  (Z:∀ b,v7.ownBlock=some b->v.ownBlock=some b\/w6.heap.size<=b) (b7:Below N w J):RunA N r q w J (R1,R.2++[O]) V2 (W++[vo]) v7:=by
 have lq:=lt_of_block G.bk
 have lr:=lt_of_block G.rz
 have hs:=hb.size
 have a0:∀ b,v.ownBlock=some b->b<wr.heap.size:=fun b E=>(G.ow.lt b E).2
 have Y:∀ b,b<w5.heap.size->b≠q->v.ownBlock≠some b->J.heap[b]?=w5.heap[b]?:=fun b I h h3=>(f7 b (by omega) h3).trans (f6 b h)
 have kk:∀ b,b<w5.heap.size->M<=b->J.heap[b]?=w5.heap[b]?:=fun b I h=>Y b I (by omega) (fun E=>by have:=a0 b E;omega)
 have nn:∀ b,b<w5.heap.size->M<=b->b≠q/\(N<=b/\b≠r)/\v7.ownBlock≠some b:=fun b I h=>⟨by omega,⟨by omega,by omega⟩,fun E=>by
  rcases Z b E with z|z
  ·have:=a0 b z;omega
  ·omega⟩
 have U:w5.heap.size<=J.heap.size:=by omega
 have a4:∀ {U:Nat} {x:Value} {X:List (List Value)},dj (fun b=>b≠q/\(N<=b/\b≠r)/\v.ownBlock≠some b) wr U x X->dj (fun b=>b≠q/\(N<=b/\b≠r)/\v7.ownBlock≠some b) J U x X:=fun hx=>
  bU (bI (bU hx (K':=fun b=>(b≠q/\v.ownBlock≠some b)/\b≠q/\(N<=b/\b≠r)/\v7.ownBlock≠some b) (fun b I h=>⟨⟨h.1,h.2.2⟩,h.1,h.2.1,fun E=>by
   rcases Z b E with z|z
   ·exact h.2.2 z
   ·omega⟩)) (by omega) (fun b I h=>(Y b (by omega) h.1.1 h.1.2).trans (hb.block b I))) (fun b _ h=>h.2)
 have l7:(R.2++[O]).length=R.2.length+1:=by simp
 refine ⟨?_,?_,((a1.imp (K':=fun b=>(b≠q/\v.ownBlock≠some b)/\v7.ownBlock≠some b) (fun b I h=>⟨h,fun E=>by
  rcases Z b E with z|z
  ·exact h.2 z
  ·omega⟩)).keep U (fun b I h=>Y b I h.1.1 h.1.2)).imp (fun b _ h=>⟨h.1.1,h.2⟩),?_,?_,fun K hi=>?_,b7,G.nq,fun b E=>?_⟩
 ·rw [f7 q (by omega) (fun E=>(G.sepv q E).1 rfl)];exact a2
 ·rw [Y r (by omega) G.nq.2.2.symm (fun E=>(G.sepv r E).2 rfl)];exact (hb.block r lr).trans G.rz
 ·rw [l7,Ll,G.vl];rfl
 ·rw [l7];exact o7
 ·rw [l7] at hi
  rw [tT W vo undef K (by rw [G.vl];exact hi),G.vl]
  show dj _ J 7 _ (((R.2++[O]).getD K []).map Out.cells)
  rw [tT R.2 _ [] K hi]
  by_cases z:K<R.2.length
  ·rw [if_pos z,if_pos z];exact a4 (G.ro K z)
  ·rw [if_neg z,if_neg z]
   exact bU (bI (bU a3 (K':=fun b=>M<=b/\(b≠q/\(N<=b/\b≠r)/\v7.ownBlock≠some b)) (fun b I h=>⟨h,nn b I h⟩)) U (fun b I h=>kk b I h.1)) (fun b _ h=>h.2)
 ·rcases Z b E with z|z
  ·exact G.sepv b z
  ·exact ⟨by omega,by omega⟩
theorem prog_asNil (t:Value) (w:World):Calls prog 28 #[.nilIface,t] w fun e w'=>e=.returned (.bool false)/\w'=w:=by
 go_in
 go_wp2
 go_ret
 exact ⟨rfl,rfl⟩
theorem prog_runA {c:Cf} (hc:jC c) {zc:List (List Int)} {A:List Ac} (hF:A.length=zc.length) (hA:∀ i,i<A.length->FrAc (zc.getD i []) (A.getD i acZ)) (hE:∀ e∈evsA A,EvGood e) (h4:A.length<=4000) {w:World} (hg:w.cell? ⟨0,0,none⟩=some (.iface 214 (.agg #[.pointer (some ⟨1,118,none⟩)]))) {a:Option Addr} {cp:Nat} (r0:FrAt w (.slice a A.length cp) zc) :
  Calls prog 17 #[.agg (Cf.cells c).toArray,.iface 97 (.slice a A.length cp)] w (PlayPost w c A):=by
 have HFl:=KL hF
 clear hF
 have HC:=KL hc
 have HL:=KL hE
 have HA:=KL hA
 have HR:=KL r0
 have HGl:=KL hg
 obtain ⟨CA,hCA⟩:∃ CA,CA=(Cf.cells c).toArray:=⟨_,rfl⟩
 rw [<- hCA]
 have HCI:=KL (show (prog.info? 36).map (·.size)=some CA.size by rw [hCA];exact vu c)
 have HCA:=KL hCA
 have m1 : ∀ w, (method 472 97 (.slice a A.length cp) "usher/gate.many").run prog w = .ok (213, .slice a A.length cp) w := fun _ => by kernel_rfl
 have m2 : ∀ w, (method 472 97 (.slice a A.length cp) "usher/gate.at").run prog w = .ok (212, .slice a A.length cp) w := fun _ => by kernel_rfl
 have HK:=KL (show ((w.alloc (.cells CA 36 (0,0))).alloc (.cells bS 56 (0,0))).heap[w.heap.size]?=some (.cells CA 36 (0,0)) from (KQ _ _ _ (by simp)).trans (aB _ rfl))
 have HZ:=KL (show ((w.alloc (.cells CA 36 (0,0))).alloc (.cells bS 56 (0,0))).heap[w.heap.size+1]?=some (.cells bS 56 (0,0)) from aB _ (by simp))
 have HB0:=KL (show Below w.heap.size w ((w.alloc (.cells CA 36 (0,0))).alloc (.cells bS 56 (0,0))) from ((KM _ _).alloc (KY _) _).alloc (by simp) _)
 clear hc hA hE hg r0 hCA
 go_in
 go_wp2_with (refine LO rfl 36 (.tmp 2) rfl w.heap.size rfl 36 CA (0,0) _ HK.out underlying36 rfl HCI.out ?_)
 refine dA _ (fun wb hwb=>?_)
 have hb0:Below w.heap.size w wb:=by rw [hwb];exact HB0.out
 have hz0:wb.heap[w.heap.size+1]?=some (.cells bS 56 (0,0)):=by rw [hwb];exact HZ.out
 clear hwb HK HZ HB0
 rw [HCA.out]
 refine (EF c HC.out wb).mono ?_
 rintro e w1 ⟨V,rfl,hk1,hb1⟩
 obtain ⟨AW,hAW⟩:∃ AW,AW=(dz (dD c) V).toArray:=⟨_,rfl⟩
 rw [<- hAW]
 have HAW:=KL hAW
 have HWI:=KL (show (prog.info? 56).map (·.size)=some AW.size by rw [hAW];show _=some 26;kernel_rfl)
 have HWZ:=KL (show AW.size=26 by rw [hAW];rfl)
 have HW1:=KL (show AW.all (·.oneCell')=true by rw [hAW];exact kH hk1)
 have HK1:=KL hk1
 have h01:=hb0.trans (hb1.mono hb0.size)
 have l0:=lt_of_block hz0
 have hz1:=aj hb1 hz0 l0
 have H01:=KL h01
 have HZ1:=KL hz1
 have hs1:=hb1.size
 clear hAW hk1 hb0 hb1 h01 hz0 hz1
 go_wp2_with (first|(refine LP rfl 56 (.tmp 7) (.tmp 20) rfl w1.heap.size AW rfl rfl 56 _ (aB _ rfl) HWI.out (by rw [HWZ.out];rfl) HW1.out ?_;refine bA _ (fun w2 hw2=>?_);have k2:w2.heap[w1.heap.size]?=some (.cells AW 56 (0,0)):=(by rw [hw2];exact bB (aB _ rfl));have b2:Below w1.heap.size w1 w2:=(by rw [hw2];exact aV ((KM _ _).alloc (KY _) _) (KY _));have K2:=KL k2;have B2:=KL b2;clear hw2 k2 b2)|(go_at_call 213;refine (prog_smany _ _ _ _).mono ?_;rintro e w_ ⟨rfl,hE⟩;subst w_))
 obtain ⟨q,hq⟩:∃ q,q=w1.heap.size:=⟨_,rfl⟩
 have HR0:=KL (show RunA w.heap.size (w.heap.size+1) q w w2 (actW (dD c) (A.take 0)) V [] (.slice none 0 0) from by
  have hwk:WK (fun b=>b≠q/\(Value.slice none 0 0).ownBlock≠some b) w2 (dD c) V:=by
   refine WK.keep (HK1.out.imp (fun b hb _=>⟨by omega,by simp [Value.ownBlock]⟩)) B2.out.size (fun b hb _=>B2.out.block b hb)
  exact ⟨by rw [hq,K2.out,HAW.out];rfl,aj B2.out HZ1.out (lt_of_block HZ1.out),hwk,rfl,LJ _ _ _ _,fun i hi=>absurd hi (Nat.not_lt_zero i),H01.out.trans (B2.out.mono H01.out.size),⟨by omega,by omega,by omega⟩,fun b e=>by simp [Value.ownBlock] at e⟩)
 rw [<- hq]
 clear HK1 HZ1 H01 B2 K2 HWI HWZ HW1 HAW hs1 l0 hq
 go_loopw [9,32] (fun v i wr=>∃ (k:Nat) (V:Vs) (VV:List Value),k<=A.length/\i=.int .i64 k/\RunA w.heap.size (w.heap.size+1) q w wr (actW (dD c) (A.take k)) V VV v) (fun _ i _=>A.length - (intOf i).toNat)
 case atStart=>exact ⟨0,V,[],La _,rfl,HR0.out⟩
 case round=>
  obtain ⟨k,V,VV,hk,rfl,hrr⟩:=hrel
  have hlen:=actW_len (dD c) A hk
  obtain ⟨av,cv,ev,_⟩:=aE hrr.ow
  rw [hlen] at ev
  subst ev
  have hmay:=act_may HC.out HL.out h4 hk
  have hsu:k<A.length->actW (dD c) (A.take (k+1))=actF (actW (dD c) (A.take k)) (A.getD k acZ):=fun h=>by rw [take_ac h,actW_snoc]
  obtain ⟨R,hR⟩:∃ R,R=actW (dD c) (A.take k):=⟨_,rfl⟩
  rw [<- hR] at hrr hlen hmay hsu
  obtain ⟨AW,hAW⟩:∃ AW,AW=(dz R.1 V).toArray:=⟨_,rfl⟩
  have hbk:=hrr.bk
  rw [<- hAW] at hbk
  have HBk:=KL hbk
  have HAW:=KL hAW
  have HWI:=KL (show (prog.info? 56).map (·.size)=some AW.size by rw [hAW];show _=some 26;kernel_rfl)
  have HWZ:=KL (show AW.size=26 by rw [hAW];rfl)
  have HW1:=KL (show AW.all (·.oneCell')=true by rw [hAW];exact kH hrr.wk)
  have HRr:=KL hrr
  have HMy:=KL hmay
  have HLn:=KL hlen
  have lq:=lt_of_block hbk
  have lN:w.heap.size<=wr.heap.size:=hrr.be.size
  clear hrr hmay hlen hbk hAW
  rcases (show k<A.length\/k=A.length by omega) with hlt|rfl
  ·have hlt':(k:Int)<(A.length:Int):=by omega
   have hAt:=fun x c h1 h2=>prog_sat (x:=x) (c:=c) (HR.out.below HRr.out.be) HFl.out hlt h1 h2
   have hac:=HA.out k hlt
   have hsu':=hsu hlt
   obtain ⟨ac,hx⟩:∃ ac,ac=A.getD k acZ:=⟨_,rfl⟩
   rw [<- hx] at hac hsu'
   have HSu:=KL hsu'
   obtain ⟨Dn,hDn⟩:∃ Dn,Dn=(match ac with|.inl x=>x|.inr _=>Ev.zero):=⟨_,rfl⟩
   obtain ⟨EA,hEA⟩:∃ EA,EA=(Ev.cells Dn).toArray:=⟨_,rfl⟩
   have HEA:=KL hEA
   have HEI:=KL (show (prog.info? 61).map (·.size)=some EA.size by rw [hEA];show _=some 8;kernel_rfl)
   have HEZ:=KL (show EA.size=8 by rw [hEA];rfl)
   have HE1:=KL (show EA.all (·.oneCell')=true by rw [hEA];simp [Ev.cells,Value.oneCell'])
   clear hx hsu hsu' hR
   have HOw:=KL (show wr.ownsRow w.heap.size 68 1 (.slice av k cv) k VV by have h1:=HRr.out.ow;rw [HLn.out] at h1;exact h1)
   obtain ⟨i0,hi,hi0,hi1,hi2⟩:=info_parts info_OS
   rcases ac with x|cd
   ·obtain ⟨ha1,ha2,hgd⟩:=hac
    have hat:=hAt x 0 ha1 ha2
    unfold AtE at hat
    rw [if_pos rfl,show (Ev.cells x).toArray=EA by rw [hEA,hDn]] at hat
    have HAt:=KL hat
    have HGd:=KL hgd
    have HEA:=KL (show EA=(Ev.cells x).toArray by rw [hEA,hDn])
    clear hat ha1 ha2 hgd hAt hEA hDn
    go_wp2_with (first|(go_at_call 212;refine HAt.out.mono ?_;rintro e w3 ⟨rfl,hb3⟩)|(refine LP rfl 61 (.tmp 11) (.tmp 39) rfl w3.heap.size EA rfl rfl 61 _ (aB _ rfl) HEI.out (by rw [HEZ.out];rfl) HE1.out ?_;refine bA _ (fun w4 hw4=>?_);have k4:w4.heap[w3.heap.size]?=some (.cells EA 61 (0,0)):=(by rw [hw4];exact bB (aB _ rfl));have b4:Below w3.heap.size w3 w4:=(by rw [hw4];exact aV ((KM _ _).alloc (KY _) _) (KY _));clear hw4)|(go_at_call 28;refine (prog_asNil _ _).mono ?_;rintro e w_ ⟨rfl,hE⟩;subst w_;refine bA _ (fun w5 hw5=>?_);have b45:Below w4.heap.size w4 w5:=(by rw [hw5];exact (KM _ _).alloc (KY _) _);have b5:Below wr.heap.size wr w5:=hb3.trans ((b4.trans (b45.mono b4.size)).mono hb3.size);have K5:=KL (aj b45 k4 (lt_of_block k4));have B5:=KL b5;have Q5:=KL (aj b5 HBk.out lq);clear hw5 b45 b5 k4 b4 hb3)|(refine LO rfl 56 (.tmp 7) rfl q rfl 56 AW (0,0) _ Q5.out underlying56 rfl HWI.out ?_)|(refine LO rfl 61 (.tmp 11) rfl w3.heap.size rfl 61 EA (0,0) _ K5.out underlying61 rfl HEI.out ?_))
    rw [HAW.out,HEA.out]
    refine (Bc (HRr.out.wk.wa.below B5.out) HMy.out.1 x HGd.out.ok (HGd.out.may (by have:=HMy.out.2;omega))).mono ?_
    rintro e w6 ⟨V6,a6,c6,rfl,hk6,hr6,hb6⟩
    obtain ⟨AY,hAY⟩:∃ AY,AY=(dz (nM R.1 x).1 V6).toArray:=⟨_,rfl⟩
    rw [<- hAY]
    have HAY:=KL hAY
    have HYI:=KL (show (prog.info? 56).map (·.size)=some AY.size by rw [hAY];show _=some 26;kernel_rfl)
    have HYZ:=KL (show AY.size=26 by rw [hAY];rfl)
    have HY1:=KL (show AY.all (·.oneCell')=true by rw [hAY];exact kH hk6)
    have HK6:=KL hk6
    have HR6:=KL hr6
    have B6:=KL (B5.out.trans (hb6.mono B5.out.size))
    have hs5:=B5.out.size
    have hs6:=hb6.size
    have HQ6:=KL (aj B6.out HBk.out lq)
    have hoL:(nM R.1 x).2.length<=maxLen:=by
     obtain ⟨_,_,e,g1,g2,_⟩:=hr6.1
     simp only [Value.slice.injEq,Lh] at e g1
     omega
    obtain ⟨no,hno⟩:∃ n,n=(nM R.1 x).2.length:=⟨_,rfl⟩
    rw [<- hno] at HR6 ⊢
    clear hAY hk6 hr6 hb6 hoL hno
    go_wp2_with (first|(refine LP rfl 56 (.tmp 14) (.tmp 54) rfl w6.heap.size AY rfl rfl 56 _ (aB _ rfl) HYI.out (by rw [HYZ.out];rfl) HY1.out ?_;refine bA _ (fun w7 hw7=>?_);have K7:=KL (show w7.heap[w6.heap.size]?=some (.cells AY 56 (0,0)) by rw [hw7];exact bB (aB _ rfl));have B7:=KL (show Below w6.heap.size w6 w7 by rw [hw7];exact aV ((KM _ _).alloc (KY _) _) (KY _));have Q7:=KL (aj B7.out HQ6.out (lt_of_block HQ6.out));clear hw7)|(refine LO rfl 56 (.tmp 14) rfl w6.heap.size rfl 56 AY (0,0) _ K7.out underlying56 rfl HYI.out ?_)|(refine bQ rfl 56 (.tmp 7) (.tmp 61) rfl q AY rfl rfl 56 _ Q7.out HYI.out (by rw [HYZ.out,HWZ.out]) HY1.out ?_;intro w8 q8 f8 s8 b8;have Q8:=KL q8;have F8:=KL f8;have S8:=KL s8;have B8:=KL b8;have HO8:=KL (show w8.ownsRow w.heap.size 68 1 (.slice av k cv) k VV from aZ (bF HOw.out (B6.out.trans (B7.out.mono B6.out.size))) (fun b e=>f8 b (HRr.out.sepv b e).1));clear q8 f8 s8 b8)|(at_builtin;refine fU _ rfl _ _ 71 rfl w.heap.size 68 i0 (.slice none 0 0) 1 24 underlying71 hi hi0 hi1 hi2 rfl (by decide) (.slice av k cv) k VV rfl (HO8.out.alloc _) ⟨w8.heap.size,0,none⟩ 1 1 [.slice a6 no c6] rfl rfl (kJ [.slice a6 no c6] 68) (by intro u hu;simp at hu;subst hu;rfl) (by decide) (by unfold maxLen;omega) (by omega) (by simp;have:=B8.out.size;have:=B7.out.size;omega) ?_;intro v9 w9 hown9 hgr9 hnew9;obtain ⟨a9,c9,e9,_⟩:=aE hown9;subst e9;have H9:=KL (And.intro hown9 (And.intro hgr9 hnew9));clear hown9 hgr9 hnew9))
    go_roundw
    case rel=>
     have h9:=H9.out
     refine ⟨k+1,V6,VV++[.slice a6 no c6],by omega,by go_num,?_⟩
     rw [HSu.out]
     have hsz8:=S8.out
     have hsz7:=B7.out.size
     have hs9:w8.heap.size<=w9.heap.size:=by have:=h9.2.1.size;simp at this;omega
     have hf9:∀ b,b<w8.heap.size->(Value.slice av k cv).ownBlock≠some b->w9.heap[b]?=w8.heap[b]?:=fun b hb hn=>(h9.2.1.block b (by simp;omega) (fun e=>hn e.symm)).trans (KQ _ _ _ hb)
     have hb9:Below w.heap.size w w9:=((HRr.out.be.trans (B6.out.mono lN)).trans ((B7.out.mono (by omega)).trans (B8.out.mono HRr.out.nq.1))).trans (cP (wr:=w8) ((KM _ _).alloc (KY _) _) (by omega) HO8.out h9.2.1)
     refine RunA.push (M:=w5.heap.size) (w5:=w7) (w6:=w8) HRr.out lN (B6.out.trans (B7.out.mono B6.out.size)) hs5 ((HK6.out.keep B7.out.size (fun b hb _=>B7.out.block b hb)).imp (fun b _ hb=>⟨by omega,fun e=>by have:=(HRr.out.ow.lt b e).2;omega⟩)) ?_ (by rw [Q8.out,HAY.out]) F8.out S8.out (by rw [HLn.out];exact h9.1) hf9 hs9 (fun b e=>?_) hb9
     ·exact bI (eE HR6.out) B7.out.size (fun b hb _=>B7.out.block b hb)
     ·rcases h9.2.2 b e with g|g
      ·exact Or.inl g
      ·exact Or.inr (by simp at g;omega)
    case measure=>simp [intOf];omega
   ·obtain ⟨ha1,ha2,hc0⟩:=hac
    have hat:=hAt Ev.zero cd ha1 ha2
    unfold AtE at hat
    rw [if_neg hc0,show (Ev.cells Ev.zero).toArray=EA by rw [hEA,hDn]] at hat
    have HAt:=KL hat
    clear hat ha1 ha2 hc0 hAt hEA hDn
    go_wp2_with (first|(go_at_call 212;refine HAt.out.mono ?_;rintro e w3 ⟨rfl,hb3⟩)|(refine LP rfl 61 (.tmp 11) (.tmp 39) rfl w3.heap.size EA rfl rfl 61 _ (aB _ rfl) HEI.out (by rw [HEZ.out];rfl) HE1.out ?_;refine bA _ (fun w4 hw4=>?_);have k4:w4.heap[w3.heap.size]?=some (.cells EA 61 (0,0)):=(by rw [hw4];exact bB (aB _ rfl));have b4:Below w3.heap.size w3 w4:=(by rw [hw4];exact aV ((KM _ _).alloc (KY _) _) (KY _));clear hw4))
    refine dA _ (fun w5 hw5=>?_)
    have k5:w5.heap[w4.heap.size]?=some (.cells #[.int .i64 0] 62 (0,0)):=by rw [hw5];exact aB _ rfl
    have l5:wr.heap.size<=w4.heap.size:=by have:=b4.size;have:=hb3.size;omega
    have b5:Below wr.heap.size wr w5:=by rw [hw5];exact (hb3.trans (b4.mono hb3.size)).alloc l5 _
    refine (as_bad cd k5 l5 b5 (ah (HRr.out.be.trans (b5.mono lN)) HGl.out (bV HGl.out))).mono ?_
    rintro e w6 ⟨rfl,hb6,c6⟩
    have B6:=KL hb6
    have lt6:=bV c6
    have hs6:=hb6.size
    clear hw5 k5 b5 hb6 k4 b4 hb3
    go_wp2_with (at_builtin;obtain ⟨wa,hwa⟩:∃ wa,wa=w6.alloc (.cells (Out.cells (badO cd)).toArray 75):=⟨_,rfl⟩;have hsa:wa.heap.size=w6.heap.size+1:=(by rw [hwa];simp);have hka:wa.heap[w6.heap.size]?=some (.cells (Out.cells (badO cd)).toArray 75 (0,0)):=(by rw [hwa];exact aB _ rfl);have hba:Below wr.heap.size wr wa:=(by rw [hwa];exact B6.out.alloc hs6 _);have KA:=KL hka;have BA:=KL hba;have HOa:=KL (bF HOw.out hba);go_loud (simp only [Out.cells,badO] at hwa;rw [<- hwa]);(try rw [<- hsa]);clear hwa hka hba;go_loud (refine fU _ rfl _ _ 71 rfl w.heap.size 68 i0 (.slice none 0 0) 1 24 underlying71 hi hi0 hi1 hi2 rfl (by decide) (.slice av k cv) k VV rfl (HOa.out.alloc _) ⟨wa.heap.size,0,none⟩ 1 1 [.slice (some ⟨w6.heap.size,0,none⟩) 1 1] rfl rfl (kJ [.slice (some ⟨w6.heap.size,0,none⟩) 1 1] 68) (by intro u hu;simp at hu;subst hu;rfl) (by decide) (by unfold maxLen;omega) (by omega) (by simp;omega) ?_);intro v9 w9 hown9 hgr9 hnew9;obtain ⟨a9,c9,e9,_⟩:=aE hown9;subst e9;have H9:=KL (And.intro hown9 (And.intro hgr9 hnew9));clear hown9 hgr9 hnew9)
    go_roundw
    case rel=>
     have h9:=H9.out
     refine ⟨k+1,V,VV++[.slice (some ⟨w6.heap.size,0,none⟩) 1 1],by omega,by go_num,?_⟩
     rw [HSu.out]
     have hs9:wa.heap.size<=w9.heap.size:=by have:=h9.2.1.size;simp at this;omega
     have hf9:∀ b,b<wa.heap.size->(Value.slice av k cv).ownBlock≠some b->w9.heap[b]?=wa.heap[b]?:=fun b hb hn=>(h9.2.1.block b (by simp;omega) (fun e=>hn e.symm)).trans (KQ _ _ _ hb)
     have hb9:Below w.heap.size w w9:=(HRr.out.be.trans (BA.out.mono lN)).trans (cP (wr:=wa) ((KM _ _).alloc (KY _) _) (by omega) HOa.out h9.2.1)
     refine RunA.push (M:=w6.heap.size) (w5:=wa) (w6:=wa) (R1:=R.1) (O:=[badO cd]) HRr.out lN BA.out hs6 (HRr.out.wk.keep BA.out.size (fun b hb _=>BA.out.block b hb)) ⟨row_one (badO cd) KA.out,fun b o n c e _=>?_⟩ (by rw [aj BA.out HBk.out lq,HAW.out]) (fun _ _=>rfl) rfl (by rw [HLn.out];exact h9.1) hf9 hs9 (fun b e=>?_) hb9
     ·injection e with e _ _
      injection e with e
      injection e with e _ _
      omega
     ·rcases h9.2.2 b e with g|g
      ·exact Or.inl g
      ·exact Or.inr (by simp at g;omega)
    case measure=>simp [intOf];omega
  ·have hge:¬ (A.length:Int)<(A.length:Int):=by omega
   have hfr:∀ w',(∀ b,b≠w.heap.size+1->w'.heap[b]?=wr.heap[b]?)->w'.heap.size=wr.heap.size->OutsN w.heap.size w' (.slice av A.length cv) R.2:=fun w' f s=>by
    have h:=HRr.out
    refine ⟨VV,h.vl,eE (aG (e:=68) (n:=R.2.length) ?_ (by simp [h.vl]) (by intro c hc;obtain ⟨x,_,rfl⟩:=LH.1 hc;rfl)),fun i hi=>bU (bI (h.ro i hi) (by omega) (fun b _ hb=>f b hb.2.1.2)) (fun b _ hb=>hb.2.1.1)⟩
    rw [flat_one]
    exact aZ h.ow (fun b e=>f b (h.sepv b e).2)
   rw [List.take_length] at hR
   have HFr:=KL hfr
   have HRe:=KL hR
   have HZr:=KL HRr.out.rz
   have HBe:=KL HRr.out.be
   clear hfr hR hsu
   go_wp2_with (first|(refine LO rfl 56 (.tmp 7) rfl q rfl 56 AW (0,0) _ HBk.out underlying56 rfl HWI.out ?_)|(refine bQ rfl 56 (.tmp 4) (.tmp 67) rfl (w.heap.size+1) AW rfl rfl 56 _ HZr.out HWI.out (by rw [HWZ.out];rfl) HW1.out ?_;intro w3 h3 f3 s3 b3;have H3:=KL h3;have F3:=KL f3;have S3:=KL s3;have B3:=KL b3;clear h3 f3 s3 b3))
   refine LN (v:=.tuple #[.agg AW,.slice av A.length cv,.int .i64 0]) ?_ rfl ?_
   ·exact mU results17 _ _ (w.heap.size+1) 56 AW (0,0) _ _ _ rfl rfl rfl H3.out underlying56 rfl HWI.out
   ·have g2:=HFr.out w3 F3.out S3.out
    rw [HRe.out] at g2
    exact ⟨AW,av,cv,rfl,HWZ.out,HW1.out,g2,HBe.out.trans (B3.out.mono (by omega))⟩
theorem prog_Play {c:Cf} (hc:jC c) {zc:List (List Int)} {A:List Ac} (hF:A.length=zc.length) (hA:∀ i,i<A.length->FrAc (zc.getD i []) (A.getD i acZ)) (hE:∀ e∈evsA A,EvGood e) (h4:A.length<=4000) {w:World} (I:w.cell? ⟨0,0,none⟩=some (.iface 214 (.agg #[.pointer (some ⟨1,118,none⟩)]))) {a:Option Addr} {cp:Nat} (r0:FrAt w (.slice a A.length cp) zc) :
  Calls prog 7 #[.agg (Cf.cells c).toArray,.slice a A.length cp] w (PlayPost w c A):=by
 have z:=KL (show Below w.heap.size w ((w.alloc (.cells (Cf.cells c).toArray 36 (0,0))).alloc (.cells bS 56 (0,0))) from ((KM _ _).alloc (KY _) _).alloc (by simp) _)
 have J:=KL (prog_runA hc hF hA hE h4 (ah z.out I (bV I)) (r0.below z.out))
 obtain ⟨CA,E⟩:∃ CA,CA=(Cf.cells c).toArray:=⟨_,rfl⟩
 rw [<- E] at z J ⊢
 have a5:=KL (show (prog.info? 36).map (·.size)=some CA.size by rw [E];exact vu c)
 have HK:=KL (show ((w.alloc (.cells CA 36 (0,0))).alloc (.cells bS 56 (0,0))).heap[w.heap.size]?=some (.cells CA 36 (0,0)) from (KQ _ _ _ (by simp)).trans (aB _ rfl))
 have HZ:=KL (show ((w.alloc (.cells CA 36 (0,0))).alloc (.cells bS 56 (0,0))).heap[w.heap.size+1]?=some (.cells bS 56 (0,0)) from aB _ (by simp))
 clear hF hc hA hE I r0 E
 go_in
 go_wp2_with (refine LO rfl 36 (.tmp 2) rfl w.heap.size rfl 36 CA (0,0) _ HK.out underlying36 rfl a5.out ?_)
 refine J.out.mono ?_
 rintro e w1 ⟨h,Y,c1,rfl,a3,a0,a2,G⟩
 have U:=KL (show (prog.info? 56).map (·.size)=some h.size by rw [a3];kernel_rfl)
 have W:=KL a3
 have K:=KL a0
 have a7:=KL (aj G HZ.out (by simp))
 have a4:=KL (z.out.trans (G.mono z.out.size))
 have a6:=KL a2
 clear a2 G a0
 go_wp2_with (refine bQ rfl 56 (.tmp 4) (.tmp 11) rfl (w.heap.size+1) h rfl rfl 56 _ a7.out U.out (by rw [W.out];rfl) K.out ?_;intro w3 h3 f3 s3 Z;have H3:=KL h3;have F3:=KL f3;have S3:=KL s3;have B3:=KL Z;clear h3 f3 s3 Z)
 refine LN (v:=.tuple #[.agg h,.slice Y A.length c1,.int .i64 0]) ?_ rfl ?_
 ·exact mU results7 _ _ (w.heap.size+1) 56 h (0,0) _ _ _ rfl rfl rfl H3.out underlying56 rfl U.out
 ·have g2:=a6.out.keep (w':=w3) (by have:=S3.out;omega) (fun b _ hb=>F3.out b (by simp at hb;omega))
  exact ⟨h,Y,c1,rfl,W.out,K.out,g2.mono (by simp;omega),a4.out.trans (B3.out.mono (by omega))⟩
def isE:Ac->Bool
 | .inl _=>true
 | .inr _=>false
theorem wpList_copyB {w:World} {a0:Array Oper} {rest:List Oper} {o:Oper} {a:Act} {Q:Exit->Act->World->Prop} (U:o.guard=none) (s x:Operand) (Y:o.op=.call { callee:=.builtin .append,args:=#[s,x],argTypes:=#[65,65] })
  (hs:a.eval s=.slice none 0 0) {v:Value} {X:List Int} (hx:a.eval x=v) (r:aK w 1 v (byts X)) (hb:X.length*1<=140737488351232)
  (J:∀ v' w',aK w' 1 v' (byts X)->Below w.heap.size w w'->wpList prog a0 Q rest (a.put o.dst v') w'):wpList prog a0 Q (o :: rest) a w:=by
 obtain ⟨i0,W,a6,a7,a8⟩:=info_parts info_u8
 obtain ⟨h,a1,rfl,h1,h2,h3,h4⟩:=r
 have I:=byts_len X
 have K:(byts X).length=X.length:=by simp [byts]
 cases h with
 | none=>
  have hc:=h3 rfl
  have z:X=[]:=List.length_eq_zero_iff.1 (by omega)
  subst z hc
  exact wpList_append_own_none U s x 65 Y w.heap.size 5 i0 1 underlying65 W (.slice none 0 0) 0 [] hs (LJ _ _ _ _) hx (J _ _ (iG _ _) (KM _ _))
 | some h=>
  have a5:∀ G u,(byts X).flatten[G]?=some u->w.cell? (h.add G)=some u:=by
   by_cases z:X=[]
   ·subst z;intro G u E;simp [byts] at E
   ·obtain ⟨b,a9,a2,_,a3⟩:=h4 (by intro e;rw [e] at K;exact z (List.length_eq_zero_iff.1 K.symm))
    obtain rfl:=Option.some.inj a2
    exact Au (by decide) I a3
  refine wpList_append_own _ U s x 65 Y w.heap.size 5 i0 (.int .u8 0) 1 1 underlying65 W a6 a7 a8 rfl (by decide) (.slice none 0 0) 0 [] hs (LJ _ _ _ _) h (byts X).length a1 (byts X).flatten hx (aP I) a5 ?_ (by unfold maxLen;omega) (by omega) (KY _) fun v' w1 Z a4 _=>J v' w1 ?_ ((KM _ _).grown a4 (KY _) (fun G hk=>by cases hk))
  ·intro u E
   rw [flat_byts] at E
   obtain ⟨y,_,rfl⟩:=LH.1 E
   rfl
  ·simp only [Nat.zero_add,List.nil_append] at Z
   exact (aG Z rfl I).1
structure NzR (B:Nat) (w1 wr:World) (FA:List (List Int×Ac)) (VF:List Value) (v m:Value):Prop where
 ok:∀ p∈FA,FrAc p.1 p.2
 vl:VF.length=FA.length
 ov:wr.ownsRow B 65 1 v FA.length VF
 mrk:wr.ownsRow B 4 1 m FA.length (FA.map fun p=>.bool (isE p.2))
 ro:∀ i,i<FA.length->dj (fun b=>v.ownBlock≠some b/\m.ownBlock≠some b) wr 1 (VF.getD i undef) (byts (FA.getD i ([],acZ)).1)
 be:Below B w1 wr
 apt:∀ b,v.ownBlock=some b->m.ownBlock≠some b
theorem NzR.nil (B:Nat) (z:World):NzR B z z [] [] (.slice none 0 0) (.slice none 0 0):=
 ⟨fun I h=>absurd h List.not_mem_nil,rfl,LJ _ _ _ _,LJ _ _ _ _,fun E h=>absurd h (Nat.not_lt_zero E),KM _ _,fun G h=>by simp [Value.ownBlock] at h⟩
theorem NzR.below {B:Nat} {E wr J:World} {G:List (List Int×Ac)} {I:List Value} {v m:Value} (h:NzR B E wr G I v m) (U:B<=E.heap.size) (z:Below wr.heap.size wr J):NzR B E J G I v m:=
 ⟨h.ok,h.vl,bF h.ov z,bF h.mrk z,fun Z W=>bI (h.ro Z W) z.size (fun K Y _=>z.block K Y),h.be.trans (z.mono (Lz U h.be.size)),h.apt⟩
theorem NzR.push {B:Nat} {w1 G I U:World} {E:List (List Int×Ac)} {VF:List Value} {v m Z m4 x:Value} {L:List Int} {a:Ac} (J:NzR B w1 G E VF v m) (hf:FrAc L a) (hx:dj (fun b=>v.ownBlock≠some b/\m.ownBlock≠some b) G 1 x (byts L))
  (o3:I.ownsRow B 65 1 Z (E.length+1) (VF++[x])) (f3:∀ b,b<G.heap.size->v.ownBlock≠some b->I.heap[b]?=G.heap[b]?) (s3:G.heap.size<=I.heap.size) (n3:∀ b,Z.ownBlock=some b->v.ownBlock=some b\/G.heap.size<=b)
  (o4:U.ownsRow B 4 1 m4 (E.length+1) ((E.map fun p=>.bool (isE p.2))++[.bool (isE a)])) (f4:∀ b,b<I.heap.size->m.ownBlock≠some b->U.heap[b]?=I.heap[b]?) (s4:I.heap.size<=U.heap.size) (n4:∀ b,m4.ownBlock=some b->m.ownBlock=some b\/I.heap.size<=b) (b4:Below B w1 U) :
  NzR B w1 U (E++[(L,a)]) (VF++[x]) Z m4:=by
 have lm:∀ b,m.ownBlock=some b->b<G.heap.size:=fun b z=>(J.mrk.lt b z).2
 have l3:∀ b,Z.ownBlock=some b->b<I.heap.size/\m.ownBlock≠some b:=fun b z=>⟨(o3.lt b z).2,fun e2=>by
  rcases n3 b z with h|h
  ·exact J.apt b h e2
  ·have:=lm b e2;omega⟩
 have a0:∀ {y:Value} {Y:List (List Value)},dj (fun b=>v.ownBlock≠some b/\m.ownBlock≠some b) G 1 y Y->dj (fun b=>Z.ownBlock≠some b/\m4.ownBlock≠some b) U 1 y Y:=fun hy=>
  bU (bI (bU hy (K':=fun b=>b<G.heap.size/\v.ownBlock≠some b/\m.ownBlock≠some b) (fun b h1 K=>⟨h1,K⟩)) (by omega) (fun b h1 K=>(f4 b (by omega) K.2.2).trans (f3 b h1 K.2.1)))
   (fun b _ K=>⟨fun z=>by
    rcases n3 b z with h|h
    ·exact K.2.1 h
    ·omega,fun z=>by
    rcases n4 b z with h|h
    ·exact K.2.2 h
    ·omega⟩)
 have ln:(E++[(L,a)]).length=E.length+1:=by simp
 refine ⟨fun p W=>?_,?_,?_,?_,fun i hi=>?_,b4,fun b z e2=>?_⟩
 ·rcases List.mem_append.1 W with W|W
  ·exact J.ok p W
  ·rw [List.mem_singleton.1 W];exact hf
 ·rw [ln,Ll,J.vl];rfl
 ·rw [ln];exact aZ o3 (fun b z=>f4 b (l3 b z).1 (l3 b z).2)
 ·rw [ln,LG];exact o4
 ·rw [ln] at hi
  rw [tT VF x undef i (by rw [J.vl];exact hi),tT E (L,a) ([],acZ) i hi,J.vl]
  by_cases h:i<E.length
  ·rw [if_pos h,if_pos h];exact a0 (J.ro i h)
  ·rw [if_neg h,if_neg h];exact a0 hx
 ·rcases n4 b e2 with h|h
  ·exact (l3 b z).2 h
  ·have:=(l3 b z).1;omega
theorem NzR.fr {B:Nat} {K wr:World} {h:List (List Int×Ac)} {I:List Value} {v m:Value} (z:NzR B K wr h I v m):FrAt wr v (h.map (·.1)):=by
 refine ⟨I,by rw [z.vl,Lh],(aG (e:=65) (n:=h.length) (by rw [flat_one];exact z.ov) (by simp [z.vl]) (by intro U J;obtain ⟨W,_,rfl⟩:=LH.1 J;rfl)).1,fun G E=>?_⟩
 rw [Lh] at E
 rw [show (h.map (·.1)).getD G []=(h.getD G ([],acZ)).1 by rw [aQ E,aQ (by simpa using E),List.getElem_map]]
 exact (z.ro G E).1
theorem app_one {ws w6:World} {B n c e sz:Nat} {a:Option Addr} {z:Value} {cs:List Value} {o:Obj} (U:ws.ownsRow B e sz (.slice a n c) n cs) (I:B<=ws.heap.size) (h:(ws.alloc o).grownBy w6 (Value.slice a n c).ownBlock) (K:∀ b,z.ownBlock=some b->(Value.slice a n c).ownBlock=some b\/(ws.alloc o).heap.size<=b) :
  ws.heap.size<=w6.heap.size/\(∀ b,b<ws.heap.size->(Value.slice a n c).ownBlock≠some b->w6.heap[b]?=ws.heap[b]?)/\(∀ b,z.ownBlock=some b->(Value.slice a n c).ownBlock=some b\/ws.heap.size<=b)/\Below B ws w6:=
 ⟨by have:=h.size;simp at this;omega,fun b J G=>(h.block b (by simp;omega) (fun e=>G e.symm)).trans (KQ _ _ _ J),fun b e=>(K b e).imp id (fun E=>by simp at E;omega),cP (wr:=ws) ((KM _ _).alloc (KY _) _) I U h⟩
theorem name_wp {c:Code} {Q:Exit->Act->World->Prop} {a:Act} (w:World) (h:∀ w',w'=w->Code.wp prog c Q a w'):Code.wp prog c Q a w:=h w rfl
theorem RowK_lt {w:World} {sz:Nat} {v:Value} {L:List (List Value)} (z:aK w sz v L):dj (fun b=>b<w.heap.size) w sz v L:=⟨z,fun b o n c e G=>by
 obtain ⟨a,J,h,_,_,_,g⟩:=z
 obtain ⟨I,U,E,K,_⟩:=g G
 rw [e,E] at h
 injection h with h _ _
 injection h with h
 injection h with h _ _
 omega⟩
theorem dec_zero {L:List Int} {x:Ev} {c:Int} (h:DecAns L x c) (z:c≠0):DecAns L Ev.zero c:=by
 have:x=Ev.zero:=by
  rcases h with ⟨_,h,_⟩|⟨_,h,_⟩|⟨_,_,_,h,_⟩|⟨_,_,_,_,h⟩
  ·exact h
  ·exact h
  ·exact h
  ·rw [h,if_neg z]
 rw [<- this];exact h
theorem info_Evs:(prog.info? 61).map (fun i=>(i.zero,i.size,i.bytes))=some (some (.agg #[.int .i64 0,.int .i64 0,.int .i64 0,.int .i64 0,.bool false,.int .i64 0,.int .i64 0,.int .i64 0]),8,64):=by kernel_rfl
theorem prog_same {w:World} {A:List Out} {I J:Option Addr} {c1 c2:Nat} (Z:aK w 7 (.slice I A.length c1) (A.map Out.cells)) (h2:aK w 7 (.slice J A.length c2) (A.map Out.cells)) (w':World) (hw:∃ m,w'=w.drewN m) :
  Calls prog 8 #[.slice I A.length c1,.slice J A.length c2] w' fun e a7=>e=.returned (.bool true)/\∃ m,a7=w.drewN m:=by
 have hl:A.length<=maxLen:=by
  obtain ⟨_,_,e,g1,g2,_⟩:=Z
  simp only [Value.slice.injEq,Lh] at e g1
  omega
 have a9:A.length<=9223372036854775807:=by unfold maxLen at hl;omega
 have HW:=KL hw
 have H1:=KL Z
 have H2:=KL h2
 clear Z h2 hl hw
 go_in
 go_wp2
 go_loopw [5] (fun i wr=>∃ h:Nat,h<=A.length/\i=.int .i64 h/\∃ m,wr=w.drewN m) (fun i _=>A.length - (intOf i).toNat)
 case atStart=>exact ⟨0,La _,rfl,HW.out⟩
 case round=>
  obtain ⟨h,hk,rfl,m,rfl⟩:=hrel
  rcases (show h<A.length\/h=A.length by omega) with z|rfl
  ·have aa:(h:Int)<(A.length:Int):=by omega
   have k0:(0:Int)<=(h:Int):=by omega
   obtain ⟨_,_,K,_,_,_,p1⟩:=aO Out.zero H1.out
   obtain ⟨_,_,U,_,_,_,p2⟩:=aO Out.zero H2.out
   injection K with K _ _
   injection U with U _ _
   obtain ⟨W,o1,e3,_,E⟩:=p1 (by intro e;rw [e] at z;simp at z)
   obtain ⟨Y,o2,e4,_,G⟩:=p2 (by intro e;rw [e] at z;simp at z)
   rw [<- K] at e3
   rw [<- U] at e4
   subst e3 e4
   have a0:=E h 0 z (by omega)
   have I:=E h 1 z (by omega)
   have J:=E h 2 z (by omega)
   have a3:=E h 3 z (by omega)
   have a4:=E h 4 z (by omega)
   have a5:=E h 5 z (by omega)
   have a6:=E h 6 z (by omega)
   have b0:=G h 0 z (by omega)
   have W:=G h 1 z (by omega)
   have Y:=G h 2 z (by omega)
   have b3:=G h 3 z (by omega)
   have b4:=G h 4 z (by omega)
   have b5:=G h 5 z (by omega)
   have b6:=G h 6 z (by omega)
   obtain ⟨x,hx⟩:∃ x,x=A.getD h Out.zero:=⟨_,rfl⟩
   rw [<- hx] at a0 I J a3 a4 a5 a6 b0 W Y b3 b4 b5 b6
   obtain ⟨x0,x1,x2,x3,x4,x5,x6⟩:=x
   simp only [Out.cells,Lb,Lc,Nat.add_zero] at a0 I J a3 a4 a5 a6 b0 W Y b3 b4 b5 b6
   clear hx E G p1 p2 K U
   go_upto_region 6 with fail
   go_quiet (fail)
   go_wp2
   go_roundw
   case rel=>exact ⟨h+1,by omega,by go_num,_,by first|rfl|simp⟩
   case measure=>simp [intOf];omega
  ·have a8:¬ (A.length:Int)<(A.length:Int):=by omega
   go_wp2
   go_ret
   exact ⟨rfl,_,rfl⟩
theorem PG.se {B p:Nat} {w:World} {c:Cf} {P:mc} {Z:Vs} {Y:List Ms} {vs vg:Value} (J:PG B p w c P Z Y vs vg) :
  ∃ a cp,w.cell? ⟨p,16,none⟩=some (.slice a P.steps.length cp)/\∀ i,i<P.steps.length->∃ b o,a=some ⟨b,o,none⟩/\b<w.heap.size/\(∀ j v,(Ev.cells (P.steps.getD i Stp.zero).ev)[j]?=some v->w.cell? ⟨b,o+i*61+j,none⟩=some v)/\
   ∃ h z,w.cell? ⟨b,o+i*61+60,none⟩=some (.slice h (P.steps.getD i Stp.zero).out.length z)/\aK w 7 (.slice h (P.steps.getD i Stp.zero).out.length z) ((P.steps.getD i Stp.zero).out.map Out.cells):=by
 obtain ⟨a,cp,a0,h1⟩:=J.rd
 refine ⟨a,cp,a0,fun i K=>?_⟩
 obtain ⟨b,o,e,hb,hr⟩:=h1 (by omega)
 have U:=hr i K
 have W:=J.ws i K
 obtain ⟨h,z,I,_⟩:=ap W.o.1
 refine ⟨b,o,e,hb,fun j v G=>U j v ?_,h,z,?_,by rw [<- I];exact W.o.1⟩
 ·unfold qh
  rw [LR,G]
  rcases Nat.lt_or_ge j (Ev.cells (P.steps.getD i Stp.zero).ev).length with E|E
  ·exact E
  ·rw [Lu E] at G;cases G
 ·refine U 60 _ ?_
  rw [<- I];rfl
theorem range_cf {w:World} {p:Nat} {c:Cf} {vs h:Value} {X:Wd} {V:Vs} {T:TypeId} {fr:Nat×Nat} (z:w.heap[p]?=some (.cells (EO c vs X V h).toArray T fr)):w.rangeAt p 0 (Cf.cells c):=
 mp (A:=[]) (C:=[vs]++(dz X V++[h])) (T:=T) (fr:=fr) (by rw [z];simp [EO])
theorem info_LT:(prog.info? 65).map (fun i=>(i.zero,i.size,i.bytes))=some (some (.slice none 0 0),1,24):=by kernel_rfl
theorem info_BO:(prog.info? 4).map (fun i=>(i.zero,i.size,i.bytes))=some (some (.bool false),1,1):=by kernel_rfl
theorem walk_TopNoise (Z v1 v2:Value) (W:World) (hg:W.cell? ⟨0,0,none⟩=some (.iface 214 (.agg #[.pointer (some ⟨1,118,none⟩)]))) (o0:Is_Setup W Z) (o1:Is_sl_Deed W v1) (o2:Is_sl_sl_uint8 W v2):Calls prog 3 #[Z,v1,v2] W fun e w'=>e=.returned (.bool true)/\Below W.heap.size W w':=by
 obtain ⟨s,rfl,hs⟩:=o0
 obtain ⟨L,hr,hd,_⟩:=o1
 obtain ⟨av,cv,rfl,_⟩:=ap hr
 obtain ⟨VN,NN,al,bb,bv⟩:=o2
 obtain ⟨an,cn,rfl,_⟩:=ap bb
 rw [al]
 have ch:=JD s
 have d1:=zz ch L (most:=40) (by omega)
 have cl:∀ w',Below W.heap.size W w'->Calls prog 4 #[.agg (Su.cells s).toArray,.slice av L.length cv,.int .i64 ((40:Nat):Int)] w' (JZ w' (JE s) L 40):=fun w' hb=>Kj s hs L hd _ (aq hr hb) 40 (by omega)
 obtain ⟨c,hc⟩:∃ c,c=JE s:=⟨_,rfl⟩
 rw [<- hc] at cl ch d1
 obtain ⟨SA,cT⟩:∃ SA,SA=(Su.cells s).toArray:=⟨_,rfl⟩
 rw [<- cT] at cl ⊢
 have f8:=KL (show (prog.info? 24).map (·.size)=some SA.size by rw [cT];show _=some 16;kernel_rfl)
 have f5:=KL cl
 have HF:=KL ch
 have cw:=KL d1
 have dq:=KL hg
 have f3:=KL (And.intro al (And.intro bb bv))
 have HK:=KL (show (W.alloc (.cells SA 24 (0,0))).heap[W.heap.size]?=some (.cells SA 24 (0,0)) from aB _ rfl)
 have cy:=KL (show Below W.heap.size W (W.alloc (.cells SA 24 (0,0))) from (KM _ _).alloc (KY _) _)
 clear hs hd hr ch hc cT d1 cl hg al bb bv
 go_in
 go_wp2_with (first|(refine LO rfl 24 (.tmp 3) rfl W.heap.size rfl 24 SA (0,0) _ HK.out underlying24 rfl f8.out ?_)|(go_at_call 4;refine (f5.out _ cy.out).mono ?_;rintro e w1 ⟨K,VL,MS,vs,vg,rfl,bw,e8⟩;have eH:=cy.out.trans (e8.mono cy.out.size);have b1:=KL eH;have c6:=KL bw;clear e8 bw eH))
 obtain ⟨P,hP⟩:∃ P,P=iR (dD c) L 40:=⟨_,rfl⟩
 have bE:=run_play HF.out L (most:=40) (by omega)
 rw [<- hP] at c6 cw bE
 obtain ⟨n,hn⟩:∃ n,n=P.steps.length:=⟨_,rfl⟩
 have g6:4<=n/\n<=64:=by have h1:=cw.out.len;simp at h1;omega
 obtain ⟨EV,bj⟩:∃ EV,EV=P.steps.map Stp.ev:=⟨_,rfl⟩
 have eg:EV.length=n:=by rw [bj,Lh,hn]
 have ef:∀ e∈EV,EvGood e:=fun e he=>by
  rw [bj] at he
  obtain ⟨s,hs,rfl⟩:=LH.1 he
  exact (cw.out.ok.st s hs).2.2.1
 have eh:∀ k,k<n->EV.getD k Ev.zero=(P.steps.getD k Stp.zero).ev:=fun k hk=>by
  rw [aQ (by omega),aQ (by omega)];subst bj;rw [List.getElem_map]
 obtain ⟨fA,fK,da,d7⟩:=c6.out.se
 rw [<- hn] at da d7
 have cK:=KL da
 have dr:=KL d7
 have c2:=KL (lt_of_block c6.out.bk)
 have bX:=KL eg
 have dk:=KL ef
 have f0:=KL eh
 unfold RunP at bE
 rw [<- bj] at bE
 have f7:=KL bE
 have f2:=KL hn
 obtain ⟨i0,hi,ei,ej,ek⟩:=info_parts info_LT
 obtain ⟨j0,hj,el,em,en⟩:=info_parts info_BO
 have fY:=b1.out.size
 clear hP hn bj eg ef eh da d7 bE
 go_wp2
 go_loopw [9,10,11] (fun v m i wr=>∃ (k:Nat) (FA:List (List Int×Ac)) (VF:List Value),k<=n/\i=.int .i64 k/\FA.length<=2*k/\evsA (FA.map (·.2))=EV.take k/\NzR w1.heap.size w1 wr FA VF v m) (fun _ _ i _=>n - (intOf i).toNat)
 case atStart=>exact ⟨0,[],[],La _,rfl,La _,rfl,NzR.nil _ _⟩
 case round=>
  obtain ⟨k,FA,VF,hk,rfl,aL,b2,ba⟩:=hrel
  obtain ⟨af,cf,J,_⟩:=aE ba.ov
  subst J
  obtain ⟨am,cm,J,_⟩:=aE ba.mrk
  subst J
  have aa:=KL ba
  have aF:=KL b2
  have g8:=ba.be.size
  have ct:=ah ba.be cK.out c2.out
  have g5:=c2.out
  clear ba b2
  rcases (show k<n\/k=n by omega) with aS|rfl
  ·have fw:(k:Int)<(n:Int):=by omega
   have k0:(0:Int)<=(k:Int):=by omega
   obtain ⟨bs,os,rfl,fl,ab,_⟩:=dr.out k aS
   rw [<- f0.out k aS] at ab
   have aA:EV.take (k+1)=EV.take k++[EV.getD k Ev.zero]:=by
    have et:k<EV.length:=by rw [bX.out];exact aS
    rw [Li et,aQ et]
   have db:EvGood (EV.getD k Ev.zero):=by rw [aQ (by rw [bX.out];exact aS)];exact dk.out _ (Lp _)
   obtain ⟨x,hx⟩:∃ x,x=EV.getD k Ev.zero:=⟨_,rfl⟩
   rw [<- hx] at ab aA db
   obtain ⟨x0,x1,x2,x3,x4,x5,x6,x7⟩:=x
   have fb:=KL aA
   have ca:=KL db
   have HC:=KL (fun (wz:World) (hz:Below w1.heap.size w1 wz)=>And.intro (ah hz cK.out c2.out) (fun h v hj=>ah hz (ab h v hj) fl))
   clear hx ab aA db
   obtain ⟨xd,cd,ck⟩:=DecAns_total (NN.getD k [])
   rcases (show ¬ k<NN.length\/k<NN.length by omega) with es|es
   case' inl=>
    have fs:¬ (k:Int)<(NN.length:Int):=by omega
    clear ck
    go_upto_region 12 with fail
    refine name_wp _ (fun ws au=>?_)
    have z:=aa
    rw [<- au] at z
    obtain ⟨nf,E⟩:∃ nf,nf=FA.length:=⟨_,rfl⟩;rw [<- E] at z;rw [<- E];obtain ⟨I,ag⟩:∃ I,I=FA:=⟨_,rfl⟩;obtain ⟨VB,ar⟩:∃ VB,VB=VF:=⟨_,rfl⟩;rw [<- ag] at z E aL aF;rw [<- ar] at z;have aL:nf<=2*k:=(by omega);have ad:=KL E;clear E ag ar
    clear au aa
   case' inr=>
    have fs:(k:Int)<(NN.length:Int):=by omega
    obtain ⟨al,bb,bv⟩:=f3.out
    obtain ⟨aT,cL,d3⟩:=bv k es
    obtain ⟨_,_,J,_,_,_,pt⟩:=aO undef bb
    injection J with J e4 e5
    clear e4 e5
    obtain ⟨bn,on,e2,ec,qn⟩:=pt (by intro e;rw [e] at al;simp at al;omega)
    rw [<- J] at e2
    subst e2
    have Z:=qn k 0 (by omega) (by omega)
    obtain ⟨xv,e0⟩:∃ xv,xv=VN.getD k undef:=⟨_,rfl⟩
    rw [<- e0] at Z aT
    obtain ⟨LB,cS⟩:∃ LB,LB=NN.getD k []:=⟨_,rfl⟩
    rw [<- cS] at aT cL d3
    clear e0 bv bb J pt qn al
    simp only [Lb,Nat.mul_one,Nat.add_zero] at Z
    rw [<- cS] at ck
    clear cS
    have aT:aK W 1 xv (byts LB):=aT
    obtain ⟨fa,fn,fc,rfl⟩:∃ fa fn fc,xv=Value.slice fa fn fc:=by obtain ⟨_,_,e,_⟩:=ap aT;exact ⟨_,_,_,e⟩
    have bd:=KL (b1.out.trans (aa.out.be.mono b1.out.size))
    have c9:=KL (fun wz (hz:Below W.heap.size W wz)=>ah hz Z ec)
    have Z:=c9.out _ bd.out
    have fm:bn<wr.heap.size:=Nat.lt_of_lt_of_le ec bd.out.size
    have c7:=KL (aq aT bd.out)
    have cF:=KL aT
    have bh:=KL ck
    have bf:=KL cL
    have c1:=KL d3
    obtain ⟨xa,xb,xc,gg,xe,xf,xg,xh⟩:=xd
    clear aT cL d3 ck
    rcases (show cd=0\/cd≠0 by omega) with b8|b8
   case' inr.inl=>
    subst b8
    go_upto_region 12 with (first|(at_builtin;refine wpList_copyB rfl _ _ rfl rfl rfl c7.out c1.out ?_;intro vd w2 bz bp;have bi:=KL bz;have b0:=KL bp;clear bz bp)|(go_at_call 5;refine (prog_Dec _ LB _ _ _ bf.out bi.out bh.out).mono ?_;rintro e w3 ⟨rfl,ak⟩;have ak:=b0.out.trans (ak.mono b0.out.size);have bT:=ak.size;(try unfold Ev.agg)))
    refine name_wp _ (fun ws au=>?_)
    have aH:Below wr.heap.size wr ws:=by rw [au];exact Zb
    have z:=KL (aa.out.below (KY _) aH)
    obtain ⟨nf,E⟩:∃ nf,nf=FA.length:=⟨_,rfl⟩;rw [<- E] at z;rw [<- E];obtain ⟨I,ag⟩:∃ I,I=FA:=⟨_,rfl⟩;obtain ⟨VB,ar⟩:∃ VB,VB=VF:=⟨_,rfl⟩;rw [<- ag] at z E aL aF;rw [<- ar] at z;have aL:nf<=2*k:=(by omega);have ad:=KL E;clear E ag ar
    clear au aH ak aa cF c7 bi b0 bf c1 bh c9 Z
   case' inr.inr=>
    have J:(cd == 0)=false:=by simpa using b8
    have e2:(cd != 0)=true:=by simpa using b8
    go_upto_region 10 with (first|(at_builtin;refine wpList_copyB rfl _ _ rfl rfl rfl c7.out c1.out ?_;intro vd w2 bz bp;have bi:=KL bz;have b0:=KL bp;clear bz bp)|(go_at_call 5;refine (prog_Dec _ LB _ _ _ bf.out bi.out bh.out).mono ?_;rintro e w3 ⟨rfl,ak⟩;have ak:=b0.out.trans (ak.mono b0.out.size);have bT:=ak.size;(try unfold Ev.agg)))
    refine name_wp _ (fun ws au=>?_)
    have aH:Below wr.heap.size wr ws:=by rw [au];exact Zb
    have z:=KL (aa.out.below (KY _) aH)
    obtain ⟨nf,E⟩:∃ nf,nf=FA.length:=⟨_,rfl⟩;rw [<- E] at z;rw [<- E];obtain ⟨I,ag⟩:∃ I,I=FA:=⟨_,rfl⟩;obtain ⟨VB,ar⟩:∃ VB,VB=VF:=⟨_,rfl⟩;rw [<- ag] at z E aL aF;rw [<- ar] at z;have aL:nf<=2*k:=(by omega);have ad:=KL E;clear E ag ar
    have Z:=c9.out ws (b1.out.trans (z.out.be.mono b1.out.size))
    have fm:bn<ws.heap.size:=bV Z
    have bc:=z.out.be.size
    have bY:=KL (show FrAc LB (.inr cd) from ⟨bf.out,dec_zero bh.out b8,b8⟩)
    have cC:=KL (bd.out.trans (aH.mono bd.out.size))
    have c8:=KL (bU (bI (RowK_lt cF.out) cC.out.size (fun G hb _=>cC.out.block G hb)) (K':=fun G=>(Value.slice af nf cf).ownBlock≠some G/\(Value.slice am nf cm).ownBlock≠some G) (fun G _ hb=>⟨fun e=>by have:=(z.out.ov.lt G e).1;omega,fun e=>by have:=(z.out.mrk.lt G e).1;omega⟩))
    have b7:=KL (show ws.ownsRow w1.heap.size 65 1 (.slice af nf cf) nf VB by have Y:=z.out.ov;rw [<- ad.out] at Y;exact Y);have b6:=KL (show ws.ownsRow w1.heap.size 4 1 (.slice am nf cm) nf (I.map fun K=>.bool (isE K.2)) by have Y:=z.out.mrk;rw [<- ad.out] at Y;exact Y)
    clear au aH ak aa cF c7 bi b0 bf c1 bh
    go_upto_region 12 with (first|(at_builtin;refine fU _ rfl _ _ 26 rfl w1.heap.size 65 i0 (.slice none 0 0) 1 24 underlying26 hi ei ej ek rfl (by decide) (.slice af nf cf) nf VB rfl (b7.out.alloc _) ⟨ws.heap.size,0,none⟩ 1 1 [.slice fa fn fc] rfl rfl (kJ [.slice fa fn fc] 65) (by intro u hu;simp at hu;subst hu;rfl) (by decide) (by unfold maxLen;omega) (by omega) (by simp;omega) ?_;intro v6 w6 b3 bq bt;have a8:=app_one b7.out bc bq bt;have aw:=KL a8;have c4:=KL b3;have cr:=a8.1;have b5:=KL (show w6.ownsRow w1.heap.size 4 1 (.slice am nf cm) nf (I.map fun K=>.bool (isE K.2)) from aZ b6.out (fun G e=>a8.2.1 G (b6.out.lt G e).2 (fun e2=>z.out.apt G e2 e)));obtain ⟨af,cf,e6,_⟩:=aE b3;subst e6;clear b3 bq bt a8)|(at_builtin;refine fU _ rfl _ _ 30 rfl w1.heap.size 4 j0 (.bool false) 1 1 underlying30 hj el em en rfl (by decide) (.slice am nf cm) nf (I.map fun K=>.bool (isE K.2)) rfl (b5.out.alloc _) ⟨w6.heap.size,0,none⟩ 1 1 [.bool false] rfl rfl (kJ [.bool false] 4) (by intro u hu;simp at hu;subst hu;rfl) (by decide) (by unfold maxLen;omega) (by omega) (by simp;omega) ?_;intro v7 w7 b4 br bu;have a8:=app_one b5.out (Lz bc cr) br bu;have ay:=KL a8;have c5:=KL b4;obtain ⟨am,cm,e7,_⟩:=aE b4;subst e7;clear b4 br bu a8))
    refine name_wp _ (fun ws au=>?_)
    have z:=KL (NzR.push z.out bY.out c8.out (by rw [<- ad.out];exact c4.out) aw.out.2.1 aw.out.1 aw.out.2.2.1 (by rw [<- ad.out];exact c5.out) ay.out.2.1 ay.out.1 ay.out.2.2.1 ((z.out.be.trans aw.out.2.2.2).trans ay.out.2.2.2))
    rw [<- au] at z
    obtain ⟨I,ag⟩:∃ eT,eT=I++[(LB,.inr cd)]:=⟨_,rfl⟩
    obtain ⟨VB,ar⟩:∃ V',V'=VB++[.slice fa fn fc]:=⟨_,rfl⟩
    obtain ⟨nf,E⟩:∃ n',n'=nf+1:=⟨_,rfl⟩
    rw [<- ag,<- ar,<- E] at z
    rw [<- E]
    have ad:=KL (show nf=I.length by rw [ag,Ll,E,ad.out];rfl)
    have aL:nf<=2*k+1:=by omega
    clear E
    have aF:=KL (show evsA (I.map (·.2))=EV.take k by rw [ag,LG,evsA_app,aF.out];simp [evsA])
    clear au ag ar b7 b6 aw c4 cr b5 ay c5 c8 bY cC c9 Z
   all_goals (obtain ⟨ct,ab⟩:=HC.out _ z.out.be;have a0:=ab 0 _ rfl;have a1:=ab 1 _ rfl;have a2:=ab 2 _ rfl;have a3:=ab 3 _ rfl;have a4:=ab 4 _ rfl;have a5:=ab 5 _ rfl;have a6:=ab 6 _ rfl;have a7:=ab 7 _ rfl;simp only [Nat.add_zero] at a0 a1 a2 a3 a4 a5 a6 a7;clear ab;have bc:=z.out.be.size;go_wp2_with fail;refine (prog_EncN x0 x1 x2 x3 x4 x5 x6 x7 ws ca.out.ok).mono ?_;rintro e ws ⟨xv,rfl,d6,e9⟩;obtain ⟨fa,fn,fc,rfl⟩:∃ fa fn fc,xv=Value.slice fa fn fc:=(by obtain ⟨_,_,e,_⟩:=ap d6.1;exact ⟨_,_,_,e⟩);have c8:=KL (bU (eE d6) (K':=fun G=>(Value.slice af nf cf).ownBlock≠some G/\(Value.slice am nf cm).ownBlock≠some G) (fun G _ hb=>⟨fun e=>by have:=(z.out.ov.lt G e).2;omega,fun e=>by have:=(z.out.mrk.lt G e).2;omega⟩));have bY:=KL (show FrAc (encE ⟨x0,x1,x2,x3,x4,x5,x6,x7⟩) (.inl ⟨x0,x1,x2,x3,x4,x5,x6,x7⟩) from ⟨(encE_in ca.out.ok).1,dec_enc ca.out.ok,ca.out⟩);have z:=KL (z.out.below (KY _) e9);clear ct a0 a1 a2 a3 a4 a5 a6 a7 d6 e9;have bc:=z.out.be.size;have b7:=KL (show ws.ownsRow w1.heap.size 65 1 (.slice af nf cf) nf VB by have Y:=z.out.ov;rw [<- ad.out] at Y;exact Y);have b6:=KL (show ws.ownsRow w1.heap.size 4 1 (.slice am nf cm) nf (I.map fun K=>.bool (isE K.2)) by have Y:=z.out.mrk;rw [<- ad.out] at Y;exact Y);go_wp2_with (first|(at_builtin;refine fU _ rfl _ _ 26 rfl w1.heap.size 65 i0 (.slice none 0 0) 1 24 underlying26 hi ei ej ek rfl (by decide) (.slice af nf cf) nf VB rfl (b7.out.alloc _) ⟨ws.heap.size,0,none⟩ 1 1 [.slice fa fn fc] rfl rfl (kJ [.slice fa fn fc] 65) (by intro u hu;simp at hu;subst hu;rfl) (by decide) (by unfold maxLen;omega) (by omega) (by simp;omega) ?_;intro v6 w6 b3 bq bt;have a8:=app_one b7.out bc bq bt;have aw:=KL a8;have c4:=KL b3;have cr:=a8.1;have b5:=KL (show w6.ownsRow w1.heap.size 4 1 (.slice am nf cm) nf (I.map fun K=>.bool (isE K.2)) from aZ b6.out (fun G e=>a8.2.1 G (b6.out.lt G e).2 (fun e2=>z.out.apt G e2 e)));obtain ⟨af,cf,e6,_⟩:=aE b3;subst e6;clear b3 bq bt a8)|(at_builtin;refine fU _ rfl _ _ 30 rfl w1.heap.size 4 j0 (.bool false) 1 1 underlying30 hj el em en rfl (by decide) (.slice am nf cm) nf (I.map fun K=>.bool (isE K.2)) rfl (b5.out.alloc _) ⟨w6.heap.size,0,none⟩ 1 1 [.bool true] rfl rfl (kJ [.bool true] 4) (by intro u hu;simp at hu;subst hu;rfl) (by decide) (by unfold maxLen;omega) (by omega) (by simp;omega) ?_;intro v7 w7 b4 br bu;have a8:=app_one b5.out (Lz bc cr) br bu;have ay:=KL a8;have c5:=KL b4;obtain ⟨am,cm,e7,_⟩:=aE b4;subst e7;clear b4 br bu a8));go_roundw;(case rel=>refine ⟨k+1,I++[(encE ⟨x0,x1,x2,x3,x4,x5,x6,x7⟩,.inl ⟨x0,x1,x2,x3,x4,x5,x6,x7⟩)],VB++[.slice fa fn fc],by omega,by go_num,by rw [Ll,<- ad.out];show nf+1<=2*(k+1);omega,?_,(NzR.push z.out bY.out c8.out (by rw [<- ad.out];exact c4.out) aw.out.2.1 aw.out.1 aw.out.2.2.1 (by rw [<- ad.out];exact c5.out) ay.out.2.1 ay.out.1 ay.out.2.2.1 ((z.out.be.trans aw.out.2.2.2).trans ay.out.2.2.2))⟩;rw [LG,evsA_app,aF.out,fb.out];rfl);(case measure=>simp [intOf];omega))
  ·have g3:¬ (k:Int)<(k:Int):=by omega
   have b2:=aF.out
   rw [Lo (by rw [bX.out];exact KY _)] at b2
   obtain ⟨n,rfl⟩:∃ n,n=k:=⟨_,rfl⟩
   obtain ⟨A,hA⟩:∃ A,A=FA.map (·.2):=⟨_,rfl⟩
   obtain ⟨nf,E⟩:∃ nf,nf=FA.length:=⟨_,rfl⟩
   have bk:A.length=nf:=by rw [hA,Lh,E]
   have bw:=c6.out.below aa.out.be
   have de:=KL (range_cf bw.bk)
   obtain ⟨CL,cg⟩:∃ CL,CL=Cf.cells c:=⟨_,rfl⟩
   have eX:=KL (show (prog.info? 36).map (·.size)=some CL.length by rw [cg];show _=some 16;kernel_rfl)
   rw [<- cg] at de
   have d9:=b1.out.trans (aa.out.be.mono b1.out.size)
   have ds:=KL d9
   have d5:=prog_Play HF.out (zc:=FA.map (·.1)) (A:=A) (w:=wr) (by rw [hA];simp) (fun i hi=>by
    rw [bk,E] at hi
    rw [hA,aQ (by simpa using hi),aQ (by simpa using hi),List.getElem_map,List.getElem_map]
    exact aa.out.ok _ (Lp _)) (by rw [hA,b2];exact dk.out) (by omega) (ah d9 dq.out (bV dq.out)) (a:=af) (cp:=cf) (by rw [bk,E];exact aa.out.fr)
   rw [bk,<- cg] at d5
   have f6:=KL d5
   have f1:=KL (show ∃ cb:List Value,cb.length=nf/\(∀ h,h<nf->cb.getD h undef=.bool (isE (A.getD h acZ)))/\aK wr 1 (.slice am nf cm) (cb.map fun x=>[x]) from ⟨FA.map fun K=>.bool (isE K.2),by rw [Lh,E],fun h hj=>by
    rw [E] at hj
    rw [aQ (by simpa using hj),hA,aQ (by simpa using hj),List.getElem_map,List.getElem_map],by
    have Y:=(aG (L:=(FA.map fun K=>Value.bool (isE K.2)).map fun x=>[x]) (by rw [flat_one];exact aa.out.mrk) (by simp) (by intro c hc;obtain ⟨x,_,rfl⟩:=LH.1 hc;rfl)).1
    rw [E];exact Y⟩)
   have df:=KL (show evsA A=EV by rw [hA,b2])
   have cu:=KL bk
   rw [<- E]
   have dc:=KL aa.out.be
   have g7:nf<=128:=by omega
   clear d5 b2 d9 bw hA bk aa aF cg E aL
   go_wp2_with (refine wpList_load_mid rfl 36 (.tmp 85) rfl K 0 rfl CL _ de.out underlying36 rfl eX.out ?_)
   refine f6.out.mono ?_
   rintro e w3 ⟨AY,a3,c3,rfl,bT,dT,ex,ak⟩
   rw [cu.out]
   have fi:=KL (show (prog.info? 56).map (·.size)=some AY.size by rw [bT];kernel_rfl)
   have fk:=KL bT
   have fd:=KL dT
   have H3:=KL (And.intro ex ak)
   clear bT dT ex ak
   go_upto_region 18 with (refine LP rfl 56 (.tmp 16) (.tmp 89) rfl w3.heap.size AY rfl rfl 56 _ (aB _ rfl) fi.out (by rw [fk.out];rfl) fd.out ?_;refine bA _ (fun w4 eI=>?_);have B4:=KL (show Below w3.heap.size w3 w4 by rw [eI];exact aV ((KM _ _).alloc (KY _) _) (KY _));clear eI)
   have cH:=KL (H3.out.2.trans (B4.out.mono H3.out.2.size))
   have f4:=KL (H3.out.1.keep B4.out.size (fun G hb _=>B4.out.block G hb))
   have eW:=KL (ds.out.trans (cH.out.mono ds.out.size))
   have cA:=KL (dc.out.trans (cH.out.mono dc.out.size))
   go_wp2
   go_loopw [19,20] (fun U i wz=>∃ h:Nat,h<=nf/\i=.int .i64 h/\U=.int .i64 ((evsA (A.take h)).length:Nat)/\∃ m,wz=w4.drewN m) (fun _ i _=>nf - (intOf i).toNat)
   case atStart=>exact ⟨0,La _,rfl,rfl,0,rfl⟩
   case round=>
    obtain ⟨h,hj,rfl,rfl,m,rfl⟩:=hrel
    rcases (show h<nf\/h=nf by omega) with aS|rfl
    ·have fw:(h:Int)<(nf:Int):=by omega
     have j0:(0:Int)<=(h:Int):=by omega
     have er:h<A.length:=by rw [cu.out];exact aS
     obtain ⟨cb,d4,eu,ew⟩:=f1.out
     obtain ⟨_,_,J,_,_,_,pt⟩:=aO undef ew
     injection J with J e4 e5
     clear e4 e5
     obtain ⟨bm,om,e2,eb,eM⟩:=pt (by intro e;rw [e] at d4;simp at d4;omega)
     rw [<- J] at e2
     subst e2
     clear J
     have c0:=eM h 0 (by omega) (by omega)
     rw [eu h aS] at c0
     simp only [Lb,Nat.mul_one,Nat.add_zero] at c0
     have c0:=ah cH.out c0 eb
     have eb:bm<w4.heap.size:=bV c0
     obtain ⟨VV,d8,eF,eA⟩:=f4.out
     have al:VV.length=nf:=by
      have Y:=actW_len (dD c) A (KY _)
      rw [List.take_length,cu.out] at Y
      rw [d8,Y]
     have a9:=(eA h (by rw [<- d8,al];exact aS)).1
     obtain ⟨_,_,J,_,_,_,eL⟩:=aO undef eF.1
     injection J with J e4 e5
     clear e4 e5
     obtain ⟨bo,oo,e2,g0,qv⟩:=eL (by intro e;rw [e] at al;simp at al;omega)
     rw [<- J] at e2
     subst e2
     have Z:=qv h 0 (by omega) (by omega)
     have cY:=act_out (dD c) A er (KY _)
     rw [List.take_length] at cY
     rw [cY] at a9
     have aA:=take_ac er
     obtain ⟨ac,e3⟩:∃ ac,ac=A.getD h acZ:=⟨_,rfl⟩
     rw [<- e3] at c0 a9 aA
     clear d4 eu ew J pt eM d8 eF eA eL qv cY al e3
     rcases ac with x|cd
     ·have c0:w4.cell? ⟨bm,om+h,none⟩=some (.bool true):=c0
      have d2:evsA (A.take (h+1))=evsA (A.take h)++[x]:=by rw [aA,evsA_app];rfl
      have b9:=congrArg List.length (evsA_take A (h+1))
      rw [d2,df.out,Ls,bX.out,Ll] at b9
      have a9:aK w4 7 (VV.getD h undef) (((runW (dD c) (evsA A)).2.getD (evsA (A.take h)).length []).map Out.cells):=a9
      rw [df.out,f7.out] at a9
      obtain ⟨U,hd⟩:∃ U,U=(evsA (A.take h)).length:=⟨_,rfl⟩
      rw [<- hd] at a9 b9 ⊢
      have b9:U<n:=by simp at b9;omega
      have I8:U<P.steps.length:=by rw [<- f2.out];exact b9
      rw [show (P.last,P.steps.map Stp.out).2.getD U []=(P.steps.getD U Stp.zero).out from by show (P.steps.map Stp.out).getD U []=_;rw [aQ (by simpa using I8),aQ I8,List.getElem_map]] at a9
      have bW:=KL (show (evsA (A.take (h+1))).length=U+1 by rw [d2,Ll,<- hd];rfl)
      have d0:(0:Int)<=(U:Int):=by omega
      have g2:(U:Int)<(n:Int):=by omega
      obtain ⟨bs,os,rfl,aH,_,ao,co,cc,bC⟩:=dr.out U b9
      have ct:=ah cA.out cK.out c2.out
      have cc:=ah cA.out cc aH
      have bC:=aq bC cA.out
      have gd:K<w4.heap.size:=bV ct
      have g9:bs<w4.heap.size:=bV cc
      obtain ⟨O,hO⟩:∃ O,O=(P.steps.getD U Stp.zero).out:=⟨_,rfl⟩
      rw [<- hO] at a9 bC cc
      obtain ⟨av,cv,ev,_⟩:=ap a9
      rw [ev] at a9 Z
      simp only [Lb,Nat.mul_one,Nat.add_zero] at Z
      have ey:=prog_same (w:=w4.drewN m) (aq a9 (aM (KM _ _))) (aq bC (aM (KM _ _)))
      have f9:=KL (fun x=>(ey (w4.drewN (m+x)) ⟨_,(World.drewN_drewN _ _ _).symm⟩).mono (R':=fun e fz=>e=Ending.returned (.bool true)/\∃ n,fz=w4.drewN (m+n)) (by rintro e w9 ⟨rfl,k9,rfl⟩;exact ⟨rfl,k9,World.drewN_drewN _ _ _⟩))
      clear ey a9 bC hO ev d2 hd I8 aA
      go_upto_region 27 with fail
      go_quiet (first|(go_at_call 8;exact f9.out _))
      go_wp2
      go_roundw
      case rel=>exact ⟨h+1,by omega,by go_num,by rw [bW.out];go_num,by first|exact ⟨_,rfl⟩|exact ⟨_,World.drewN_drewN _ _ _⟩⟩
      case measure=>simp [intOf];omega
     ·have c0:w4.cell? ⟨bm,om+h,none⟩=some (.bool false):=c0
      have a9:aK w4 7 (VV.getD h undef) [Out.cells (badO cd)]:=a9
      have bW:=KL (show (evsA (A.take (h+1))).length=(evsA (A.take h)).length by rw [aA,evsA_app];simp [evsA])
      obtain ⟨U,hd⟩:∃ U,U=(evsA (A.take h)).length:=⟨_,rfl⟩
      rw [<- hd] at bW ⊢
      obtain ⟨ax,cx,ev,_,_,_,du⟩:=a9
      obtain ⟨bx,ox,rfl,g1,eS⟩:=du (by simp)
      rw [ev] at Z
      have k0:=eS 0 0 (by simp) (by decide)
      simp [badO,Out.cells] at k0
      simp only [Lb,Nat.mul_one,Nat.add_zero] at Z
      clear ev eS du aA hd
      go_wp2
      go_roundw
      case rel=>exact ⟨h+1,by omega,by go_num,by rw [bW.out],by first|exact ⟨_,rfl⟩|exact ⟨_,World.drewN_drewN _ _ _⟩⟩
      case measure=>simp [intOf];omega
    ·have g4:¬ (h:Int)<(h:Int):=by omega
     go_wp2
     go_ret
     exact ⟨rfl,aM eW.out⟩
end Go.Proofs.YtennppmadmgfoaaGreatDoor
