/- Texts of the row's proof. Conditions: none. -/
import Derived.Test.YtennppmadmgfoaaGreatDoorK13
import Derived.Test.YtennppmadmgfoaaGreatDoorK14
import Derived.Test.YtennppmadmgfoaaGreatDoorK24
namespace Go.Proofs.YtennppmadmgfoaaGreatDoor
open Proofs.Tryz
set_option maxRecDepth 100000
set_option maxHeartbeats 8000000
section
open Go.RowKit
theorem Q6 {p:Prop} (h:p:=by
 have hml':(m:Int)<(X.length:Int):=by omega
 have p0:(0:Int)<=(m:Int):=by omega
 obtain ⟨_,_,e0,_,_,_,pt⟩:=aO Tm.zero (aG HR.out (by rw [Lh]) (ir _)).1;injection e0 with e01 _ e03;subst e01;subst e03;obtain ⟨bx,ox,rfl,hbx,q1⟩:=pt (by intro h;rw [h] at hml;simp at hml);obtain ⟨t,ht⟩:∃ t,t=X.getD m Tm.zero:=⟨_,rfl⟩;have d0:=q1 m 0 hml (by omega);have d1:=q1 m 1 hml (by omega);rw [<- ht] at d0 d1;have HTk:=KL (uy ht hml);have HTm:=KL (qH ht hml);obtain ⟨t0,t1⟩:=t;simp only [Tm.cells,Lb,Lc,Nat.add_zero] at d0 d1;have HTE:=KL (HM.out.tm _ (HLay.out.mem hj25 _ (by rw [<- HX.out];exact HTm.out)));obtain ⟨A,rfl⟩:=Lr (show 0<=t0 by have:=HTE.out.1;simp at this;omega)
 have hA2:A<=2199023255552:=by have:=HTE.out.2.2.1;simp at this;omega
 have hN2:n<=2199023255552:=by have:=HN.out;omega
 have HPk:=KL (IL HLay.out (n:Int) hj25 m);rw [<- HX.out] at HPk;obtain ⟨Y,hY⟩:∃ Y,Y=gj (n:Int) (M.set j []) (X.take m):=⟨_,rfl⟩;have HY:=KL hY;rw [<- hY] at HPk HO;have hplt:=fE A n;have hET:=HM.out.tot;have hor:=(HPk.out.2 _ hplt).1
 have hln:(Y.getD (bK A n) []).length<=100000:=by have:=(HPk.out.2 _ hplt).2;omega
 have HOr:=KL hor;have HLn2:=KL hln;have HY25:=KL HPk.out.1;clear ht q1 pt hY hor hln hET;go_wp2_with fail;have hba:Below wr.heap.size wr (wr.alloc (.cells #[.int .i64 (A:Int),.int .i64 t1] 184)):=(KM _ _).alloc (KY _) _;refine (ts q A n t1 _ Y V2 _ (by simp;omega) (ah hba z0 (by omega)) (ah hba z1 (by omega)) (cB HO.out hba) HY25.out hA2 hN2 _ rfl HOr.out HLn2.out).mono ?_;rintro e w5 ⟨v5,rfl,hown5,hz5,hk5,hn5,hb5⟩
 have hk6:∀ b,b<wr.heap.size->b≠g0->(V2.getD (bK A n) undef).ownBlock≠some b->w5.heap[b]?=wr.heap[b]?:=fun b h1 h2 h3=>
  (hk5 b (by simp;omega) (fun e=>h2 (Option.some.inj e).symm) h3).trans (hba.block b h1)
 have hV2:bK A n<V2.length:=by rw [HO.out.1,HY25.out];exact hplt
 have hbx':(Value.slice (some ⟨bx,ox,none⟩) X.length cx).ownBlock=some bx:=rfl;have HF6:=KL (HF.out bx hbx');have hbx6:w5.heap[bx]?=wr.heap[bx]?:=hk6 bx hbx HF6.out.1 (HF6.out.2 _ hplt);have z0:w5.cell? ⟨q,0,none⟩=some (.int .i64 (n:Int)):=(hb5.cell (p:=⟨q,0,none⟩) (by simp)).trans (ah hba z0 (by omega));have z1:w5.cell? ⟨q,1,none⟩=some (.slice (some ⟨g0,0,none⟩) 25 cv):=(hb5.cell (p:=⟨q,1,none⟩) (by simp)).trans (ah hba z1 (by omega));have HB5:=KL ((HB.out.trans (hba.mono (by omega))).trans (hb5.mono (by omega)));have HR5:=KL (aZ HR.out (fun b hb=>by obtain rfl:bx=b:=Option.some.inj hb;exact hbx6))
 have hzp5:ws.heap.size<=w5.heap.size:=by simp at hz5;omega
 have HO5:Hid (eP (q+1) w5 (.slice (some ⟨g0,0,none⟩) 25 cv) (gj (n:Int) (M.set j []) (X.take (m+1))) (V2.set (bK A n) v5)):=by
  have e:gh ⟨(A:Int),t1⟩ (n:Int)=bK A n:=uS rfl rfl;show eP _ _ _ _ _
  rw [HTk.out,zA,<- HY.out];unfold sS;rw [e];exact hown5
 have HFr:Hid (∀ b,(Value.slice (some ⟨bx,ox,none⟩) X.length cx).ownBlock=some b->b≠g0/\∀ i,i<25->((V2.set (bK A n) v5).getD i undef).ownBlock≠some b):=fun b hb=>by
  obtain rfl:bx=b:=Option.some.inj hb;refine ⟨HF6.out.1,fun i hi hc=>?_⟩;by_cases e:bK A n=i
  ·subst e;rw [cQ hV2] at hc;rcases hn5 bx hc with h|h
   ·exact HF6.out.2 _ hplt h
   ·simp at h;omega
  ·rw [cJ e] at hc;exact HF6.out.2 i hi hc
 clear hown5 hk5 hk6 hn5 hb5 hbx6 hbx' HF6 hba HB HR HO HF;go_wp2_with fail;go_roundw
 case rel=>exact ⟨m+1,by omega,by go_num,HB5.out,hzp5,z0,z1,HR5.out,_,HO5.out,HFr.out⟩
 case measure=>simp [intOf];omega):p:=h
theorem Q33 {p:Prop} (h:p:=by
 intro b hb;rw [hxv] at hb;refine ⟨fun e=>hd4 j (by omega) b hb (by rw [e];rfl),fun i hi hb'=>?_⟩;by_cases e:j=i
 ·subst e;rw [cQ (by omega)] at hb'
  cases hb'
 ·rw [cJ e] at hb';rcases Nat.lt_or_gt_of_ne e with h|h
  ·exact hd5 j i h (by omega) b hb hb'
  ·exact hd5 i j h (by omega) b hb' hb):p:=h
theorem Q92 {p:Prop} (h:p:=by
 rw [hws];exact aZ HRx.out (fun b hb=>KV _ _ _ _ (HFree.out b hb).1)):p:=h
theorem Q138 {p:Prop} (h:p:=by
 rw [List.getD_eq_getElem?_getD,Lj (by omega)] at this;simpa using this):p:=h
theorem FM {X:List Tm} {t:Tm} {k:Nat} (ho:j4 X) (hc:cutT X t k):eB X k t=iL (X++[t]):=by
 obtain ⟨hk,h1,h2⟩:=hc
 have Y:∀ z∈X.take k,nY z t=true:=by
  intro z E;obtain ⟨U,J,rfl⟩:=List.mem_iff_getElem.1 E;rw [Ls] at J;have:=h1 U (by omega);exact Q138
 have Z:∀ z∈X.drop k,nY z t=false:=by
  intro z E;obtain ⟨U,J,rfl⟩:=List.mem_iff_getElem.1 E;rw [List.length_drop] at J;have:=h2 (k+U) (by omega) (by omega);exact Q138
 unfold eB;refine qN ?_ ?_
 ·have I:j4 (X.take k++X.drop k):=by rw [Lx];exact ho
  unfold j4 at I ⊢;rw [List.pairwise_append] at I ⊢;refine ⟨I.1,List.pairwise_cons.2 ⟨fun z E=>by unfold i7;rw [Z z E];rfl,I.2.1⟩,fun z E y K=>?_⟩;rcases List.mem_cons.1 K with rfl|K
  ·exact Ci (Y z E)
  ·exact I.2.2 z E y K
 ·have W:(X.take k++X.drop k).Perm X:=by rw [Lx]
  refine List.Perm.trans ?_ (W.append_right [t]);rw [List.append_assoc];refine List.Perm.append_left _ ?_;exact (List.perm_append_singleton t (X.drop k)).symm
theorem zS (X:List Tm) (k:Nat) (t:Tm):eB (X.map Tm.cells) k (Tm.cells t)=(eB X k t).map Tm.cells:=by simp [eB,List.map_take,List.map_drop]
def Hr (q:Nat) (w:World) (E:Value) (LL:List (List Tm)) (V:List Value) (p:Nat) (L':List Tm) (e:Ending) (w':World):Prop:=
 ∃ z,e=.returned (.tuple #[])/\eP (q+1) w' E (LL.set p L') (V.set p z)/\w.heap.size<=w'.heap.size/\
  (∀ h,h<w.heap.size->E.ownBlock≠some h->(V.getD p undef).ownBlock≠some h->w'.heap[h]?=w.heap[h]?)/\(∀ h,z.ownBlock=some h->(V.getD p undef).ownBlock=some h\/w.heap.size<=h)/\Below (q+1) w w'
theorem ts (q A N:Nat) (I:Int) (vl:Value) (LL:List (List Tm)) (V:List Value) (w:World) (bj:q<w.heap.size) (x0:w.cell? ⟨q,0,none⟩=some (.int .i64 (N:Int))) (x1:w.cell? ⟨q,1,none⟩=some vl) (ay:eP (q+1) w vl LL V) (au:LL.length=25)
  (hA:A<=2199023255552) (hN:N<=2199023255552) (X:List Tm) (hX:X=LL.getD (bK A N) []) (ho:j4 X) (b9:X.length<=100000) :
  Calls prog 117 #[.pointer (some ⟨q,0,none⟩),.agg #[.int .i64 (A:Int),.int .i64 I]] w (Hr q w vl LL V (bK A N) (iL (X++[⟨(A:Int),I⟩]))):=by
 obtain ⟨P,hP⟩:∃ P,P=bK A N:=⟨_,rfl⟩
 have HP:=KL hP
 have b8:=fE A N
 rw [<- hP] at hX b8 ⊢
 clear hP
 have ab:P<LL.length:=by omega
 have HO:=KL ay
 obtain ⟨hV,a0,aA,aw,bb⟩:=ay
 rcases fF a0 with ⟨_,h0⟩|⟨g0,c0,rfl,_⟩
 ·omega
 have bi:=a0.lt g0 rfl
 have an:=KL a0
 have l1:=a0.cellAt P (by omega)
 have av:V[P]?=some (V.getD P undef):=by rw [List.getD_eq_getElem?_getD,Lj (by omega)];rfl
 rw [av] at l1
 have lf:=a0.frozenAt P
 have a8:=KL (aw P ab)
 have Y:=KL (aA P ab)
 obtain ⟨vk,ad⟩:∃ vk,vk=V.getD P undef:=⟨_,rfl⟩
 have a5:=KL ad
 have HX:=KL hX
 rw [<- ad] at l1 a8 Y
 rw [<- hX] at Y
 obtain ⟨ak,ck,rfl,_⟩:=aE Y.out
 have am:=KL ho
 have bh:=KL au
 have p0:(0:Int)<=(P:Int):=by omega
 have p1:(P:Int)<(LL.length:Int):=by omega
 have p2:(P:Int)<25:=by omega
 clear a0 aA aw bb hV av ad hX ho au
 go_in
 go_wp2_with fail
 have y0:(w.alloc (.cells #[.int .i64 (A:Int),.int .i64 I] 184)).cell? ⟨w.heap.size,0,none⟩=some (.int .i64 (A:Int)):=by go_simp
 (refine Zr (fun w':World=>w'.cell? ⟨q,0,none⟩=some (.int .i64 (N:Int))/\w'.cell? ⟨q,1,none⟩=some (.slice (some ⟨g0,0,none⟩) LL.length c0)/\w'.cell? ⟨w.heap.size,0,none⟩=some (.int .i64 (A:Int))) (fun U=>?_);refine eD 0 ?_;refine eY 8 ?_;refine Z1 12 (fun K hK=>?_);go_simp;(go_at_call 131;refine (mq A N _ (by omega) (by omega)).mono ?_;rw [<- HP.out];rintro E W ⟨rfl,hb2⟩;(try dsimp only));(try go_wp2_with fail);refine Zk hK fun U=>?_;clear hK K;refine Z1 13 (fun K hK=>?_);go_simp;refine Zk hK fun U=>?_;clear hK K;refine Zt 14 ?_;refine Zd ?_)
 have s2:=hb2.size
 simp at s2
 have u0:W.cell? ⟨w.heap.size,0,none⟩=some (.int .i64 (A:Int)):=ah hb2 (by go_simp) (by simp)
 have u1:W.cell? ⟨w.heap.size,1,none⟩=some (.int .i64 I):=ah hb2 (by go_simp) (by simp)
 have u2:W.cell? ⟨g0,P,none⟩=some (.slice ak X.length ck):=ah hb2 (by go_simp) (by simp;omega)
 have a7:Hid (Below w.heap.size w W):=KS (Zb:Below w.heap.size w _) (hb2.mono (by simp))
 have ao:=KL (bF Y.out a7.out)
 have RA:=KL (aG ao.out (by rw [Lh]) (ir _)).1
 clear hb2
 go_wp2_with fail
 (refine Zr (fun w':World=>w'.cell? ⟨g0,P,none⟩=some (.slice ak X.length ck)/\w'.cell? ⟨w.heap.size,0,none⟩=some (.int .i64 (A:Int))/\w'.cell? ⟨w.heap.size,1,none⟩=some (.int .i64 I)) (fun U=>?_);refine eY 0 ?_;refine Z1 4 (fun K hK=>?_);go_simp;(go_at_call 149;refine (bsTm _ X ⟨(A:Int),I⟩ _ (dH RA.out _) am.out (by omega)).mono ?_;rintro E w3 ⟨k,fl,rfl,hcut,hb3⟩;(try dsimp only));(try go_wp2_with fail);refine Zk hK fun U=>?_;clear hK K;refine eY 5 ?_;refine Zt 9 ?_;refine Zd ?_)
 have s3:=hb3.size
 simp at s3
 have a2:Below W.heap.size W w3:=KS (Zb:Below W.heap.size W (W.drewN 1)) (hb3.mono (by simp))
 have u0:=aC a2 u0
 have u1:=aC a2 u1
 have u2:=aC a2 u2
 have a1:=KL (a7.out.trans (a2.mono a7.out.size))
 have aa:=KL (bF Y.out a1.out)
 have aL:=KL (cB HO.out a1.out)
 have HC:=KL hcut
 have HS:=KL (FM am.out hcut)
 have aS:=KL (bF an.out a1.out)
 have ar:=Y
 have bg:g0<w3.heap.size:=by omega
 clear hb3 a2 hcut RA ao Y an lf l1 x0 x1 y0
 go_wp2_with fail
 (refine Zr (fun w':World=>w'.cell? ⟨w.heap.size,0,none⟩=some (.int .i64 (A:Int))/\w'.cell? ⟨w.heap.size,1,none⟩=some (.int .i64 I)) (fun U=>?_);refine dl 0 ?_;refine Zt 2 ?_;refine dl 4 ?_;refine Z2 3 6 (fun K hK=>?_) (fun K hK=>?_);(focus (go_simp;refine Zk hK fun U=>?_;clear hK K;refine Z1 6 (fun K hK=>?_);go_simp;refine Zk hK fun U=>?_;clear hK K));rotate_left 1;(focus (go_simp;refine Zk hK fun U=>?_;clear hK K;refine Z1 3 (fun K hK=>?_);go_simp;refine Zk hK fun U=>?_;clear hK K));rotate_left 1;(all_goals (refine Z1 7 (fun K hK=>?_);go_simp;(go_at_call 150;refine (insTm2 (q+1) _ (X.map Tm.cells) k w3.heap.size (Tm.cells ⟨(A:Int),I⟩) (w3.alloc (.cells #[.int .i64 (A:Int),.int .i64 I] 184)).drew (by rw [Lh];exact bF aa.out (KN ((KM w3.heap.size w3).alloc (KY _) _))) (ir _) (uW _) rfl (tm_one _) (by rw [Lh];exact HC.out.1) (by rw [Lh];exact b9) (aB (w:=w3) _ rfl) (fun E=>by have:=(aa.out.lt _ E).2;omega) (by simp;omega)).mono ?_;rintro E w4 ⟨v4,rfl,ac,a6,ax⟩;have Z:∀ z,z<w3.heap.size->(Value.slice ak X.length ck).ownBlock≠some z->w4.heap[z]?=w3.heap[z]?:=(fun z J a3=>(a6.block z (by simp;omega) (fun E=>a3 E.symm)).trans ((KN ((KM w3.heap.size w3).alloc (KY _) _)).block z J));have z2:w4.cell? ⟨g0,P,none⟩=some (.slice ak X.length ck):=(Lg (w:=w3) (w':=w4) (a:=⟨g0,P,none⟩) (Z g0 (by omega) (fun E=>a8.out _ E rfl))).trans u2;have z3:w4.frozen? ⟨g0,P,none⟩=false:=(aZ aS.out (fun z J=>by have E:z=g0:=(Option.some.inj J).symm;subst E;exact Z z (by omega) (fun E=>a8.out _ E rfl))).frozenAt P;have z0:w4.cell? ⟨w.heap.size,0,none⟩=some (.int .i64 (A:Int)):=(Lg (w:=w3) (w':=w4) (a:=⟨w.heap.size,0,none⟩) (Z w.heap.size (by omega) (fun E=>by have:=(ar.out.lt _ E).2;omega))).trans u0;have z1:w4.cell? ⟨w.heap.size,1,none⟩=some (.int .i64 I):=(Lg (w:=w3) (w':=w4) (a:=⟨w.heap.size,1,none⟩) (Z w.heap.size (by omega) (fun E=>by have:=(ar.out.lt _ E).2;omega))).trans u1;have bd:=a6.size;obtain ⟨a4,c4,rfl,_⟩:=aE ac;have ag:=KL ac;have aF:=KL a6;have al:=KL ax;have af:=KL Z;clear ac a6 ax Z);(try go_wp2_with fail);refine Zk hK fun U=>?_;clear hK K;refine Zt 8 ?_;refine Z1 9 (fun K hK=>?_);go_simp;refine Zk hK fun U=>?_;clear hK K));(all_goals refine Zd ?_))
 all_goals
  have bc:(X.map Tm.cells).length+1=(iL (X++[⟨(A:Int),I⟩])).length:=by rw [(dp _).length_eq];simp
  have a9:=ag.out
  rw [zS,HS.out] at a9
  have aT:=KL (iH (w':=w4) (L':=iL (X++[⟨(A:Int),I⟩])) aL.out ab rfl (fun z J a3=>af.out z J (by rw [a5.out];exact a3)) (fun z J=>(al.out z J).imp (fun E=>by rw [<- a5.out];exact E) (fun E=>by simp at E;omega)) (by rw [<- bc];exact a9))
  have bf:w.heap.size<=w4.heap.size:=by simp at bd;omega
  have aH:=KL (fun z (J:z<w.heap.size) (a3:(Value.slice ak X.length ck).ownBlock≠some z)=>(af.out z (by omega) a3).trans (a1.out.block z J))
  clear a9 ag
  go_wp2_with fail
  refine LN (v:=.tuple #[]) (by simp [results,results117,go_sem]) rfl ?_
  refine ⟨_,rfl,by have h:=aT.out;rw [show (X.map Tm.cells).length=X.length from Lh _] at h;exact h,by simpa using bf,fun z J h1 h2=>?_,fun z J=>?_,?_⟩
  ·rw [KV _ _ _ _ (fun E:z=g0=>h1 (by rw [E];rfl))];exact aH.out z J (by rw [a5.out];exact h2)
  ·rcases al.out z (by rw [show (X.map Tm.cells).length=X.length from Lh _];exact J) with h|h
   ·rw [<- a5.out];exact Or.inl h
   ·exact Or.inr (by simp at h;omega)
  ·have ba:Below (q+1) w (w3.alloc (.cells #[.int .i64 (A:Int),.int .i64 I] 184)).drew:=(a1.out.mono (by omega)).trans (KN ((KM _ w3).alloc (by omega) _));have hb4:Below (q+1) w w4:=ba.trans <| cP (B:=q+1) (wr:=(w3.alloc (.cells #[.int .i64 (A:Int),.int .i64 I] 184)).drew) (KM _ _) (by simp;omega) (bF aa.out (KN ((KM w3.heap.size w3).alloc (KY _) _))) aF.out;exact KO (p:=⟨g0,P,none⟩) hb4 (by show q+1<=g0;omega) _
theorem Ez (q A N:Nat) (E:Int) (h:Value) (LL:List (List Tm)) (V:List Value) (w:World) (z:w.heap[q]?=some (.cells #[.int .i64 (N:Int),h] 239 (0,0))) (Z:eP (q+1) w h LL V) (I:LL.length=25)
  (J:A<=2199023255552) (K:N<=2199023255552) (X:List Tm) (U:X=LL.getD (bK A N) []) (Y:j4 X) (W:X.length<=100000) :
  Calls prog 117 #[.pointer (some ⟨q,0,none⟩),.agg #[.int .i64 (A:Int),.int .i64 E]] w (Hr q w h LL V (bK A N) (iL (X++[⟨(A:Int),E⟩]))):=
 ts q A N E h LL V w (lt_of_block z) (ae z 0) (ae z 1) Z I J K X U Y W
def ArmAns (now:Int) (LL:List (List Tm)) (t:Tm) (now':Int) (LL':List (List Tm)) (c:Int):Prop:=
 (¬ WhMay now LL/\now'=0/\LL'=[]/\c=6)\/
 (WhMay now LL/\¬ dN t now/\now'=0/\LL'=[]/\c=2)\/
 (WhMay now LL/\dN t now/\(∃ s∈LL.flatten,s.id=t.id)/\now'=0/\LL'=[]/\c=7)\/
 (WhMay now LL/\dN t now/\(∀ s∈LL.flatten,¬ s.id=t.id)/\now'=now/\LL'=bN now (LL.flatten++[t])/\c=0)
section
variable {now:Int} {LL:List (List Tm)} {t:Tm} {now':Int} {LL':List (List Tm)} {c:Int}
theorem ArmAns.no (h:ArmAns now LL t now' LL' c) (hm:¬ WhMay now LL):now'=0/\LL'=[]/\c=6:=by
 exact Q141
theorem ArmAns.range (h:ArmAns now LL t now' LL' c) (z:WhMay now LL) (E:¬ dN t now):now'=0/\LL'=[]/\c=2:=by
 rcases h with ⟨h,_⟩|⟨_,_,h⟩|⟨_,h,_⟩|⟨_,h,_⟩
 ·exact absurd z h
 ·exact h
 all_goals exact absurd h E
theorem ArmAns.twice (h:ArmAns now LL t now' LL' c) (I:WhMay now LL) (K:dN t now) (J:∃ s∈LL.flatten,s.id=t.id):now'=0/\LL'=[]/\c=7:=by
 rcases h with ⟨h,_⟩|⟨_,h,_⟩|⟨_,_,_,h⟩|⟨_,_,h,_⟩
 ·exact absurd I h
 ·exact absurd K h
 ·exact h
 ·obtain ⟨s,z,E⟩:=J;exact absurd E (h s z)
theorem ArmAns.yes (h:ArmAns now LL t now' LL' c) (I:WhMay now LL) (K:dN t now) (J:∀ s∈LL.flatten,¬ s.id=t.id):now'=now/\LL'=bN now (LL.flatten++[t])/\c=0:=by
 rcases h with ⟨h,_⟩|⟨_,h,_⟩|⟨_,_,h,_⟩|⟨_,_,_,h⟩
 ·exact absurd I h
 ·exact absurd K h
 ·obtain ⟨s,z,E⟩:=h;exact absurd E (J s z)
 ·exact h
end
theorem Ij {now:Int} {LL:List (List Tm)} (E:WhMay now LL) (t:Tm):LL.set (gh t now) (iL (LL.getD (gh t now) []++[t]))=bN now (LL.flatten++[t]):=by
 have I:=E.2.2.1;have U:gh t now<25:=fE _ _;have J:∀ h,h<25->LL.flatten.filter (fun t=>gh t now == h)=LL.getD h []:=fun h z=>kV I (fun h z t K=>((E.2.2.2.1 h z).1 t K).2) z;refine js (by simp [I]) (dd _ _) (fun h z=>?_);rw [dU _ _ z,List.filter_append,J h z];by_cases e:gh t now=h
 ·subst e;rw [cQ (by omega)];simp
 ·rw [cJ e];have:(gh t now == h)=false:=by simpa using e
  simp only [List.filter_cons,this,List.filter_nil];rw [if_neg (by simp),List.append_nil];exact (iq (E.2.2.2.1 h z).2).symm
theorem xz (lv:Value) (now:Int) (LL:List (List Tm)) (id at_:Int) (w:World) (r:lQ w lv LL) (hn:LL.length<=1048576) (hs:LL.flatten.length<=1048576) (now':Int) (LL':List (List Tm)) (c:Int) (ha:ArmAns now LL ⟨at_,id⟩ now' LL' c) :
  Calls prog 105 #[.agg #[.int .i64 now,lv],.int .i64 id,.int .i64 at_] w (WhAns w now' LL' c):=by
 obtain ⟨a,cp,rfl⟩:=bL r
 have R2:=KL (eo r ((KU (KM _ _) (KY _) (.cells #[.int .i64 now,.slice a LL.length cp] 54)).alloc (by simp) (.cells #[.int .i64 0,.slice none 0 0] 54)))
 have HS:=KL (fun k (h:k<LL.length)=>Lz (jE h) hs)
 have HA:=KL ha
 clear r hs ha
 go_in
 go_wp2_with (go_at_call 90;refine (oG _ now LL _ R2.out (by omega) (fun i hi=>by have:=HS.out i hi;omega)).mono ?_)
 rintro e E (⟨Z,vl,V,rfl,Y,hq,aA,a3,af,U⟩|⟨rfl,Y,U⟩)
 rotate_left
 ·obtain ⟨rfl,rfl,rfl⟩:=HA.out.no Y;obtain ⟨aH,aL⟩:=aX U;go_wp2;refine LN (v:=.tuple #[.agg #[.int .i64 0,.slice none 0 0],.int .i64 6]) ?_ rfl (WhAns.nil Zb);simp [results,results105,go_sem, *]
 ·have aw:=Y.2.2.1;have h0:=Y.1;have h1:=Y.2.1;have HM:=KL Y;have HW:=KL a3;have HO:=KL af;have a1:Hid (Below w.heap.size w E):=KS (Zb:Below w.heap.size w _) (U.mono (by simp;omega));have aF:=U.size;have x0:E.cell? ⟨Z,0,none⟩=some (.int .i64 now):=ae a3 0;have x1:E.cell? ⟨Z,1,none⟩=some vl:=ae a3 1;simp at hq aF;have y0:E.cell? ⟨w.heap.size+1,0,none⟩=some (.int .i64 0):=ah U (by go_simp) (by simp);have y1:E.cell? ⟨w.heap.size+1,1,none⟩=some (.slice none 0 0):=ah U (by go_simp) (by simp);have y2:E.cell? ⟨w.heap.size,0,none⟩=some (.int .i64 now):=ah U (by go_simp) (by simp;omega);have f0:∀ z,E.frozen? ⟨w.heap.size+1,z,none⟩=false:=fun z=>(U.frozen (p:=⟨w.heap.size+1,z,none⟩) (by simp)).trans (by go_simp);have am:=KL aw;have ar:=KL (fun i (h:i<LL.length)=>Lz (HS.out i h) (KY 1048576));clear Y a3 af U;have k1:w.heap.size<E.heap.size:=by omega
  have k2:w.heap.size+1<E.heap.size:=by omega
  by_cases htm:dN ⟨at_,id⟩ now;rotate_left
  ·obtain ⟨rfl,rfl,rfl⟩:=HA.out.range HM.out htm;have HT:=KL htm;clear htm;go_wp2_with (go_at_call 130;refine (jp ⟨at_,id⟩ now _ h0 h1 false (Or.inr ⟨HT.out,rfl⟩)).mono ?_;rintro e w2 ⟨rfl,W⟩;obtain ⟨a8,a9⟩:=aX W);refine LN (v:=.tuple #[.agg #[.int .i64 0,.slice none 0 0],.int .i64 2]) ?_ rfl (WhAns.nil ?_)
   ·simp [results,results105,go_sem, *]
   ·have J:Below E.heap.size E w2:=KS (Zb:Below E.heap.size E _) (W.mono (by simp));exact ((a1.out.trans (J.mono a1.out.size)).setCell (by simp) _).setCell (by simp) _
  ·have HT:=KL htm;clear htm;go_wp2_with (go_at_call 130;refine (jp ⟨at_,id⟩ now _ h0 h1 true (Or.inl ⟨HT.out,rfl⟩)).mono ?_;rintro e w2 ⟨rfl,W⟩;obtain ⟨a8,a9⟩:=aX W);have J:Below E.heap.size E w2:=KS (Zb:Below E.heap.size E _) (W.mono (by simp));have s2:=W.size;simp at s2;have u0:w2.cell? ⟨E.heap.size,0,none⟩=some (.int .i64 at_):=ah W (by go_simp) (by simp);have u1:w2.cell? ⟨E.heap.size,1,none⟩=some (.int .i64 id):=ah W (by go_simp) (by simp);have x0:=aC J x0;have x1:=aC J x1;have y0:=aC J y0;have y1:=aC J y1;have f0:∀ z,w2.frozen? ⟨w.heap.size+1,z,none⟩=false:=fun z=>(J.frozen (p:=⟨w.heap.size+1,z,none⟩) (by simp;omega)).trans (f0 z);have a2:=KL (a1.out.trans (J.mono a1.out.size));have a6:=KL ((J.block Z aA).trans HW.out);have a5:=KL (cB HO.out J);clear W a8 a9 J HW HO;go_wp2_with (go_at_call 91;refine (pd Z now vl id LL _ a6.out (gM a5.out).at_ ar.out).mono ?_);rintro e w3 (⟨rfl,ac,I⟩|⟨i,k,rfl,hi,hk,aa,I⟩);rotate_left
   ·obtain ⟨rfl,rfl,rfl⟩:=HA.out.twice HM.out HT.out ⟨_,iT.2 ⟨i,hi,qH rfl hk⟩,aa⟩;have y0:=aC I y0;have y1:=aC I y1;have f0:∀ z,w3.frozen? ⟨w.heap.size+1,z,none⟩=false:=fun z=>(I.frozen (p:=⟨w.heap.size+1,z,none⟩) (by simp;omega)).trans (f0 z);have a4:=KL (a2.out.trans (I.mono a2.out.size));have i0:(0:Int)<=(i:Int):=by omega
    clear aa hk hi;go_wp2;refine LN (v:=.tuple #[.agg #[.int .i64 0,.slice none 0 0],.int .i64 7]) ?_ rfl (WhAns.nil ((a4.out.setCell (by simp) _).setCell (by simp) _));simp [results,results105,go_sem, *]
   ·obtain ⟨rfl,rfl,rfl⟩:=HA.out.yes HM.out HT.out (fun t ht=>by obtain ⟨m,Y,ht⟩:=iT.1 ht;exact ac m Y t ht);obtain ⟨N,rfl⟩:=Lr h0;obtain ⟨K,rfl⟩:=Lr (show 0<=at_ by have:=HT.out.1;simp at this;omega)
    have ax:K<=2199023255552:=by have:=HT.out.2.2.1;simp at this;omega
    have ay:N<=2199023255552:=by omega
    have HE:=KL (Ij HM.out ⟨(K:Int),id⟩);have ad:=(HM.out.2.2.2.1 (bK K N) (fE K N)).2
    have ab:(LL.getD (bK K N) []).length<=100000:=by
     have h1:=HM.out.tot;have h2:=jE (LL:=LL) (k:=bK K N) (by have:=fE K N;omega);omega
    have ao:=KL ad;have al:=KL ab;have x0:=aC I x0;have x1:=aC I x1;have y0:=aC I y0;have y1:=aC I y1;have u0:=aC I u0;have u1:=aC I u1;have f0:∀ z,w3.frozen? ⟨w.heap.size+1,z,none⟩=false:=fun z=>(I.frozen (p:=⟨w.heap.size+1,z,none⟩) (by simp;omega)).trans (f0 z);have s3:=I.size;have a4:=KL (a2.out.trans (I.mono a2.out.size));have au:=KL ((I.block Z (by omega)).trans a6.out);have a7:=KL (cB a5.out I);obtain ⟨av,cv,rfl⟩:=bL (gM a7.out).at_;clear I ac ad ab a6 a5;go_wp2_with (go_at_call 117;refine (Ez Z K N id _ LL V _ au.out a7.out am.out ax ay _ rfl ao.out al.out).mono ?_;rintro e w4 ⟨v4,rfl,ag,aS,_,_,a0⟩;have x0:=a0.cell (p:=⟨Z,0,none⟩) (by simp) |>.trans x0;have x1:=a0.cell (p:=⟨Z,1,none⟩) (by simp) |>.trans x1;have y0:=a0.cell (p:=⟨w.heap.size+1,0,none⟩) (by simp;omega) |>.trans y0;have y1:=a0.cell (p:=⟨w.heap.size+1,1,none⟩) (by simp;omega) |>.trans y1;have f0:∀ z,w4.frozen? ⟨w.heap.size+1,z,none⟩=false:=(fun z=>(a0.frozen (p:=⟨w.heap.size+1,z,none⟩) (by simp;omega)).trans (f0 z));have ak:=KL (a4.out.trans (a0.mono (by omega)));have an:=KL ag;clear ag a0);refine LN (v:=.tuple #[.agg #[.int .i64 (N:Int),.slice av LL.length cv],.int .i64 0]) ?_ rfl ⟨_,rfl,?_,(ak.out.setCell (by simp) _).setCell (by simp) _⟩
    ·simp [results,results105,go_sem, *]
    ·have e:gh ⟨(K:Int),id⟩ (N:Int)=bK K N:=uS rfl rfl;rw [<- HE.out,e];refine mN (gM (ee an.out fun b h1 h2=>?_)) (B:=Z+1) (by omega);rw [KV _ _ _ _ (by simp;omega),KV _ _ _ _ (by simp;omega)]
end
end Go.Proofs.YtennppmadmgfoaaGreatDoor
