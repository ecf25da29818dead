/- Texts of the row's proof. Conditions: none. -/
import Derived.Test.YtfliffgmeobclaaGreatK15
import Derived.Test.YtfliffgmeobclaaGreatK16
import Derived.Test.YtfliffgmeobclaaGreatK27
namespace Go.Proofs.YtfliffgmeobclaaGreat
set_option maxRecDepth 100000
set_option maxHeartbeats 8000000
section
open Go.RowKit
theorem Q6 {p:Prop} (h:p:=by
 have hml':(m:Int)<(X.length:Int):=by omega
 have p0:(0:Int)≤(m:Int):=by omega
 obtain ⟨_,_,e0,_,_,_,pt⟩:=aK Tm.zero (aD HR.out (by rw [I9]) (ig _)).1;injection e0 with e01 _ e03;subst e01;subst e03;obtain ⟨bx,ox,rfl,hbx,q1⟩:=pt (by intro h;rw [h] at hml;simp at hml);obtain ⟨t,ht⟩:∃ t,t=X.getD m Tm.zero:=⟨_,rfl⟩;have d0:=q1 m 0 hml (by omega);have d1:=q1 m 1 hml (by omega);rw [← ht] at d0 d1;have HTk:=Hu (th ht hml);have HTm:=Hu (pz ht hml);obtain ⟨t0,t1⟩:=t;simp only [Tm.cells,I5,I6,Nat.add_zero] at d0 d1;have HTE:=Hu (HM.out.tm _ (HLay.out.mem hj25 _ (by rw [← HX.out];exact HTm.out)));obtain ⟨A,rfl⟩:=Ih (show 0≤t0 by have:=HTE.out.1;simp at this;omega)
 have hA2:A≤2199023255552:=by have:=HTE.out.2.2.1;simp at this;omega
 have hN2:n≤2199023255552:=by have:=HN.out;omega
 have HPk:=Hu (Ft HLay.out (n:Int) hj25 m);rw [← HX.out] at HPk;obtain ⟨Y,hY⟩:∃ Y,Y=fZ (n:Int) (M.set j []) (X.take m):=⟨_,rfl⟩;have HY:=Hu hY;rw [← hY] at HPk HO;have hplt:=fu A n;have hET:=HM.out.tot;have hor:=(HPk.out.2 _ hplt).1
 have hln:(Y.getD (bH A n) []).length≤100000:=by have:=(HPk.out.2 _ hplt).2;omega
 have HOr:=Hu hor;have HLn2:=Hu hln;have HY25:=Hu HPk.out.1;clear ht q1 pt hY hor hln hET;go_wp2_with fail;have hba:Below wr.heap.size wr (wr.alloc (.cells #[.int .i64 (A:Int),.int .i64 t1] 156)):=(Hv _ _).alloc (I3 _) _;refine (rS q A n t1 _ Y V2 _ (by simp;omega) (ah hba z0 (by omega)) (ah hba z1 (by omega)) (cj HO.out hba) HY25.out hA2 hN2 _ rfl HOr.out HLn2.out).mono ?_;rintro e w5 ⟨v5,rfl,hown5,hz5,hk5,hn5,hb5⟩
 have hk6:∀ b,b<wr.heap.size→b≠g0→(V2.getD (bH A n) undef).ownBlock≠some b→w5.heap[b]?=wr.heap[b]?:=fun b h1 h2 h3=>
  (hk5 b (by simp;omega) (fun e=>h2 (Option.some.inj e).symm) h3).trans (hba.block b h1)
 have hV2:bH A n<V2.length:=by rw [HO.out.1,HY25.out];exact hplt
 have hbx':(Value.slice (some ⟨bx,ox,none⟩) X.length cx).ownBlock=some bx:=rfl;have HF6:=Hu (HF.out bx hbx');have hbx6:w5.heap[bx]?=wr.heap[bx]?:=hk6 bx hbx HF6.out.1 (HF6.out.2 _ hplt);have z0:w5.cell? ⟨q,0,none⟩=some (.int .i64 (n:Int)):=(hb5.cell (p:=⟨q,0,none⟩) (by simp)).trans (ah hba z0 (by omega));have z1:w5.cell? ⟨q,1,none⟩=some (.slice (some ⟨g0,0,none⟩) 25 cv):=(hb5.cell (p:=⟨q,1,none⟩) (by simp)).trans (ah hba z1 (by omega));have HB5:=Hu ((HB.out.trans (hba.mono (by omega))).trans (hb5.mono (by omega)));have HR5:=Hu (aX HR.out (fun b hb=>by obtain rfl:bx=b:=Option.some.inj hb;exact hbx6))
 have hzp5:ws.heap.size≤w5.heap.size:=by simp at hz5;omega
 have HO5:Hid (eJ (q+1) w5 (.slice (some ⟨g0,0,none⟩) 25 cv) (fZ (n:Int) (M.set j []) (X.take (m+1))) (V2.set (bH A n) v5)):=by
  have e:fX ⟨(A:Int),t1⟩ (n:Int)=bH A n:=tJ rfl rfl;show eJ _ _ _ _ _
  rw [HTk.out,xT,← HY.out];unfold rD;rw [e];exact hown5
 have HFr:Hid (∀ b,(Value.slice (some ⟨bx,ox,none⟩) X.length cx).ownBlock=some b→b≠g0∧∀ i,i<25→((V2.set (bH A n) v5).getD i undef).ownBlock≠some b):=fun b hb=>by
  obtain rfl:bx=b:=Option.some.inj hb;refine ⟨HF6.out.1,fun i hi hc=>?_⟩;by_cases e:bH A n=i
  ·subst e;rw [cN hV2] at hc;rcases hn5 bx hc with h|h
   ·exact HF6.out.2 _ hplt h
   ·simp at h;omega
  ·rw [cD e] at hc;exact HF6.out.2 i hi hc
 clear hown5 hk5 hk6 hn5 hb5 hbx6 hbx' HF6 hba HB HR HO HF;go_wp2_with fail;go_roundw
 case rel=>exact ⟨m+1,by omega,by go_num,HB5.out,hzp5,z0,z1,HR5.out,_,HO5.out,HFr.out⟩
 case measure=>simp [intOf];omega):p:=h
theorem Q35 {p:Prop} (h:p:=by
 intro b hb;rw [hxv] at hb;refine ⟨fun e=>hd4 j (by omega) b hb (by rw [e];rfl),fun i hi hb'=>?_⟩;by_cases e:j=i
 ·subst e;rw [cN (by omega)] at hb'
  cases hb'
 ·rw [cD e] at hb';rcases Nat.lt_or_gt_of_ne e with h|h
  ·exact hd5 j i h (by omega) b hb hb'
  ·exact hd5 i j h (by omega) b hb' hb):p:=h
theorem Q103 {p:Prop} (h:p:=by
 rw [hws];exact aX HRx.out (fun b hb=>I2 _ _ _ _ (HFree.out b hb).1)):p:=h
theorem Q151 {p:Prop} (h:p:=by
 rw [List.getD_eq_getElem?_getD,Ib (by omega)] at this;simpa using this):p:=h
theorem Dn {X:List Tm} {t:Tm} {k:Nat} (ho:iS X) (hc:cutT X t k):eo X k t=iD (X++[t]):=by
 obtain ⟨hk,h1,h2⟩:=hc
 have g1:∀ x∈X.take k,n7 x t=true:=by
  intro x hx;obtain ⟨i,hi,rfl⟩:=List.mem_iff_getElem.1 hx;rw [Ii] at hi;have:=h1 i (by omega);exact Q151
 have g2:∀ x∈X.drop k,n7 x t=false:=by
  intro x hx;obtain ⟨i,hi,rfl⟩:=List.mem_iff_getElem.1 hx;rw [List.length_drop] at hi;have:=h2 (k+i) (by omega) (by omega);exact Q151
 unfold eo;refine pI ?_ ?_
 ·have ho':iS (X.take k++X.drop k):=by rw [Io];exact ho
  unfold iS at ho' ⊢;rw [List.pairwise_append] at ho' ⊢;refine ⟨ho'.1,List.pairwise_cons.2 ⟨fun x hx=>by unfold gV;rw [g2 x hx];rfl,ho'.2.1⟩,fun x hx y hy=>?_⟩;rcases List.mem_cons.1 hy with rfl|hy
  ·exact Af (g1 x hx)
  ·exact ho'.2.2 x hx y hy
 ·have e:(X.take k++X.drop k).Perm X:=by rw [Io]
  refine List.Perm.trans ?_ (e.append_right [t]);rw [List.append_assoc];refine List.Perm.append_left _ ?_;exact (List.perm_append_singleton t (X.drop k)).symm
theorem yj (X:List Tm) (k:Nat) (t:Tm):eo (X.map Tm.cells) k (Tm.cells t)=(eo X k t).map Tm.cells:=by simp [eo,List.map_take,List.map_drop]
def Er (q:Nat) (w:World) (vl:Value) (LL:List (List Tm)) (V:List Value) (p:Nat) (L':List Tm) (e:Ending) (w':World):Prop:=
 ∃ v',e=.returned (.tuple #[])∧eJ (q+1) w' vl (LL.set p L') (V.set p v')∧w.heap.size≤w'.heap.size∧
  (∀ b,b<w.heap.size→vl.ownBlock≠some b→(V.getD p undef).ownBlock≠some b→w'.heap[b]?=w.heap[b]?)∧(∀ b,v'.ownBlock=some b→(V.getD p undef).ownBlock=some b∨w.heap.size≤b)∧Below (q+1) w w'
theorem rS (q A N:Nat) (t1:Int) (vl:Value) (LL:List (List Tm)) (V:List Value) (w:World) (hqw:q<w.heap.size) (x0:w.cell? ⟨q,0,none⟩=some (.int .i64 (N:Int))) (x1:w.cell? ⟨q,1,none⟩=some vl) (hown:eJ (q+1) w vl LL V) (h25:LL.length=25)
  (hA:A≤2199023255552) (hN:N≤2199023255552) (X:List Tm) (hX:X=LL.getD (bH A N) []) (ho:iS X) (hXl:X.length≤100000) :
  Calls Tryz.prog 113 #[.pointer (some ⟨q,0,none⟩),.agg #[.int .i64 (A:Int),.int .i64 t1]] w (Er q w vl LL V (bH A N) (iD (X++[⟨(A:Int),t1⟩]))):=by
 obtain ⟨P,hP⟩:∃ P,P=bH A N:=⟨_,rfl⟩
 have HP:=Hu hP
 have hP2:=fu A N
 rw [← hP] at hX hP2 ⊢
 clear hP
 have hPl:P<LL.length:=by omega
 have HO:=Hu hown
 obtain ⟨hV,hro,hrw,hd4,hd5⟩:=hown
 rcases fv hro with ⟨_,h0⟩|⟨g0,c0,rfl,_⟩
 ·omega
 have hg0:=hro.lt g0 rfl
 have HRo:=Hu hro
 have l1:=hro.cellAt P (by omega)
 have hVi:V[P]?=some (V.getD P undef):=by rw [List.getD_eq_getElem?_getD,Ib (by omega)];rfl
 rw [hVi] at l1
 have lf:=hro.frozenAt P
 have HD4:=Hu (hd4 P hPl)
 have HRw:=Hu (hrw P hPl)
 obtain ⟨vk,hvk⟩:∃ vk,vk=V.getD P undef:=⟨_,rfl⟩
 have HVk:=Hu hvk
 have HX:=Hu hX
 rw [← hvk] at l1 HD4 HRw
 rw [← hX] at HRw
 obtain ⟨ak,ck,rfl,_⟩:=aC HRw.out
 have HOrd:=Hu ho
 have HLn:=Hu h25
 have p0:(0:Int)≤(P:Int):=by omega
 have p1:(P:Int)<(LL.length:Int):=by omega
 have p2:(P:Int)<25:=by omega
 clear hro hrw hd4 hd5 hV hVi hvk hX ho h25
 go_enter Tryz.func113,Tryz.ntmps113
 go_wp2_with fail
 have y0:(w.alloc (.cells #[.int .i64 (A:Int),.int .i64 t1] 156)).cell? ⟨w.heap.size,0,none⟩=some (.int .i64 (A:Int)):=by go_simp
 (refine Zr (fun w':World=>w'.cell? ⟨q,0,none⟩=some (.int .i64 (N:Int))∧w'.cell? ⟨q,1,none⟩=some (.slice (some ⟨g0,0,none⟩) LL.length c0)∧w'.cell? ⟨w.heap.size,0,none⟩=some (.int .i64 (A:Int))) (fun hHeld=>?_);refine ep 0 ?_;refine eP 8 ?_;refine Z1 12 (fun K hK=>?_);go_simp;(go_at_call 127;refine (lM A N _ (by omega) (by omega)).mono ?_;rw [← HP.out];rintro e w2 ⟨rfl,hb2⟩;(try dsimp only));(try go_wp2_with fail);refine Zk hK fun hHeld=>?_;clear hK K;refine Z1 13 (fun K hK=>?_);go_simp;refine Zk hK fun hHeld=>?_;clear hK K;refine Zt 14 ?_;refine Zd ?_)
 have s2:=hb2.size
 simp at s2
 have u0:w2.cell? ⟨w.heap.size,0,none⟩=some (.int .i64 (A:Int)):=ah hb2 (by go_simp) (by simp)
 have u1:w2.cell? ⟨w.heap.size,1,none⟩=some (.int .i64 t1):=ah hb2 (by go_simp) (by simp)
 have u2:w2.cell? ⟨g0,P,none⟩=some (.slice ak X.length ck):=ah hb2 (by go_simp) (by simp;omega)
 have HB2:Hid (Below w.heap.size w w2):=I0 (Zb:Below w.heap.size w _) (hb2.mono (by simp))
 have HRw2:=Hu (bA HRw.out HB2.out)
 have RA:=Hu (aD HRw2.out (by rw [I9]) (ig _)).1
 clear hb2
 go_wp2_with fail
 (refine Zr (fun w':World=>w'.cell? ⟨g0,P,none⟩=some (.slice ak X.length ck)∧w'.cell? ⟨w.heap.size,0,none⟩=some (.int .i64 (A:Int))∧w'.cell? ⟨w.heap.size,1,none⟩=some (.int .i64 t1)) (fun hHeld=>?_);refine eP 0 ?_;refine Z1 4 (fun K hK=>?_);go_simp;(go_at_call 145;refine (bsTm _ X ⟨(A:Int),t1⟩ _ (dD RA.out _) HOrd.out (by omega)).mono ?_;rintro e w3 ⟨k,fl,rfl,hcut,hb3⟩;(try dsimp only));(try go_wp2_with fail);refine Zk hK fun hHeld=>?_;clear hK K;refine eP 5 ?_;refine Zt 9 ?_;refine Zd ?_)
 have s3:=hb3.size
 simp at s3
 have b23:Below w2.heap.size w2 w3:=I0 (Zb:Below w2.heap.size w2 (w2.drewN 1)) (hb3.mono (by simp))
 have u0:=aA b23 u0
 have u1:=aA b23 u1
 have u2:=aA b23 u2
 have HB3:=Hu (HB2.out.trans (b23.mono HB2.out.size))
 have HRw3:=Hu (bA HRw.out HB3.out)
 have HO3:=Hu (cj HO.out HB3.out)
 have HC:=Hu hcut
 have HS:=Hu (Dn HOrd.out hcut)
 have HRo3:=Hu (bA HRo.out HB3.out)
 have HRw4:=HRw
 have bg:g0<w3.heap.size:=by omega
 clear hb3 b23 hcut RA HRw2 HRw HRo lf l1 x0 x1 y0
 go_wp2_with fail
 (refine Zr (fun w':World=>w'.cell? ⟨w.heap.size,0,none⟩=some (.int .i64 (A:Int))∧w'.cell? ⟨w.heap.size,1,none⟩=some (.int .i64 t1)) (fun hHeld=>?_);refine df 0 ?_;refine Zt 2 ?_;refine df 4 ?_;refine Z2 3 6 (fun K hK=>?_) (fun K hK=>?_);(focus (go_simp;refine Zk hK fun hHeld=>?_;clear hK K;refine Z1 6 (fun K hK=>?_);go_simp;refine Zk hK fun hHeld=>?_;clear hK K));rotate_left 1;(focus (go_simp;refine Zk hK fun hHeld=>?_;clear hK K;refine Z1 3 (fun K hK=>?_);go_simp;refine Zk hK fun hHeld=>?_;clear hK K));rotate_left 1;(all_goals (refine Z1 7 (fun K hK=>?_);go_simp;(go_at_call 146;refine (insTm2 (q+1) _ (X.map Tm.cells) k w3.heap.size (Tm.cells ⟨(A:Int),t1⟩) (w3.alloc (.cells #[.int .i64 (A:Int),.int .i64 t1] 156)).drew (by rw [I9];exact bA HRw3.out (Hx ((Hv w3.heap.size w3).alloc (I3 _) _))) (ig _) (tN _) rfl (tm_one _) (by rw [I9];exact HC.out.1) (by rw [I9];exact hXl) (az (w:=w3) _ rfl) (fun e=>by have:=(HRw3.out.lt _ e).2;omega) (by simp;omega)).mono ?_;rintro e w4 ⟨v4,rfl,hown4,hgr4,hnew4⟩;have hk4:∀ b,b<w3.heap.size→(Value.slice ak X.length ck).ownBlock≠some b→w4.heap[b]?=w3.heap[b]?:=(fun b hb hne=>(hgr4.block b (by simp;omega) (fun e=>hne e.symm)).trans ((Hx ((Hv w3.heap.size w3).alloc (I3 _) _)).block b hb));have z2:w4.cell? ⟨g0,P,none⟩=some (.slice ak X.length ck):=(I8 (w:=w3) (w':=w4) (a:=⟨g0,P,none⟩) (hk4 g0 (by omega) (fun e=>HD4.out _ e rfl))).trans u2;have z3:w4.frozen? ⟨g0,P,none⟩=false:=(aX HRo3.out (fun b hb=>by have e:b=g0:=(Option.some.inj hb).symm;subst e;exact hk4 b (by omega) (fun e=>HD4.out _ e rfl))).frozenAt P;have z0:w4.cell? ⟨w.heap.size,0,none⟩=some (.int .i64 (A:Int)):=(I8 (w:=w3) (w':=w4) (a:=⟨w.heap.size,0,none⟩) (hk4 w.heap.size (by omega) (fun e=>by have:=(HRw4.out.lt _ e).2;omega))).trans u0;have z1:w4.cell? ⟨w.heap.size,1,none⟩=some (.int .i64 t1):=(I8 (w:=w3) (w':=w4) (a:=⟨w.heap.size,1,none⟩) (hk4 w.heap.size (by omega) (fun e=>by have:=(HRw4.out.lt _ e).2;omega))).trans u1;have hz4:=hgr4.size;obtain ⟨a4,c4,rfl,_⟩:=aC hown4;have HN4:=Hu hown4;have HG4:=Hu hgr4;have HNew:=Hu hnew4;have HK4:=Hu hk4;clear hown4 hgr4 hnew4 hk4);(try go_wp2_with fail);refine Zk hK fun hHeld=>?_;clear hK K;refine Zt 8 ?_;refine Z1 9 (fun K hK=>?_);go_simp;refine Zk hK fun hHeld=>?_;clear hK K));(all_goals refine Zd ?_))
 all_goals
  have hlen:(X.map Tm.cells).length+1=(iD (X++[⟨(A:Int),t1⟩])).length:=by rw [(di _).length_eq];simp
  have HN5:=HN4.out
  rw [yj,HS.out] at HN5
  have HS5:=Hu (iy (w':=w4) (L':=iD (X++[⟨(A:Int),t1⟩])) HO3.out hPl rfl (fun b hb hne=>HK4.out b hb (by rw [HVk.out];exact hne)) (fun b hb=>(HNew.out b hb).imp (fun e=>by rw [← HVk.out];exact e) (fun e=>by simp at e;omega)) (by rw [← hlen];exact HN5))
  have hz5:w.heap.size≤w4.heap.size:=by simp at hz4;omega
  have HKw:=Hu (fun b (hb:b<w.heap.size) (hne:(Value.slice ak X.length ck).ownBlock≠some b)=>(HK4.out b (by omega) hne).trans (HB3.out.block b hb))
  clear HN5 HN4
  go_wp2_with fail
  refine Ix (v:=.tuple #[]) (by simp [results,Tryz.results113,go_sem]) rfl ?_
  refine ⟨_,rfl,by have h:=HS5.out;rw [show (X.map Tm.cells).length=X.length from I9 _] at h;exact h,by simpa using hz5,fun b hb h1 h2=>?_,fun b hb=>?_,?_⟩
  ·rw [I2 _ _ _ _ (fun e:b=g0=>h1 (by rw [e];rfl))];exact HKw.out b hb (by rw [HVk.out];exact h2)
  ·rcases HNew.out b (by rw [show (X.map Tm.cells).length=X.length from I9 _];exact hb) with h|h
   ·rw [← HVk.out];exact Or.inl h
   ·exact Or.inr (by simp at h;omega)
  ·have hb3':Below (q+1) w (w3.alloc (.cells #[.int .i64 (A:Int),.int .i64 t1] 156)).drew:=(HB3.out.mono (by omega)).trans (Hx ((Hv _ w3).alloc (by omega) _));have hb4:Below (q+1) w w4:=hb3'.trans <| cM (B:=q+1) (wr:=(w3.alloc (.cells #[.int .i64 (A:Int),.int .i64 t1] 156)).drew) (Hv _ _) (by simp;omega) (bA HRw3.out (Hx ((Hv w3.heap.size w3).alloc (I3 _) _))) HG4.out;exact Hy (p:=⟨g0,P,none⟩) hb4 (by show q+1≤g0;omega) _
theorem Cx (q A N:Nat) (t1:Int) (vl:Value) (LL:List (List Tm)) (V:List Value) (w:World) (hq:w.heap[q]?=some (.cells #[.int .i64 (N:Int),vl] 203 (0,0))) (hown:eJ (q+1) w vl LL V) (h25:LL.length=25)
  (hA:A≤2199023255552) (hN:N≤2199023255552) (X:List Tm) (hX:X=LL.getD (bH A N) []) (ho:iS X) (hXl:X.length≤100000) :
  Calls Tryz.prog 113 #[.pointer (some ⟨q,0,none⟩),.agg #[.int .i64 (A:Int),.int .i64 t1]] w (Er q w vl LL V (bH A N) (iD (X++[⟨(A:Int),t1⟩]))):=
 rS q A N t1 vl LL V w (lt_of_block hq) (ae hq 0) (ae hq 1) hown h25 hA hN X hX ho hXl
def ArmAns (now:Int) (LL:List (List Tm)) (t:Tm) (now':Int) (LL':List (List Tm)) (c:Int):Prop:=
 (¬ WhMay now LL∧now'=0∧LL'=[]∧c=6)∨
 (WhMay now LL∧¬ dJ t now∧now'=0∧LL'=[]∧c=2)∨
 (WhMay now LL∧dJ t now∧(∃ s∈LL.flatten,s.id=t.id)∧now'=0∧LL'=[]∧c=7)∨
 (WhMay now LL∧dJ t now∧(∀ s∈LL.flatten,¬ s.id=t.id)∧now'=now∧LL'=bK now (LL.flatten++[t])∧c=0)
section
variable {now:Int} {LL:List (List Tm)} {t:Tm} {now':Int} {LL':List (List Tm)} {c:Int}
theorem ArmAns.no (h:ArmAns now LL t now' LL' c) (hm:¬ WhMay now LL):now'=0∧LL'=[]∧c=6:=by
 exact Q154
theorem ArmAns.range (h:ArmAns now LL t now' LL' c) (hm:WhMay now LL) (ht:¬ dJ t now):now'=0∧LL'=[]∧c=2:=by
 rcases h with ⟨h,_⟩|⟨_,_,h⟩|⟨_,h,_⟩|⟨_,h,_⟩
 ·exact absurd hm h
 ·exact h
 all_goals exact absurd h ht
theorem ArmAns.twice (h:ArmAns now LL t now' LL' c) (hm:WhMay now LL) (ht:dJ t now) (hs:∃ s∈LL.flatten,s.id=t.id):now'=0∧LL'=[]∧c=7:=by
 rcases h with ⟨h,_⟩|⟨_,h,_⟩|⟨_,_,_,h⟩|⟨_,_,h,_⟩
 ·exact absurd hm h
 ·exact absurd ht h
 ·exact h
 ·obtain ⟨s,h1,h2⟩:=hs;exact absurd h2 (h s h1)
theorem ArmAns.yes (h:ArmAns now LL t now' LL' c) (hm:WhMay now LL) (ht:dJ t now) (hs:∀ s∈LL.flatten,¬ s.id=t.id):now'=now∧LL'=bK now (LL.flatten++[t])∧c=0:=by
 rcases h with ⟨h,_⟩|⟨_,h,_⟩|⟨_,_,h,_⟩|⟨_,_,_,h⟩
 ·exact absurd hm h
 ·exact absurd ht h
 ·obtain ⟨s,h1,h2⟩:=h;exact absurd h2 (hs s h1)
 ·exact h
end
theorem EU {now:Int} {LL:List (List Tm)} (h:WhMay now LL) (t:Tm):LL.set (fX t now) (iD (LL.getD (fX t now) []++[t]))=bK now (LL.flatten++[t]):=by
 have hl:=h.2.2.1;have hp:fX t now<25:=fu _ _;have hat:∀ i,i<25→LL.flatten.filter (fun t=>fX t now == i)=LL.getD i []:=fun i hi=>kF hl (fun i hi t ht=>((h.2.2.2.1 i hi).1 t ht).2) hi;refine jk (by simp [hl]) (cV _ _) (fun i hi=>?_);rw [dQ _ _ hi,List.filter_append,hat i hi];by_cases e:fX t now=i
 ·subst e;rw [cN (by omega)];simp
 ·rw [cD e];have:(fX t now == i)=false:=by simpa using e
  simp only [List.filter_cons,this,List.filter_nil];rw [if_neg (by simp),List.append_nil];exact (i9 (h.2.2.2.1 i hi).2).symm
theorem vp (lv:Value) (now:Int) (LL:List (List Tm)) (id at_:Int) (w:World) (r:kY w lv LL) (hn:LL.length≤1048576) (hs:LL.flatten.length≤1048576) (now':Int) (LL':List (List Tm)) (c:Int) (ha:ArmAns now LL ⟨at_,id⟩ now' LL' c) :
  Calls Tryz.prog 101 #[.agg #[.int .i64 now,lv],.int .i64 id,.int .i64 at_] w (WhAns w now' LL' c):=by
 obtain ⟨a,cp,rfl⟩:=bI r
 have R2:=Hu (ed r ((I1 (Hv _ _) (I3 _) (.cells #[.int .i64 now,.slice a LL.length cp] 61)).alloc (by simp) (.cells #[.int .i64 0,.slice none 0 0] 61)))
 have HS:=Hu (fun k (h:k<LL.length)=>Iq (jv h) hs)
 have HA:=Hu ha
 clear r hs ha
 go_enter Tryz.func101,Tryz.ntmps101
 go_wp2_with (go_at_call 86;refine (nz _ now LL _ R2.out (by omega) (fun i hi=>by have:=HS.out i hi;omega)).mono ?_)
 rintro e w1 (⟨q,vl,V,rfl,hm,hq,hq2,hqb,hown,hb1⟩|⟨rfl,hm,hb1⟩)
 rotate_left
 ·obtain ⟨rfl,rfl,rfl⟩:=HA.out.no hm;obtain ⟨hc1,hf1⟩:=aV hb1;go_wp2;refine Ix (v:=.tuple #[.agg #[.int .i64 0,.slice none 0 0],.int .i64 6]) ?_ rfl (WhAns.nil Zb);simp [results,Tryz.results101,go_sem, *]
 ·have h25:=hm.2.2.1;have h0:=hm.1;have h1:=hm.2.1;have HM:=Hu hm;have HW:=Hu hqb;have HO:=Hu hown;have HB1:Hid (Below w.heap.size w w1):=I0 (Zb:Below w.heap.size w _) (hb1.mono (by simp;omega));have hz1:=hb1.size;have x0:w1.cell? ⟨q,0,none⟩=some (.int .i64 now):=ae hqb 0;have x1:w1.cell? ⟨q,1,none⟩=some vl:=ae hqb 1;simp at hq hz1;have y0:w1.cell? ⟨w.heap.size+1,0,none⟩=some (.int .i64 0):=ah hb1 (by go_simp) (by simp);have y1:w1.cell? ⟨w.heap.size+1,1,none⟩=some (.slice none 0 0):=ah hb1 (by go_simp) (by simp);have y2:w1.cell? ⟨w.heap.size,0,none⟩=some (.int .i64 now):=ah hb1 (by go_simp) (by simp;omega);have f0:∀ n,w1.frozen? ⟨w.heap.size+1,n,none⟩=false:=fun n=>(hb1.frozen (p:=⟨w.heap.size+1,n,none⟩) (by simp)).trans (by go_simp);have HLn:=Hu h25;have HSz:=Hu (fun i (h:i<LL.length)=>Iq (HS.out i h) (I3 1048576));clear hm hqb hown hb1;have k1:w.heap.size<w1.heap.size:=by omega
  have k2:w.heap.size+1<w1.heap.size:=by omega
  by_cases htm:dJ ⟨at_,id⟩ now;rotate_left
  ·obtain ⟨rfl,rfl,rfl⟩:=HA.out.range HM.out htm;have HT:=Hu htm;clear htm;go_wp2_with (go_at_call 126;refine (jg ⟨at_,id⟩ now _ h0 h1 false (Or.inr ⟨HT.out,rfl⟩)).mono ?_;rintro e w2 ⟨rfl,hb2⟩;obtain ⟨hc2,hf2⟩:=aV hb2);refine Ix (v:=.tuple #[.agg #[.int .i64 0,.slice none 0 0],.int .i64 2]) ?_ rfl (WhAns.nil ?_)
   ·simp [results,Tryz.results101,go_sem, *]
   ·have b2:Below w1.heap.size w1 w2:=I0 (Zb:Below w1.heap.size w1 _) (hb2.mono (by simp));exact ((HB1.out.trans (b2.mono HB1.out.size)).setCell (by simp) _).setCell (by simp) _
  ·have HT:=Hu htm;clear htm;go_wp2_with (go_at_call 126;refine (jg ⟨at_,id⟩ now _ h0 h1 true (Or.inl ⟨HT.out,rfl⟩)).mono ?_;rintro e w2 ⟨rfl,hb2⟩;obtain ⟨hc2,hf2⟩:=aV hb2);have b2:Below w1.heap.size w1 w2:=I0 (Zb:Below w1.heap.size w1 _) (hb2.mono (by simp));have s2:=hb2.size;simp at s2;have u0:w2.cell? ⟨w1.heap.size,0,none⟩=some (.int .i64 at_):=ah hb2 (by go_simp) (by simp);have u1:w2.cell? ⟨w1.heap.size,1,none⟩=some (.int .i64 id):=ah hb2 (by go_simp) (by simp);have x0:=aA b2 x0;have x1:=aA b2 x1;have y0:=aA b2 y0;have y1:=aA b2 y1;have f0:∀ n,w2.frozen? ⟨w.heap.size+1,n,none⟩=false:=fun n=>(b2.frozen (p:=⟨w.heap.size+1,n,none⟩) (by simp;omega)).trans (f0 n);have HB2:=Hu (HB1.out.trans (b2.mono HB1.out.size));have HW2:=Hu ((b2.block q hq2).trans HW.out);have HO2:=Hu (cj HO.out b2);clear hb2 hc2 hf2 b2 HW HO;go_wp2_with (go_at_call 87;refine (nZ q now vl id LL _ HW2.out (gE HO2.out).at_ HSz.out).mono ?_);rintro e w3 (⟨rfl,hnone,hb3⟩|⟨i,k,rfl,hi,hk,hid,hb3⟩);rotate_left
   ·obtain ⟨rfl,rfl,rfl⟩:=HA.out.twice HM.out HT.out ⟨_,iK.2 ⟨i,hi,pz rfl hk⟩,hid⟩;have y0:=aA hb3 y0;have y1:=aA hb3 y1;have f0:∀ n,w3.frozen? ⟨w.heap.size+1,n,none⟩=false:=fun n=>(hb3.frozen (p:=⟨w.heap.size+1,n,none⟩) (by simp;omega)).trans (f0 n);have HB3:=Hu (HB2.out.trans (hb3.mono HB2.out.size));have i0:(0:Int)≤(i:Int):=by omega
    clear hid hk hi;go_wp2;refine Ix (v:=.tuple #[.agg #[.int .i64 0,.slice none 0 0],.int .i64 7]) ?_ rfl (WhAns.nil ((HB3.out.setCell (by simp) _).setCell (by simp) _));simp [results,Tryz.results101,go_sem, *]
   ·obtain ⟨rfl,rfl,rfl⟩:=HA.out.yes HM.out HT.out (fun t ht=>by obtain ⟨m,hm,ht⟩:=iK.1 ht;exact hnone m hm t ht);obtain ⟨N,rfl⟩:=Ih h0;obtain ⟨A,rfl⟩:=Ih (show 0≤at_ by have:=HT.out.1;simp at this;omega)
    have hA2:A≤2199023255552:=by have:=HT.out.2.2.1;simp at this;omega
    have hN2:N≤2199023255552:=by omega
    have HE:=Hu (EU HM.out ⟨(A:Int),id⟩);have hord:=(HM.out.2.2.2.1 (bH A N) (fu A N)).2
    have hlen:(LL.getD (bH A N) []).length≤100000:=by
     have h1:=HM.out.tot;have h2:=jv (LL:=LL) (k:=bH A N) (by have:=fu A N;omega);omega
    have HOrd:=Hu hord;have HLen:=Hu hlen;have x0:=aA hb3 x0;have x1:=aA hb3 x1;have y0:=aA hb3 y0;have y1:=aA hb3 y1;have u0:=aA hb3 u0;have u1:=aA hb3 u1;have f0:∀ n,w3.frozen? ⟨w.heap.size+1,n,none⟩=false:=fun n=>(hb3.frozen (p:=⟨w.heap.size+1,n,none⟩) (by simp;omega)).trans (f0 n);have s3:=hb3.size;have HB3:=Hu (HB2.out.trans (hb3.mono HB2.out.size));have HW3:=Hu ((hb3.block q (by omega)).trans HW2.out);have HO3:=Hu (cj HO2.out hb3);obtain ⟨av,cv,rfl⟩:=bI (gE HO3.out).at_;clear hb3 hnone hord hlen HW2 HO2;go_wp2_with (go_at_call 113;refine (Cx q A N id _ LL V _ HW3.out HO3.out HLn.out hA2 hN2 _ rfl HOrd.out HLen.out).mono ?_;rintro e w4 ⟨v4,rfl,hown4,hz4,_,_,hb4⟩;have x0:=hb4.cell (p:=⟨q,0,none⟩) (by simp) |>.trans x0;have x1:=hb4.cell (p:=⟨q,1,none⟩) (by simp) |>.trans x1;have y0:=hb4.cell (p:=⟨w.heap.size+1,0,none⟩) (by simp;omega) |>.trans y0;have y1:=hb4.cell (p:=⟨w.heap.size+1,1,none⟩) (by simp;omega) |>.trans y1;have f0:∀ n,w4.frozen? ⟨w.heap.size+1,n,none⟩=false:=(fun n=>(hb4.frozen (p:=⟨w.heap.size+1,n,none⟩) (by simp;omega)).trans (f0 n));have HB4:=Hu (HB3.out.trans (hb4.mono (by omega)));have HO4:=Hu hown4;clear hown4 hb4);refine Ix (v:=.tuple #[.agg #[.int .i64 (N:Int),.slice av LL.length cv],.int .i64 0]) ?_ rfl ⟨_,rfl,?_,(HB4.out.setCell (by simp) _).setCell (by simp) _⟩
    ·simp [results,Tryz.results101,go_sem, *]
    ·have e:fX ⟨(A:Int),id⟩ (N:Int)=bH A N:=tJ rfl rfl;rw [← HE.out,e];refine mb (gE (ea HO4.out fun b h1 h2=>?_)) (B:=q+1) (by omega);rw [I2 _ _ _ _ (by simp;omega),I2 _ _ _ _ (by simp;omega)]
def WhAns3 (w:World) (now:Int) (LL:List (List Tm)) (off:List Int) (c:Int) (e:Ending) (w':World):Prop:=∃ v o,e=.returned (.tuple #[.agg #[.int .i64 now,v],o,.int .i64 c])∧LsNew w.heap.size w' v LL∧aM w.heap.size w' 1 o (off.map fun x=>[.int .i64 x])∧Below w.heap.size w w'
theorem WhAns3.nil {w w':World} {c:Int} (hb:Below w.heap.size w w'):WhAns3 w 0 [] [] c (.returned (.tuple #[.agg #[.int .i64 0,.slice none 0 0],.slice none 0 0,.int .i64 c])) w':=⟨_,_,rfl,sV _ _,bD _ _ _,hb⟩
def AdvAns (now:Int) (LL:List (List Tm)) (now':Int) (LL':List (List Tm)) (off:List Int) (c:Int):Prop:=
 (¬ WhMay now LL∧now'=0∧LL'=[]∧off=[]∧c=6)∨
 (WhMay now LL∧now=1099511627776∧now'=0∧LL'=[]∧off=[]∧c=9)∨
 (WhMay now LL∧now<1099511627776∧now'=now+1∧LL'=bK (now+1) (LL.flatten.filter fun t=>decide (now+1<t.at_))∧off=(iD (LL.flatten.filter fun t=>t.at_ == now+1)).map Tm.id∧c=0)
section
variable {now:Int} {LL:List (List Tm)} {now':Int} {LL':List (List Tm)} {off:List Int} {c:Int}
theorem AdvAns.no (h:AdvAns now LL now' LL' off c) (hm:¬ WhMay now LL):now'=0∧LL'=[]∧off=[]∧c=6:=by
 rcases h with ⟨_,h⟩|⟨h,_⟩|⟨h,_⟩
 ·exact h
 all_goals exact absurd h hm
theorem AdvAns.full (h:AdvAns now LL now' LL' off c) (hm:WhMay now LL) (ht:now=1099511627776):now'=0∧LL'=[]∧off=[]∧c=9:=by
 rcases h with ⟨h,_⟩|⟨_,_,h⟩|⟨_,h,_⟩
 ·exact absurd hm h
 ·exact h
 ·omega
theorem AdvAns.yes (h:AdvAns now LL now' LL' off c) (hm:WhMay now LL) (ht:now<1099511627776):now'=now+1∧LL'=bK (now+1) (LL.flatten.filter fun t=>decide (now+1<t.at_))∧off=(iD (LL.flatten.filter fun t=>t.at_ == now+1)).map Tm.id∧c=0:=by
 rcases h with ⟨h,_⟩|⟨_,h,_⟩|⟨_,_,h⟩
 ·exact absurd hm h
 ·omega
 ·exact h
end
def AvRel (q:Nat) (w1 wr:World) (n:Nat) (vl:Value) (M:List (List Tm)):Prop:=Below q w1 wr∧wr.cell? ⟨q,0,none⟩=some (.int .i64 (n:Int))∧wr.cell? ⟨q,1,none⟩=some vl∧∃ V,eJ (q+1) wr vl M V
def AvIn (q g0:Nat) (w2 ws wp:World) (n cv:Nat) (xv:Value) (M:List (List Tm)) (X:List Tm):Prop:=Below q w2 wp∧ws.heap.size≤wp.heap.size∧wp.cell? ⟨q,0,none⟩=some (.int .i64 (n:Int))∧wp.cell? ⟨q,1,none⟩=some (.slice (some ⟨g0,0,none⟩) 25 cv)∧
 wp.ownsRow (q+1) 156 2 xv X.length (X.map Tm.cells).flatten∧∃ V,eJ (q+1) wp (.slice (some ⟨g0,0,none⟩) 25 cv) M V∧∀ b,xv.ownBlock=some b→b≠g0∧∀ i,i<25→(V.getD i undef).ownBlock≠some b
theorem flat1 {α:Type} (f:α→Value) (X:List α):(X.map fun x=>[f x]).flatten=X.map f:=by
 induction X with
 | nil=>rfl
 | cons x X ih=>simp [ih]
theorem FT:(Tryz.prog.info? 3).map (fun i=>(i.zero,i.size,i.bytes))=some (some (.int .i64 0),1,8):=by kernel_rfl
theorem zc:(Tryz.prog.info? 233).map (fun i=>(i.zero,i.size,i.bytes))=some (some (.agg #[.int .i64 0,.int .i64 0]),2,16):=by kernel_rfl
theorem idx3 (a b c d e f:Int) (W:World) :
  (Instr.index 234 (.agg #[.int .i64 a,.int .i64 b,.int .i64 c,.int .i64 d,.int .i64 e,.int .i64 f]) (.int .i64 0)).run Tryz.prog W=.ok (.agg #[.int .i64 a,.int .i64 b]) W∧
  (Instr.index 234 (.agg #[.int .i64 a,.int .i64 b,.int .i64 c,.int .i64 d,.int .i64 e,.int .i64 f]) (.int .i64 1)).run Tryz.prog W=.ok (.agg #[.int .i64 c,.int .i64 d]) W∧
  (Instr.index 234 (.agg #[.int .i64 a,.int .i64 b,.int .i64 c,.int .i64 d,.int .i64 e,.int .i64 f]) (.int .i64 2)).run Tryz.prog W=.ok (.agg #[.int .i64 e,.int .i64 f]) W:=by
 obtain ⟨i0,hi,hi0,hi1,hi2⟩:=info_parts zc
 have hu:=Tryz.underlying234
 refine ⟨?_,?_,?_⟩<;>simp [Instr.index,asIntOf,run_underlying hu,part,sizeOf,typeInfo,hi,hi1]
theorem tH (lv:Value) (now:Int) (LL:List (List Tm)) (w:World) (r:kY w lv LL) (hn:LL.length≤1048576) (hs:LL.flatten.length≤1048576) (now':Int) (LL':List (List Tm)) (off:List Int) (c:Int) (ha:AdvAns now LL now' LL' off c) :
  Calls Tryz.prog 68 #[.agg #[.int .i64 now,lv]] w (WhAns3 w now' LL' off c):=by
 obtain ⟨a,cp,rfl⟩:=bI r
 have R2:=Hu (ed r ((I1 (Hv _ _) (I3 _) (.cells #[.int .i64 now,.slice a LL.length cp] 61)).alloc (by simp) (.cells #[.int .i64 0,.slice none 0 0] 61)))
 have HS:=Hu (fun k (h:k<LL.length)=>Iq (jv h) hs)
 have HA:=Hu ha
 clear r hs ha
 go_enter Tryz.func68,Tryz.ntmps68
 go_wp2_with (go_at_call 86;refine (nz _ now LL _ R2.out (by omega) (fun i hi=>by have:=HS.out i hi;omega)).mono ?_)
 rintro e w1 (⟨q,vl,V,rfl,hm,hq,hq2,hqb,hown,hb1⟩|⟨rfl,hm,hb1⟩)
 rotate_left
 ·obtain ⟨rfl,rfl,rfl,rfl⟩:=HA.out.no hm;obtain ⟨hc1,hf1⟩:=aV hb1;go_wp2;refine Ix (v:=.tuple #[.agg #[.int .i64 0,.slice none 0 0],.slice none 0 0,.int .i64 6]) ?_ rfl (WhAns3.nil Zb);simp [results,Tryz.results68,go_sem, *]
 ·have h25:=hm.2.2.1;have h0:=hm.1;have h1:=hm.2.1;have HM:=Hu hm;have HO:=Hu hown;have HB1:Hid (Below w.heap.size w w1):=I0 (Zb:Below w.heap.size w _) (hb1.mono (by simp;omega));have hz1:=hb1.size;have x0:w1.cell? ⟨q,0,none⟩=some (.int .i64 now):=ae hqb 0;have x1:w1.cell? ⟨q,1,none⟩=some vl:=ae hqb 1;have x2:w1.frozen? ⟨q,0,none⟩=false:=ap hqb 0;simp at hq hz1;have y0:w1.cell? ⟨w.heap.size+1,0,none⟩=some (.int .i64 0):=ah hb1 (by go_simp) (by simp);have y1:w1.cell? ⟨w.heap.size+1,1,none⟩=some (.slice none 0 0):=ah hb1 (by go_simp) (by simp);have y2:w1.cell? ⟨w.heap.size,0,none⟩=some (.int .i64 now):=ah hb1 (by go_simp) (by simp;omega);have f0:∀ n,w1.frozen? ⟨w.heap.size+1,n,none⟩=false:=fun n=>(hb1.frozen (p:=⟨w.heap.size+1,n,none⟩) (by simp)).trans (by go_simp);have HLn:=Hu h25;rcases fv HO.out.2.1 with ⟨_,h00⟩|⟨g0,cv,rfl,_⟩
  ·omega
  have hg0:=HO.out.2.1.lt g0 rfl
  have HO:Hid (eJ (q+1) w1 (.slice (some ⟨g0,0,none⟩) 25 cv) LL V):=by have:=HO.out;rw [h25] at this;exact this
  rw [h25] at x1;clear hm hqb hown hb1;have k1:w.heap.size<w1.heap.size:=by omega
  have k2:w.heap.size+1<w1.heap.size:=by omega
  have k3:¬ q=w.heap.size+1:=by omega
  have k4:¬ w.heap.size+1=q:=by omega
  by_cases hfull:now=1099511627776
  ·obtain ⟨rfl,rfl,rfl,rfl⟩:=HA.out.full HM.out hfull;subst hfull;go_wp2;refine Ix (v:=.tuple #[.agg #[.int .i64 0,.slice none 0 0],.slice none 0 0,.int .i64 9]) ?_ rfl (WhAns3.nil ((HB1.out.setCell (by simp) _).setCell (by simp) _));simp [results,Tryz.results68,go_sem, *]
  ·have hlt:now<1099511627776:=by omega
   obtain ⟨N,hNn⟩:=Ih h0;have HM:=Hu (show WhMay (N:Int) LL by rw [← hNn];exact HM.out);have HNn:=Hu hNn;clear hNn;obtain ⟨n,hn1⟩:∃ n:Nat,(n:Int)=now+1:=⟨(now+1).toNat,by omega⟩
   have e1:IntKind.i64.wrap (now+1)=(n:Int):=by rw [IntKind.wrap_i64];omega
   have HN1:=Hu hn1;have HLt:=Hu hlt;have n0:(0:Int)≤(n:Int):=by omega
   have n1:n≤1099511627776:=by omega
   have HN:=Hu n1;clear hn1 hlt n1 h1;go_wp2_with fail;obtain ⟨w2,hw2⟩:∃ w2,w2=w1.setCell ⟨q,0,none⟩ (.int .i64 (n:Int)):=⟨_,rfl⟩
   have z0:w2.cell? ⟨q,0,none⟩=some (.int .i64 (n:Int)):=by rw [hw2];go_simp
   have z1:w2.cell? ⟨q,1,none⟩=some (.slice (some ⟨g0,0,none⟩) 25 cv):=by rw [hw2];go_simp
   have HB2:Hid (Below q w1 w2):=by rw [hw2];exact Hy (p:=⟨q,0,none⟩) (Hv q w1) (I3 q) _
   have HO2:Hid (eJ (q+1) w2 (.slice (some ⟨g0,0,none⟩) 25 cv) LL V):=by
    rw [hw2];exact ea HO.out (fun b h1 h2=>I2 _ _ _ _ (by simp;omega))
   have hz2:w1.heap.size=w2.heap.size:=by rw [hw2];simp
   rw [← hw2];clear hw2 HO x0 x1 x2;refine Zr (fun w':World=>w'.cell? ⟨q,0,none⟩=some (.int .i64 (n:Int))) (fun hHeld=>?_);refine ep 0 ?_;refine ep 8 ?_;refine eP 16 ?_;refine Zt 20 ?_;refine Zd ?_;go_wp2_with fail;have hnn:=HN.out
   have e2:IntKind.i64.wrap (16+(IntKind.i64.wrap ((n:Int) / 64)).tmod 8)=((16+n / 64 % 8:Nat):Int):=by
    rw [IntKind.wrap_i64 ((n:Int) / 64),show (((n:Int) / 64+9223372036854775808) % 18446744073709551616 - 9223372036854775808)=((n / 64:Nat):Int) by omega,Int.tmod_eq_emod_of_nonneg (by omega),IntKind.wrap_i64];omega
   have e3:IntKind.i64.wrap (8+(IntKind.i64.wrap ((n:Int) / 8)).tmod 8)=((8+n / 8 % 8:Nat):Int):=by
    rw [IntKind.wrap_i64 ((n:Int) / 8),show (((n:Int) / 8+9223372036854775808) % 18446744073709551616 - 9223372036854775808)=((n / 8:Nat):Int) by omega,Int.tmod_eq_emod_of_nonneg (by omega),IntKind.wrap_i64];omega
   rw [e2,e3];clear e2 e3 hnn;obtain ⟨L1,hL1⟩:∃ L1,L1=16+n / 64 % 8:=⟨_,rfl⟩;obtain ⟨L2,hL2⟩:∃ L2,L2=8+n / 8 % 8:=⟨_,rfl⟩;rw [← hL1,← hL2];have l1:(L1:Int)<25:=by omega
   have l2:(L2:Int)<25:=by omega
   have HL1:=Hu hL1;have HL2:=Hu hL2;clear hL1 hL2;go_loopw [58] (fun i wr=>∃ k:Nat,k≤3∧i=.int .i64 k∧AvRel q w2 wr n (.slice (some ⟨g0,0,none⟩) 25 cv) (fR n LL k)) (fun i _=>3 - (intOf i).toNat)
   case atStart=>exact ⟨0,by omega,rfl,Hx (Hv _ _),z0,z1,V,cj HO2.out (Hx (Hv _ _))⟩
   case round=>
    obtain ⟨k,hk,rfl,hB,z0,z1,V,hO⟩:=hrel;have HB:=Hu hB;have HO:=Hu hO;have hzr:=hB.size;clear hB hO HO2;rcases (show k=0∨k=1∨k=2∨k=3 by omega) with rfl|rfl|rfl|rfl
    ·rw [show ((0:Nat):Int)=0 from rfl];have hix:=fun W=>(idx3 512 24 64 L1 8 L2 W).1;go_wp2_with fail;obtain ⟨wf,hwf⟩:∃ wf,wf=wr.alloc (.cells #[.int .i64 512,.int .i64 24] 233):=⟨_,rfl⟩
     have b0:wf.cell? ⟨wr.heap.size,0,none⟩=some (.int .i64 512):=by rw [hwf];go_simp
     have b1:wf.cell? ⟨wr.heap.size,1,none⟩=some (.int .i64 24):=by rw [hwf];go_simp
     have hbf:Below wr.heap.size wr wf:=by rw [hwf];exact (Hv _ _).alloc (I3 _) _
     have hzf:wf.heap.size=wr.heap.size+1:=by rw [hwf];simp
     have z0:=ah hbf z0 (by omega);have z1:=ah hbf z1 (by omega);have HBf:=Hu (HB.out.trans (hbf.mono (by omega)));have HOf:=Hu (cj HO.out hbf);rw [← hwf];clear hwf hbf HB HO hix
     have hmod:(n:Int).tmod 512=((n % 512:Nat):Int):=by rw [Int.tmod_eq_emod_of_nonneg (by omega)];omega
     have HMod:=Hu hmod;clear hmod;by_cases hd:n % 512=0;rotate_left
     ·have HE:=Hu (show fR n LL 1=fR n LL 0 by rw [Ej,if_neg hd])
      have hq1:((n:Int).tmod 512 != 0)=true:=by rw [HMod.out,bne_iff_ne];omega
      refine Zr (fun w':World=>w'.cell? ⟨q,0,none⟩=some (.int .i64 (n:Int))∧w'.cell? ⟨wr.heap.size,0,none⟩=some (.int .i64 512)) (fun hHeld=>?_);refine ep 0 ?_;refine Zt 8 ?_;refine Zd ?_;go_wp2_with fail;go_roundw
      case rel=>
       refine ⟨1,by omega,by go_num,HBf.out.trans (Hx (Hv _ _)),?_,?_,V,?_⟩
       ·exact z0
       ·exact z1
       ·rw [HE.out];exact cj HOf.out (Hx (Hv _ _))
      case measure=>simp [intOf]
     ·have hq1:((n:Int).tmod 512 != 0)=false:=by rw [HMod.out,bne_eq_false_iff_eq];omega
      refine Zr (fun w':World=>w'.cell? ⟨q,0,none⟩=some (.int .i64 (n:Int))∧w'.cell? ⟨wr.heap.size,0,none⟩=some (.int .i64 512)) (fun hHeld=>?_);refine ep 0 ?_;refine Zt 8 ?_;refine Zd ?_;clear hq1;obtain ⟨j,hj⟩:∃ j:Nat,j=24:=⟨_,rfl⟩
      have hj2:(24:Int)=(j:Int):=by rw [hj];try rfl
      have hj25:j<25:=by omega
      obtain ⟨M,hM⟩:∃ M,M=fR n LL 0:=⟨_,rfl⟩;have HE:=Hu (show fR n LL 1=oN (n:Int) j M by rw [Ej,if_pos hd,hj,hM]);obtain ⟨s,hs⟩:=qV HM.out n 0;rw [← hM] at hs HOf;have HLay:=Hu hs;have hMl:=hs.1;rw [hj2] at b1;clear hM hs hj hj2 HMod hd;obtain ⟨hV,hro,hrw,hd4,hd5⟩:=HOf.out;rw [hMl] at hro;have l1:=hro.cellAt j (by omega)
      have hVj:V[j]?=some (V.getD j undef):=by rw [List.getD_eq_getElem?_getD,Ib (by omega)];rfl
      rw [hVj] at l1;have lf:=hro.frozenAt j;have hRx:=hrw j (by omega);obtain ⟨X,hX⟩:∃ X,X=M.getD j []:=⟨_,rfl⟩;obtain ⟨xv,hxv⟩:∃ xv,xv=V.getD j undef:=⟨_,rfl⟩
      have hfree:∀ b,xv.ownBlock=some b→b≠g0∧∀ i,i<25→((V.set j (.slice none 0 0)).getD i undef).ownBlock≠some b:=by
       exact Q35
      rw [← hX,← hxv] at hRx;rw [← hxv] at l1;obtain ⟨ax,cx,rfl,_⟩:=aC hRx;have HX:=Hu hX
      have hX2:X.length≤200:=by rw [hX];exact Iq (HLay.out.len hj25) HM.out.tot
      have HRx:=Hu hRx;have HFree:=Hu hfree;have HSet:=Hu (iy (w':=wf.drew) (v':=.slice none 0 0) (L':=[]) (a:=j) HOf.out (by omega) (by rw [hMl]) (fun b hb hne=>rfl) (fun b hb=>by cases hb) (by simpa using Iv _ _ _ _));have j0:(0:Int)≤(j:Int):=by omega
      have j1:(j:Int)<(25:Int):=by omega
      have j2:(j:Int)<25:=by omega
      clear hV hro hrw hd4 hd5 hVj hRx hX hxv hfree;go_wp2_with fail;refine Zr (fun w':World=>w'.cell? ⟨q,1,none⟩=some (.slice (some ⟨g0,0,none⟩) 25 cv)∧w'.cell? ⟨wr.heap.size,1,none⟩=some (.int .i64 (j:Int))∧w'.cell? ⟨g0,j,none⟩=some (.slice ax X.length cx)) (fun hHeld=>?_);refine ep 0 ?_;refine df 8 ?_;refine Zd ?_;go_wp2_with fail;refine Zr (fun w':World=>w'.cell? ⟨q,1,none⟩=some (.slice (some ⟨g0,0,none⟩) 25 cv)∧w'.cell? ⟨wr.heap.size,1,none⟩=some (.int .i64 (j:Int))) (fun hHeld=>?_);refine ep 0 ?_;refine Z1 8 (fun K hK=>?_);go_simp;refine Zk hK fun hHeld=>?_;clear hK K;refine Zd ?_;go_wp2_with fail;obtain ⟨ws,hws⟩:∃ ws,ws=(wf.setCell ⟨g0,j,none⟩ (.slice none 0 0)).drew.drew.drew:=⟨_,rfl⟩
      have z0:ws.cell? ⟨q,0,none⟩=some (.int .i64 (n:Int)):=by rw [hws];exact (aR (by omega)).trans z0
      have z1:ws.cell? ⟨q,1,none⟩=some (.slice (some ⟨g0,0,none⟩) 25 cv):=by rw [hws];exact (aR (by omega)).trans z1
      have HBs:Hid (Below q w2 ws):=by rw [hws];exact Hx (Hx (Hx (Hy (p:=⟨g0,j,none⟩) HBf.out (by show q≤g0;omega) _)))
      have HOs:Hid (eJ (q+1) ws (.slice (some ⟨g0,0,none⟩) 25 cv) (M.set j []) (V.set j (.slice none 0 0))):=by rw [hws];exact ea HSet.out (fun b _ _=>rfl)
      have HRs:Hid (ws.ownsRow (q+1) 156 2 (.slice ax X.length cx) X.length (X.map Tm.cells).flatten):=by
       exact Q103
      have hzs:wf.heap.size=ws.heap.size:=by rw [hws];simp
      rw [← hws];clear hws HSet HRx HOf HBf l1 lf b0 b1;go_loopw [89] (fun i wp=>∃ m:Nat,m≤X.length∧i=.int .i64 m∧AvIn q g0 w2 ws wp n cv (.slice ax X.length cx) (fZ (n:Int) (M.set j []) (X.take m)) X) (fun i _=>X.length - (intOf i).toNat)
      case atStart=>exact ⟨0,I4 _,rfl,HBs.out,I3 _,z0,z1,HRs.out,_,HOs.out,HFree.out⟩
      case round=>
       obtain ⟨m,hm,rfl,hB,hzp,z0,z1,hR,V2,hO,hF⟩:=hrel;have HB:=Hu hB;have HO:=Hu hO;have HR:=Hu hR;have HF:=Hu hF;clear hB hO hR hF HBs HOs HRs HFree;rcases (show m<X.length∨m=X.length by omega) with hml|rfl
       ·exact Q6
       ·have hge:¬ ((X.length:Nat):Int)<(X.length:Int):=by omega
        have HEq:=Hu (show fZ (n:Int) (M.set j []) (X.take X.length)=fR n LL 1 by rw [HE.out,List.take_length];unfold oN;rw [HX.out]);rw [HEq.out] at HO;go_wp2_with fail;go_roundw
        case rel=>exact ⟨_,_,_,_,⟨1,by omega,rfl,HB.out,z0,z1,_,HO.out⟩,rfl,rfl,rfl,rfl⟩
        case measure=>simp [intOf]
    ·rw [show ((1:Nat):Int)=1 from rfl];have hix:=fun W=>(idx3 512 24 64 L1 8 L2 W).2.1;go_wp2_with fail;obtain ⟨wf,hwf⟩:∃ wf,wf=wr.alloc (.cells #[.int .i64 64,.int .i64 (L1:Int)] 233):=⟨_,rfl⟩
     have b0:wf.cell? ⟨wr.heap.size,0,none⟩=some (.int .i64 64):=by rw [hwf];go_simp
     have b1:wf.cell? ⟨wr.heap.size,1,none⟩=some (.int .i64 (L1:Int)):=by rw [hwf];go_simp
     have hbf:Below wr.heap.size wr wf:=by rw [hwf];exact (Hv _ _).alloc (I3 _) _
     have hzf:wf.heap.size=wr.heap.size+1:=by rw [hwf];simp
     have z0:=ah hbf z0 (by omega);have z1:=ah hbf z1 (by omega);have HBf:=Hu (HB.out.trans (hbf.mono (by omega)));have HOf:=Hu (cj HO.out hbf);rw [← hwf];clear hwf hbf HB HO hix
     have hmod:(n:Int).tmod 64=((n % 64:Nat):Int):=by rw [Int.tmod_eq_emod_of_nonneg (by omega)];omega
     have HMod:=Hu hmod;clear hmod;by_cases hd:n % 64=0;rotate_left
     ·have HE:=Hu (show fR n LL 2=fR n LL 1 by rw [Ei,if_neg hd])
      have hq1:((n:Int).tmod 64 != 0)=true:=by rw [HMod.out,bne_iff_ne];omega
      refine Zr (fun w':World=>w'.cell? ⟨q,0,none⟩=some (.int .i64 (n:Int))∧w'.cell? ⟨wr.heap.size,0,none⟩=some (.int .i64 64)) (fun hHeld=>?_);refine ep 0 ?_;refine Zt 8 ?_;refine Zd ?_;go_wp2_with fail;go_roundw
      case rel=>
       refine ⟨2,by omega,by go_num,HBf.out.trans (Hx (Hv _ _)),?_,?_,V,?_⟩
       ·exact z0
       ·exact z1
       ·rw [HE.out];exact cj HOf.out (Hx (Hv _ _))
      case measure=>simp [intOf]
     ·have hq1:((n:Int).tmod 64 != 0)=false:=by rw [HMod.out,bne_eq_false_iff_eq];omega
      refine Zr (fun w':World=>w'.cell? ⟨q,0,none⟩=some (.int .i64 (n:Int))∧w'.cell? ⟨wr.heap.size,0,none⟩=some (.int .i64 64)) (fun hHeld=>?_);refine ep 0 ?_;refine Zt 8 ?_;refine Zd ?_;clear hq1;obtain ⟨j,hj⟩:∃ j:Nat,j=L1:=⟨_,rfl⟩
      have hj2:((L1:Int):Int)=(j:Int):=by rw [hj];try rfl
      have hj25:j<25:=by omega
      obtain ⟨M,hM⟩:∃ M,M=fR n LL 1:=⟨_,rfl⟩;have HE:=Hu (show fR n LL 2=oN (n:Int) j M by rw [Ei,if_pos hd,hj,HL1.out,hM]);obtain ⟨s,hs⟩:=qV HM.out n 1;rw [← hM] at hs HOf;have HLay:=Hu hs;have hMl:=hs.1;rw [hj2] at b1;clear hM hs hj hj2 HMod hd;obtain ⟨hV,hro,hrw,hd4,hd5⟩:=HOf.out;rw [hMl] at hro;have l1:=hro.cellAt j (by omega)
      have hVj:V[j]?=some (V.getD j undef):=by rw [List.getD_eq_getElem?_getD,Ib (by omega)];rfl
      rw [hVj] at l1;have lf:=hro.frozenAt j;have hRx:=hrw j (by omega);obtain ⟨X,hX⟩:∃ X,X=M.getD j []:=⟨_,rfl⟩;obtain ⟨xv,hxv⟩:∃ xv,xv=V.getD j undef:=⟨_,rfl⟩
      have hfree:∀ b,xv.ownBlock=some b→b≠g0∧∀ i,i<25→((V.set j (.slice none 0 0)).getD i undef).ownBlock≠some b:=by
       exact Q35
      rw [← hX,← hxv] at hRx;rw [← hxv] at l1;obtain ⟨ax,cx,rfl,_⟩:=aC hRx;have HX:=Hu hX
      have hX2:X.length≤200:=by rw [hX];exact Iq (HLay.out.len hj25) HM.out.tot
      have HRx:=Hu hRx;have HFree:=Hu hfree;have HSet:=Hu (iy (w':=wf.drew) (v':=.slice none 0 0) (L':=[]) (a:=j) HOf.out (by omega) (by rw [hMl]) (fun b hb hne=>rfl) (fun b hb=>by cases hb) (by simpa using Iv _ _ _ _));have j0:(0:Int)≤(j:Int):=by omega
      have j1:(j:Int)<(25:Int):=by omega
      have j2:(j:Int)<25:=by omega
      clear hV hro hrw hd4 hd5 hVj hRx hX hxv hfree;go_wp2_with fail;refine Zr (fun w':World=>w'.cell? ⟨q,1,none⟩=some (.slice (some ⟨g0,0,none⟩) 25 cv)∧w'.cell? ⟨wr.heap.size,1,none⟩=some (.int .i64 (j:Int))∧w'.cell? ⟨g0,j,none⟩=some (.slice ax X.length cx)) (fun hHeld=>?_);refine ep 0 ?_;refine df 8 ?_;refine Zd ?_;go_wp2_with fail;refine Zr (fun w':World=>w'.cell? ⟨q,1,none⟩=some (.slice (some ⟨g0,0,none⟩) 25 cv)∧w'.cell? ⟨wr.heap.size,1,none⟩=some (.int .i64 (j:Int))) (fun hHeld=>?_);refine ep 0 ?_;refine Z1 8 (fun K hK=>?_);go_simp;refine Zk hK fun hHeld=>?_;clear hK K;refine Zd ?_;go_wp2_with fail;obtain ⟨ws,hws⟩:∃ ws,ws=(wf.setCell ⟨g0,j,none⟩ (.slice none 0 0)).drew.drew.drew:=⟨_,rfl⟩
      have z0:ws.cell? ⟨q,0,none⟩=some (.int .i64 (n:Int)):=by rw [hws];exact (aR (by omega)).trans z0
      have z1:ws.cell? ⟨q,1,none⟩=some (.slice (some ⟨g0,0,none⟩) 25 cv):=by rw [hws];exact (aR (by omega)).trans z1
      have HBs:Hid (Below q w2 ws):=by rw [hws];exact Hx (Hx (Hx (Hy (p:=⟨g0,j,none⟩) HBf.out (by show q≤g0;omega) _)))
      have HOs:Hid (eJ (q+1) ws (.slice (some ⟨g0,0,none⟩) 25 cv) (M.set j []) (V.set j (.slice none 0 0))):=by rw [hws];exact ea HSet.out (fun b _ _=>rfl)
      have HRs:Hid (ws.ownsRow (q+1) 156 2 (.slice ax X.length cx) X.length (X.map Tm.cells).flatten):=by
       exact Q103
      have hzs:wf.heap.size=ws.heap.size:=by rw [hws];simp
      rw [← hws];clear hws HSet HRx HOf HBf l1 lf b0 b1;go_loopw [89] (fun i wp=>∃ m:Nat,m≤X.length∧i=.int .i64 m∧AvIn q g0 w2 ws wp n cv (.slice ax X.length cx) (fZ (n:Int) (M.set j []) (X.take m)) X) (fun i _=>X.length - (intOf i).toNat)
      case atStart=>exact ⟨0,I4 _,rfl,HBs.out,I3 _,z0,z1,HRs.out,_,HOs.out,HFree.out⟩
      case round=>
       obtain ⟨m,hm,rfl,hB,hzp,z0,z1,hR,V2,hO,hF⟩:=hrel;have HB:=Hu hB;have HO:=Hu hO;have HR:=Hu hR;have HF:=Hu hF;clear hB hO hR hF HBs HOs HRs HFree;rcases (show m<X.length∨m=X.length by omega) with hml|rfl
       ·exact Q6
       ·have hge:¬ ((X.length:Nat):Int)<(X.length:Int):=by omega
        have HEq:=Hu (show fZ (n:Int) (M.set j []) (X.take X.length)=fR n LL 2 by rw [HE.out,List.take_length];unfold oN;rw [HX.out]);rw [HEq.out] at HO;go_wp2_with fail;go_roundw
        case rel=>exact ⟨_,_,_,_,⟨2,by omega,rfl,HB.out,z0,z1,_,HO.out⟩,rfl,rfl,rfl,rfl⟩
        case measure=>simp [intOf]
    ·rw [show ((2:Nat):Int)=2 from rfl];have hix:=fun W=>(idx3 512 24 64 L1 8 L2 W).2.2;go_wp2_with fail;obtain ⟨wf,hwf⟩:∃ wf,wf=wr.alloc (.cells #[.int .i64 8,.int .i64 (L2:Int)] 233):=⟨_,rfl⟩
     have b0:wf.cell? ⟨wr.heap.size,0,none⟩=some (.int .i64 8):=by rw [hwf];go_simp
     have b1:wf.cell? ⟨wr.heap.size,1,none⟩=some (.int .i64 (L2:Int)):=by rw [hwf];go_simp
     have hbf:Below wr.heap.size wr wf:=by rw [hwf];exact (Hv _ _).alloc (I3 _) _
     have hzf:wf.heap.size=wr.heap.size+1:=by rw [hwf];simp
     have z0:=ah hbf z0 (by omega);have z1:=ah hbf z1 (by omega);have HBf:=Hu (HB.out.trans (hbf.mono (by omega)));have HOf:=Hu (cj HO.out hbf);rw [← hwf];clear hwf hbf HB HO hix
     have hmod:(n:Int).tmod 8=((n % 8:Nat):Int):=by rw [Int.tmod_eq_emod_of_nonneg (by omega)];omega
     have HMod:=Hu hmod;clear hmod;by_cases hd:n % 8=0;rotate_left
     ·have HE:=Hu (show fR n LL 3=fR n LL 2 by rw [Eh,if_neg hd])
      have hq1:((n:Int).tmod 8 != 0)=true:=by rw [HMod.out,bne_iff_ne];omega
      refine Zr (fun w':World=>w'.cell? ⟨q,0,none⟩=some (.int .i64 (n:Int))∧w'.cell? ⟨wr.heap.size,0,none⟩=some (.int .i64 8)) (fun hHeld=>?_);refine ep 0 ?_;refine Zt 8 ?_;refine Zd ?_;go_wp2_with fail;go_roundw
      case rel=>
       refine ⟨3,by omega,by go_num,HBf.out.trans (Hx (Hv _ _)),?_,?_,V,?_⟩
       ·exact z0
       ·exact z1
       ·rw [HE.out];exact cj HOf.out (Hx (Hv _ _))
      case measure=>simp [intOf]
     ·have hq1:((n:Int).tmod 8 != 0)=false:=by rw [HMod.out,bne_eq_false_iff_eq];omega
      refine Zr (fun w':World=>w'.cell? ⟨q,0,none⟩=some (.int .i64 (n:Int))∧w'.cell? ⟨wr.heap.size,0,none⟩=some (.int .i64 8)) (fun hHeld=>?_);refine ep 0 ?_;refine Zt 8 ?_;refine Zd ?_;clear hq1;obtain ⟨j,hj⟩:∃ j:Nat,j=L2:=⟨_,rfl⟩
      have hj2:((L2:Int):Int)=(j:Int):=by rw [hj];try rfl
      have hj25:j<25:=by omega
      obtain ⟨M,hM⟩:∃ M,M=fR n LL 2:=⟨_,rfl⟩;have HE:=Hu (show fR n LL 3=oN (n:Int) j M by rw [Eh,if_pos hd,hj,HL2.out,hM]);obtain ⟨s,hs⟩:=qV HM.out n 2;rw [← hM] at hs HOf;have HLay:=Hu hs;have hMl:=hs.1;rw [hj2] at b1;clear hM hs hj hj2 HMod hd;obtain ⟨hV,hro,hrw,hd4,hd5⟩:=HOf.out;rw [hMl] at hro;have l1:=hro.cellAt j (by omega)
      have hVj:V[j]?=some (V.getD j undef):=by rw [List.getD_eq_getElem?_getD,Ib (by omega)];rfl
      rw [hVj] at l1;have lf:=hro.frozenAt j;have hRx:=hrw j (by omega);obtain ⟨X,hX⟩:∃ X,X=M.getD j []:=⟨_,rfl⟩;obtain ⟨xv,hxv⟩:∃ xv,xv=V.getD j undef:=⟨_,rfl⟩
      have hfree:∀ b,xv.ownBlock=some b→b≠g0∧∀ i,i<25→((V.set j (.slice none 0 0)).getD i undef).ownBlock≠some b:=by
       exact Q35
      rw [← hX,← hxv] at hRx;rw [← hxv] at l1;obtain ⟨ax,cx,rfl,_⟩:=aC hRx;have HX:=Hu hX
      have hX2:X.length≤200:=by rw [hX];exact Iq (HLay.out.len hj25) HM.out.tot
      have HRx:=Hu hRx;have HFree:=Hu hfree;have HSet:=Hu (iy (w':=wf.drew) (v':=.slice none 0 0) (L':=[]) (a:=j) HOf.out (by omega) (by rw [hMl]) (fun b hb hne=>rfl) (fun b hb=>by cases hb) (by simpa using Iv _ _ _ _));have j0:(0:Int)≤(j:Int):=by omega
      have j1:(j:Int)<(25:Int):=by omega
      have j2:(j:Int)<25:=by omega
      clear hV hro hrw hd4 hd5 hVj hRx hX hxv hfree;go_wp2_with fail;refine Zr (fun w':World=>w'.cell? ⟨q,1,none⟩=some (.slice (some ⟨g0,0,none⟩) 25 cv)∧w'.cell? ⟨wr.heap.size,1,none⟩=some (.int .i64 (j:Int))∧w'.cell? ⟨g0,j,none⟩=some (.slice ax X.length cx)) (fun hHeld=>?_);refine ep 0 ?_;refine df 8 ?_;refine Zd ?_;go_wp2_with fail;refine Zr (fun w':World=>w'.cell? ⟨q,1,none⟩=some (.slice (some ⟨g0,0,none⟩) 25 cv)∧w'.cell? ⟨wr.heap.size,1,none⟩=some (.int .i64 (j:Int))) (fun hHeld=>?_);refine ep 0 ?_;refine Z1 8 (fun K hK=>?_);go_simp;refine Zk hK fun hHeld=>?_;clear hK K;refine Zd ?_;go_wp2_with fail;obtain ⟨ws,hws⟩:∃ ws,ws=(wf.setCell ⟨g0,j,none⟩ (.slice none 0 0)).drew.drew.drew:=⟨_,rfl⟩
      have z0:ws.cell? ⟨q,0,none⟩=some (.int .i64 (n:Int)):=by rw [hws];exact (aR (by omega)).trans z0
      have z1:ws.cell? ⟨q,1,none⟩=some (.slice (some ⟨g0,0,none⟩) 25 cv):=by rw [hws];exact (aR (by omega)).trans z1
      have HBs:Hid (Below q w2 ws):=by rw [hws];exact Hx (Hx (Hx (Hy (p:=⟨g0,j,none⟩) HBf.out (by show q≤g0;omega) _)))
      have HOs:Hid (eJ (q+1) ws (.slice (some ⟨g0,0,none⟩) 25 cv) (M.set j []) (V.set j (.slice none 0 0))):=by rw [hws];exact ea HSet.out (fun b _ _=>rfl)
      have HRs:Hid (ws.ownsRow (q+1) 156 2 (.slice ax X.length cx) X.length (X.map Tm.cells).flatten):=by
       exact Q103
      have hzs:wf.heap.size=ws.heap.size:=by rw [hws];simp
      rw [← hws];clear hws HSet HRx HOf HBf l1 lf b0 b1;go_loopw [89] (fun i wp=>∃ m:Nat,m≤X.length∧i=.int .i64 m∧AvIn q g0 w2 ws wp n cv (.slice ax X.length cx) (fZ (n:Int) (M.set j []) (X.take m)) X) (fun i _=>X.length - (intOf i).toNat)
      case atStart=>exact ⟨0,I4 _,rfl,HBs.out,I3 _,z0,z1,HRs.out,_,HOs.out,HFree.out⟩
      case round=>
       obtain ⟨m,hm,rfl,hB,hzp,z0,z1,hR,V2,hO,hF⟩:=hrel;have HB:=Hu hB;have HO:=Hu hO;have HR:=Hu hR;have HF:=Hu hF;clear hB hO hR hF HBs HOs HRs HFree;rcases (show m<X.length∨m=X.length by omega) with hml|rfl
       ·exact Q6
       ·have hge:¬ ((X.length:Nat):Int)<(X.length:Int):=by omega
        have HEq:=Hu (show fZ (n:Int) (M.set j []) (X.take X.length)=fR n LL 3 by rw [HE.out,List.take_length];unfold oN;rw [HX.out]);rw [HEq.out] at HO;go_wp2_with fail;go_roundw
        case rel=>exact ⟨_,_,_,_,⟨3,by omega,rfl,HB.out,z0,z1,_,HO.out⟩,rfl,rfl,rfl,rfl⟩
        case measure=>simp [intOf]
    ·rw [show ((3:Nat):Int)=3 from rfl];obtain ⟨we,rfl⟩:∃ we,we=wr:=⟨_,rfl⟩
     have hall:fR n LL 3=bK (n:Int) LL.flatten:=by
      have e:n=N+1:=by have h1:=HN1.out;have h2:=HNn.out;omega
      rw [e];exact Eg HM.out
     go_upto_region 21 with (fail);obtain ⟨I,hI⟩:∃ I,I=n % 8:=⟨_,rfl⟩;have e8:(n:Int) % 8=(I:Int):=by omega
     have i25:I<25:=by omega
     rw [e8];have HI:=Hu hI;clear e8 hI;have i0:(0:Int)≤(I:Int):=by omega
     have i1:(I:Int)<25:=by omega
     obtain ⟨M,hM⟩:∃ M,M=bK (n:Int) LL.flatten:=⟨_,rfl⟩;rw [hall,← hM] at HO;clear hall
     have hMl:M.length=25:=by rw [hM];exact cV _ _
     have HMe:=Hu hM;clear hM;obtain ⟨hV,hro,hrw,hd4,hd5⟩:=HO.out;rw [hMl] at hro;have l1:=hro.cellAt I (by omega)
     have hVj:V[I]?=some (V.getD I undef):=by rw [List.getD_eq_getElem?_getD,Ib (by omega)];rfl
     rw [hVj] at l1;have lf:=hro.frozenAt I;have hg1:=hro.lt g0 rfl;have hRx:=hrw I (by omega);obtain ⟨X,hX⟩:∃ X,X=M.getD I []:=⟨_,rfl⟩;obtain ⟨xv,hxv⟩:∃ xv,xv=V.getD I undef:=⟨_,rfl⟩;have hXE:=(GB (n:=n) (show n=N+1 by have h1:=HN1.out;have h2:=HNn.out;omega) HM.out)
     have hX2:X.length≤200:=by
      rw [hX,HMe.out,HI.out,hXE.2,(di _).length_eq];exact Iq (List.length_filter_le _ _) HM.out.tot
     have HXE:=Hu hXE;rw [← hX,← hxv] at hRx;rw [← hxv] at l1;obtain ⟨ax,cx,rfl,_⟩:=aC hRx;have HX:=Hu hX;have RX:=Hu (aD hRx (by rw [I9]) (ig _)).1;obtain ⟨_,_,e0,_,_,_,pt⟩:=aK Tm.zero RX.out;injection e0 with e01 _ e03;subst e01;subst e03;have PT:=Hu pt;obtain ⟨j0,hj,hj0,hj1,hj2⟩:=info_parts FT;clear hV hro hrw hd4 hd5 hVj hRx hX hxv pt hXE;go_wp2_with fail;go_loopw [12,113] (fun o i wp=>∃ m:Nat,m≤X.length∧i=.int .i64 m∧Below we.heap.size we wp∧wp.ownsRow we.heap.size 3 1 o m ((X.take m).map fun t=>Value.int .i64 t.id)) (fun _ i _=>X.length - (intOf i).toNat)
     case atStart=>exact ⟨0,I4 _,rfl,Hv _ _,by simpa using Iv _ _ _ _⟩
     case round=>
      obtain ⟨m,hm,rfl,hB,hO2⟩:=hrel;have HBi:=Hu hB;have HOo:=Hu hO2;have hz5:=hB.size;obtain ⟨ao,co,rfl,_⟩:=aC hO2;rcases (show m<X.length∨m=X.length by omega) with hml|rfl
      ·have hml':(m:Int)<(X.length:Int):=by omega
       have p0:(0:Int)≤(m:Int):=by omega
       obtain ⟨bx,ox,rfl,hbx,q1⟩:=PT.out (by intro h;rw [h] at hml;simp at hml);obtain ⟨t,ht⟩:∃ t,t=X.getD m Tm.zero:=⟨_,rfl⟩;have d0:=q1 m 0 hml (by omega);have d1:=q1 m 1 hml (by omega);rw [← ht] at d0 d1;have HTk:=Hu (th ht hml);obtain ⟨t0,t1⟩:=t;simp only [Tm.cells,I5,I6,Nat.add_zero] at d0 d1;have d0:=ah hB d0 hbx;have d1:=ah hB d1 hbx;clear ht q1 hB hO2;go_wp2_with (at_builtin;go_loud (refine wpList_append_own _ rfl _ _ 117 rfl we.heap.size 3 j0 (.int .i64 0) 1 8 Tryz.underlying117 hj hj0 hj1 hj2 rfl (by decide) _ _ _ rfl (World.ownsRow.alloc (World.ownsRow.alloc HOo.out _) _) ⟨wr.heap.size+1,0,none⟩ 1 1 [.int .i64 t1] rfl rfl ?c0 ?c1 ?c2 ?c3 ?c4 ?_))
       case c0=>exact fG (by simp) _ _
       case c1=>intro u hu;obtain rfl:=List.mem_singleton.1 hu;rfl
       case c2=>unfold maxLen;omega
       case c3=>omega
       case c4=>simp;omega
       intro v6 w6 hown6 hgr6 _;have hb6:=cM (B:=we.heap.size) (((Hv wr.heap.size wr).alloc (I3 _) _).alloc (by simp) _) (by omega) HOo.out hgr6;have HB6:=Hu (HBi.out.trans hb6)
       have HO6:Hid (w6.ownsRow we.heap.size 3 1 v6 (m+1) ((X.take (m+1)).map fun t=>Value.int .i64 t.id)):=by
        show World.ownsRow _ _ _ _ _ _ _
        rw [HTk.out,Ir];simpa using hown6
       obtain ⟨a6,c6,rfl,_⟩:=aC hown6;clear hown6 hgr6 hb6 HOo HBi;go_wp2_with fail;go_roundw
       case rel=>exact ⟨m+1,by omega,by go_num,HB6.out,HO6.out⟩
       case measure=>simp [intOf];omega
      ·have hge:¬ ((X.length:Nat):Int)<(X.length:Int):=by omega
       have z0:=ah hB z0 (by omega);have z1:=ah hB z1 (by omega);have l1:=ah hB l1 (by omega);have lf:wr.frozen? ⟨g0,I,none⟩=false:=(hB.frozen (p:=⟨g0,I,none⟩) (by show g0<_;omega)).trans lf;have hBq:=HB.out.size;have HBw:=Hu (HB.out.trans (HBi.out.mono (by omega)));have HOw:=Hu (cj HO.out HBi.out);have HBx:=Hu (HB2.out.trans HBw.out);have y0:wr.cell? ⟨w.heap.size+1,0,none⟩=some (.int .i64 0):=(HBx.out.cell (p:=⟨w.heap.size+1,0,none⟩) (by show w.heap.size+1<q;omega)).trans y0;have y1:wr.cell? ⟨w.heap.size+1,1,none⟩=some (.slice none 0 0):=(HBx.out.cell (p:=⟨w.heap.size+1,1,none⟩) (by show w.heap.size+1<q;omega)).trans y1;have f0:∀ n,wr.frozen? ⟨w.heap.size+1,n,none⟩=false:=fun n=>(HBx.out.frozen (p:=⟨w.heap.size+1,n,none⟩) (by show w.heap.size+1<q;omega)).trans (f0 n);have g1:¬ q=g0:=by omega
       have g2:¬ w.heap.size+1=g0:=by omega
       have g3:¬ g0=w.heap.size+1:=by omega
       clear hB hO2;go_wp2_with fail;obtain ⟨e1,e2,e3,e4⟩:=HA.out.yes (by rw [HNn.out];exact HM.out) HLt.out;rw [← HN1.out] at e1 e2 e3;rw [← HXE.out.1,← HI.out,← HMe.out] at e2;rw [← HXE.out.2,← HI.out,← HMe.out,← HX.out] at e3;rw [List.take_length] at HOo;have HSet:=Hu (iy (w':=wr) (v':=.slice none 0 0) (L':=[]) (a:=I) HOw.out (by omega) (by rw [hMl]) (fun b hb hne=>rfl) (fun b hb=>by cases hb) (by simpa using Iv _ _ _ _));have hoo:∀ b,(Value.slice ao X.length co).ownBlock=some b→we.heap.size≤b∧b<wr.heap.size:=fun b hb=>HOo.out.lt b hb;subst e1 e2 e3 e4;refine Ix (v:=.tuple #[.agg #[.int .i64 (n:Int),.slice (some ⟨g0,0,none⟩) 25 cv],.slice ao X.length co,.int .i64 0]) ?_ rfl ⟨_,_,rfl,?_,?_,?_⟩
       ·simp [results,Tryz.results68,go_sem, *]
       ·refine mb (gE (ea HSet.out fun b h1 h2=>?_)) (B:=q+1) (by omega);rw [I2 _ _ _ _ (by show b≠w.heap.size+1;omega),I2 _ _ _ _ (by show b≠w.heap.size+1;omega)]
       ·refine aG (aD (base:=we.heap.size) (e:=3) (n:=X.length) (aX (w:=wr) (by rw [List.map_map];show wr.ownsRow _ _ _ _ _ (X.map fun t=>[Value.int .i64 t.id]).flatten;rw [flat1];exact HOo.out) (fun b hb=>?_)) (by simp) (by simp)) (by omega);have:=hoo b hb;rw [I2 _ _ _ _ (by show b≠w.heap.size+1;omega),I2 _ _ _ _ (by show b≠w.heap.size+1;omega),I2 _ _ _ _ (by show b≠g0;omega)]
       ·have hb0:Below w.heap.size w wr:=HB1.out.trans (HBx.out.mono (by omega));exact ((hb0.setCell (p:=⟨g0,I,none⟩) (by show w.heap.size≤g0;omega) _).setCell (p:=⟨w.heap.size+1,0,none⟩) (by show w.heap.size≤w.heap.size+1;omega) _).setCell (p:=⟨w.heap.size+1,1,none⟩) (by show w.heap.size≤w.heap.size+1;omega) _
end
end Go.Proofs.YtfliffgmeobclaaGreat
