/- Texts of the row's proof. Conditions: none. -/
import Derived.Test.YtneailjecbfljaaGreatDoorK14
import Derived.Test.YtneailjecbfljaaGreatDoorK16
import Derived.Test.YtneailjecbfljaaGreatDoorK26
namespace Go.Proofs.YtneailjecbfljaaGreatDoor
set_option maxRecDepth 100000
set_option maxHeartbeats 8000000
section
open Go.RowKit
theorem Q6 {p:Prop} (h:p:=by
 have hml':(m:Int)<(X.length:Int):=by omega
 have p0:(0:Int)≤(m:Int):=by omega
 obtain ⟨_,_,e0,_,_,_,pt⟩:=aK Tm.zero (aD HR.out (by rw [I5]) (ig _)).1;injection e0 with e01 _ e03;subst e01;subst e03;obtain ⟨bx,ox,rfl,hbx,q1⟩:=pt (by intro h;rw [h] at hml;simp at hml);obtain ⟨t,ht⟩:∃ t,t=X.getD m Tm.zero:=⟨_,rfl⟩;have d0:=q1 m 0 hml (by omega);have d1:=q1 m 1 hml (by omega);rw [← ht] at d0 d1;have HTk:=Hp (tf ht hml);have HTm:=Hp (px ht hml);obtain ⟨t0,t1⟩:=t;simp only [Tm.cells,I1,I2,Nat.add_zero] at d0 d1;have HTE:=Hp (HM.out.tm _ (HLay.out.mem hj25 _ (by rw [← HX.out];exact HTm.out)));obtain ⟨A,rfl⟩:=Id (show 0≤t0 by have:=HTE.out.1;simp at this;omega)
 have hA2:A≤2199023255552:=by have:=HTE.out.2.2.1;simp at this;omega
 have hN2:n≤2199023255552:=by have:=HN.out;omega
 have HPk:=Hp (Fo HLay.out (n:Int) hj25 m);rw [← HX.out] at HPk;obtain ⟨Y,hY⟩:∃ Y,Y=fZ (n:Int) (M.set j []) (X.take m):=⟨_,rfl⟩;have HY:=Hp hY;rw [← hY] at HPk HO;have hplt:=fu A n;have hET:=HM.out.tot;have hor:=(HPk.out.2 _ hplt).1
 have hln:(Y.getD (bH A n) []).length≤100000:=by have:=(HPk.out.2 _ hplt).2;omega
 have HOr:=Hp hor;have HLn2:=Hp hln;have HY25:=Hp HPk.out.1;clear ht q1 pt hY hor hln hET;go_wp2_with fail;have hba:Below wr.heap.size wr (wr.alloc (.cells #[.int .i64 (A:Int),.int .i64 t1] 176)):=(Hq _ _).alloc (Hz _) _;refine (rS q A n t1 _ Y V2 _ (by simp;omega) (ah hba z0 (by omega)) (ah hba z1 (by omega)) (cj HO.out hba) HY25.out hA2 hN2 _ rfl HOr.out HLn2.out).mono ?_;rintro e w5 ⟨v5,rfl,hown5,hz5,hk5,hn5,hb5⟩
 have hk6:∀ b,b<wr.heap.size→b≠g0→(V2.getD (bH A n) undef).ownBlock≠some b→w5.heap[b]?=wr.heap[b]?:=fun b h1 h2 h3=>
  (hk5 b (by simp;omega) (fun e=>h2 (Option.some.inj e).symm) h3).trans (hba.block b h1)
 have hV2:bH A n<V2.length:=by rw [HO.out.1,HY25.out];exact hplt
 have hbx':(Value.slice (some ⟨bx,ox,none⟩) X.length cx).ownBlock=some bx:=rfl;have HF6:=Hp (HF.out bx hbx');have hbx6:w5.heap[bx]?=wr.heap[bx]?:=hk6 bx hbx HF6.out.1 (HF6.out.2 _ hplt);have z0:w5.cell? ⟨q,0,none⟩=some (.int .i64 (n:Int)):=(hb5.cell (p:=⟨q,0,none⟩) (by simp)).trans (ah hba z0 (by omega));have z1:w5.cell? ⟨q,1,none⟩=some (.slice (some ⟨g0,0,none⟩) 25 cv):=(hb5.cell (p:=⟨q,1,none⟩) (by simp)).trans (ah hba z1 (by omega));have HB5:=Hp ((HB.out.trans (hba.mono (by omega))).trans (hb5.mono (by omega)));have HR5:=Hp (aX HR.out (fun b hb=>by obtain rfl:bx=b:=Option.some.inj hb;exact hbx6))
 have hzp5:ws.heap.size≤w5.heap.size:=by simp at hz5;omega
 have HO5:Hid (eG (q+1) w5 (.slice (some ⟨g0,0,none⟩) 25 cv) (fZ (n:Int) (M.set j []) (X.take (m+1))) (V2.set (bH A n) v5)):=by
  have e:fX ⟨(A:Int),t1⟩ (n:Int)=bH A n:=tI rfl rfl;show eG _ _ _ _ _
  rw [HTk.out,xS,← HY.out];unfold rD;rw [e];exact hown5
 have HFr:Hid (∀ b,(Value.slice (some ⟨bx,ox,none⟩) X.length cx).ownBlock=some b→b≠g0∧∀ i,i<25→((V2.set (bH A n) v5).getD i undef).ownBlock≠some b):=fun b hb=>by
  obtain rfl:bx=b:=Option.some.inj hb;refine ⟨HF6.out.1,fun i hi hc=>?_⟩;by_cases e:bH A n=i
  ·subst e;rw [cM hV2] at hc;rcases hn5 bx hc with h|h
   ·exact HF6.out.2 _ hplt h
   ·simp at h;omega
  ·rw [cD e] at hc;exact HF6.out.2 i hi hc
 clear hown5 hk5 hk6 hn5 hb5 hbx6 hbx' HF6 hba HB HR HO HF;go_wp2_with fail;go_roundw
 case rel=>exact ⟨m+1,by omega,by go_num,HB5.out,hzp5,z0,z1,HR5.out,_,HO5.out,HFr.out⟩
 case measure=>simp [intOf];omega):p:=h
theorem Q35 {p:Prop} (h:p:=by
 intro b hb;rw [hxv] at hb;refine ⟨fun e=>hd4 j (by omega) b hb (by rw [e];rfl),fun i hi hb'=>?_⟩;by_cases e:j=i
 ·subst e;rw [cM (by omega)] at hb'
  cases hb'
 ·rw [cD e] at hb';rcases Nat.lt_or_gt_of_ne e with h|h
  ·exact hd5 j i h (by omega) b hb hb'
  ·exact hd5 i j h (by omega) b hb' hb):p:=h
theorem Q103 {p:Prop} (h:p:=by
 rw [hws];exact aX HRx.out (fun b hb=>Hy _ _ _ _ (HFree.out b hb).1)):p:=h
theorem Q151 {p:Prop} (h:p:=by
 rw [List.getD_eq_getElem?_getD,I7 (by omega)] at this;simpa using this):p:=h
theorem Dl {X:List Tm} {t:Tm} {k:Nat} (ho:iR X) (hc:cutT X t k):ee X k t=iC (X++[t]):=by
 obtain ⟨hk,h1,h2⟩:=hc
 have g1:∀ x∈X.take k,mY x t=true:=by
  intro x hx;obtain ⟨i,hi,rfl⟩:=List.mem_iff_getElem.1 hx;rw [Ie] at hi;have:=h1 i (by omega);exact Q151
 have g2:∀ x∈X.drop k,mY x t=false:=by
  intro x hx;obtain ⟨i,hi,rfl⟩:=List.mem_iff_getElem.1 hx;rw [List.length_drop] at hi;have:=h2 (k+i) (by omega) (by omega);exact Q151
 unfold ee;refine pH ?_ ?_
 ·have ho':iR (X.take k++X.drop k):=by rw [Ij];exact ho
  unfold iR at ho' ⊢;rw [List.pairwise_append] at ho' ⊢;refine ⟨ho'.1,List.pairwise_cons.2 ⟨fun x hx=>by unfold gT;rw [g2 x hx];rfl,ho'.2.1⟩,fun x hx y hy=>?_⟩;rcases List.mem_cons.1 hy with rfl|hy
  ·exact Ad (g1 x hx)
  ·exact ho'.2.2 x hx y hy
 ·have e:(X.take k++X.drop k).Perm X:=by rw [Ij]
  refine List.Perm.trans ?_ (e.append_right [t]);rw [List.append_assoc];refine List.Perm.append_left _ ?_;exact (List.perm_append_singleton t (X.drop k)).symm
theorem yi (X:List Tm) (k:Nat) (t:Tm):ee (X.map Tm.cells) k (Tm.cells t)=(ee X k t).map Tm.cells:=by simp [ee,List.map_take,List.map_drop]
def Eo (q:Nat) (w:World) (vl:Value) (LL:List (List Tm)) (V:List Value) (p:Nat) (L':List Tm) (e:Ending) (w':World):Prop:=
 ∃ v',e=.returned (.tuple #[])∧eG (q+1) w' vl (LL.set p L') (V.set p v')∧w.heap.size≤w'.heap.size∧
  (∀ b,b<w.heap.size→vl.ownBlock≠some b→(V.getD p undef).ownBlock≠some b→w'.heap[b]?=w.heap[b]?)∧(∀ b,v'.ownBlock=some b→(V.getD p undef).ownBlock=some b∨w.heap.size≤b)∧Below (q+1) w w'
theorem rS (q A N:Nat) (t1:Int) (vl:Value) (LL:List (List Tm)) (V:List Value) (w:World) (hqw:q<w.heap.size) (x0:w.cell? ⟨q,0,none⟩=some (.int .i64 (N:Int))) (x1:w.cell? ⟨q,1,none⟩=some vl) (hown:eG (q+1) w vl LL V) (h25:LL.length=25)
  (hA:A≤2199023255552) (hN:N≤2199023255552) (X:List Tm) (hX:X=LL.getD (bH A N) []) (ho:iR X) (hXl:X.length≤100000) :
  Calls Tryz.prog 114 #[.pointer (some ⟨q,0,none⟩),.agg #[.int .i64 (A:Int),.int .i64 t1]] w (Eo q w vl LL V (bH A N) (iC (X++[⟨(A:Int),t1⟩]))):=by
 obtain ⟨P,hP⟩:∃ P,P=bH A N:=⟨_,rfl⟩
 have HP:=Hp hP
 have hP2:=fu A N
 rw [← hP] at hX hP2 ⊢
 clear hP
 have hPl:P<LL.length:=by omega
 have HO:=Hp hown
 obtain ⟨hV,hro,hrw,hd4,hd5⟩:=hown
 rcases fv hro with ⟨_,h0⟩|⟨g0,c0,rfl,_⟩
 ·omega
 have hg0:=hro.lt g0 rfl
 have HRo:=Hp hro
 have l1:=hro.cellAt P (by omega)
 have hVi:V[P]?=some (V.getD P undef):=by rw [List.getD_eq_getElem?_getD,I7 (by omega)];rfl
 rw [hVi] at l1
 have lf:=hro.frozenAt P
 have HD4:=Hp (hd4 P hPl)
 have HRw:=Hp (hrw P hPl)
 obtain ⟨vk,hvk⟩:∃ vk,vk=V.getD P undef:=⟨_,rfl⟩
 have HVk:=Hp hvk
 have HX:=Hp hX
 rw [← hvk] at l1 HD4 HRw
 rw [← hX] at HRw
 obtain ⟨ak,ck,rfl,_⟩:=aC HRw.out
 have HOrd:=Hp ho
 have HLn:=Hp h25
 have p0:(0:Int)≤(P:Int):=by omega
 have p1:(P:Int)<(LL.length:Int):=by omega
 have p2:(P:Int)<25:=by omega
 clear hro hrw hd4 hd5 hV hVi hvk hX ho h25
 go_enter Tryz.func114,Tryz.ntmps114
 go_wp2_with fail
 have y0:(w.alloc (.cells #[.int .i64 (A:Int),.int .i64 t1] 176)).cell? ⟨w.heap.size,0,none⟩=some (.int .i64 (A:Int)):=by go_simp
 (refine Zr (fun w':World=>w'.cell? ⟨q,0,none⟩=some (.int .i64 (N:Int))∧w'.cell? ⟨q,1,none⟩=some (.slice (some ⟨g0,0,none⟩) LL.length c0)∧w'.cell? ⟨w.heap.size,0,none⟩=some (.int .i64 (A:Int))) (fun hHeld=>?_);refine eo 0 ?_;refine eO 8 ?_;refine Z1 12 (fun K hK=>?_);go_simp;(go_at_call 128;refine (lM A N _ (by omega) (by omega)).mono ?_;rw [← HP.out];rintro e w2 ⟨rfl,hb2⟩;(try dsimp only));(try go_wp2_with fail);refine Zk hK fun hHeld=>?_;clear hK K;refine Z1 13 (fun K hK=>?_);go_simp;refine Zk hK fun hHeld=>?_;clear hK K;refine Zt 14 ?_;refine Zd ?_)
 have s2:=hb2.size
 simp at s2
 have u0:w2.cell? ⟨w.heap.size,0,none⟩=some (.int .i64 (A:Int)):=ah hb2 (by go_simp) (by simp)
 have u1:w2.cell? ⟨w.heap.size,1,none⟩=some (.int .i64 t1):=ah hb2 (by go_simp) (by simp)
 have u2:w2.cell? ⟨g0,P,none⟩=some (.slice ak X.length ck):=ah hb2 (by go_simp) (by simp;omega)
 have HB2:Hid (Below w.heap.size w w2):=Hv (Zb:Below w.heap.size w _) (hb2.mono (by simp))
 have HRw2:=Hp (bA HRw.out HB2.out)
 have RA:=Hp (aD HRw2.out (by rw [I5]) (ig _)).1
 clear hb2
 go_wp2_with fail
 (refine Zr (fun w':World=>w'.cell? ⟨g0,P,none⟩=some (.slice ak X.length ck)∧w'.cell? ⟨w.heap.size,0,none⟩=some (.int .i64 (A:Int))∧w'.cell? ⟨w.heap.size,1,none⟩=some (.int .i64 t1)) (fun hHeld=>?_);refine eO 0 ?_;refine Z1 4 (fun K hK=>?_);go_simp;(go_at_call 146;refine (bsTm _ X ⟨(A:Int),t1⟩ _ (dB RA.out _) HOrd.out (by omega)).mono ?_;rintro e w3 ⟨k,fl,rfl,hcut,hb3⟩;(try dsimp only));(try go_wp2_with fail);refine Zk hK fun hHeld=>?_;clear hK K;refine eO 5 ?_;refine Zt 9 ?_;refine Zd ?_)
 have s3:=hb3.size
 simp at s3
 have b23:Below w2.heap.size w2 w3:=Hv (Zb:Below w2.heap.size w2 (w2.drewN 1)) (hb3.mono (by simp))
 have u0:=aA b23 u0
 have u1:=aA b23 u1
 have u2:=aA b23 u2
 have HB3:=Hp (HB2.out.trans (b23.mono HB2.out.size))
 have HRw3:=Hp (bA HRw.out HB3.out)
 have HO3:=Hp (cj HO.out HB3.out)
 have HC:=Hp hcut
 have HS:=Hp (Dl HOrd.out hcut)
 have HRo3:=Hp (bA HRo.out HB3.out)
 have HRw4:=HRw
 have bg:g0<w3.heap.size:=by omega
 clear hb3 b23 hcut RA HRw2 HRw HRo lf l1 x0 x1 y0
 go_wp2_with fail
 (refine Zr (fun w':World=>w'.cell? ⟨w.heap.size,0,none⟩=some (.int .i64 (A:Int))∧w'.cell? ⟨w.heap.size,1,none⟩=some (.int .i64 t1)) (fun hHeld=>?_);refine df 0 ?_;refine Zt 2 ?_;refine df 4 ?_;refine Z2 3 6 (fun K hK=>?_) (fun K hK=>?_);(focus (go_simp;refine Zk hK fun hHeld=>?_;clear hK K;refine Z1 6 (fun K hK=>?_);go_simp;refine Zk hK fun hHeld=>?_;clear hK K));rotate_left 1;(focus (go_simp;refine Zk hK fun hHeld=>?_;clear hK K;refine Z1 3 (fun K hK=>?_);go_simp;refine Zk hK fun hHeld=>?_;clear hK K));rotate_left 1;(all_goals (refine Z1 7 (fun K hK=>?_);go_simp;(go_at_call 147;refine (insTm2 (q+1) _ (X.map Tm.cells) k w3.heap.size (Tm.cells ⟨(A:Int),t1⟩) (w3.alloc (.cells #[.int .i64 (A:Int),.int .i64 t1] 176)).drew (by rw [I5];exact bA HRw3.out (Hr ((Hq w3.heap.size w3).alloc (Hz _) _))) (ig _) (tM _) rfl (tm_one _) (by rw [I5];exact HC.out.1) (by rw [I5];exact hXl) (az (w:=w3) _ rfl) (fun e=>by have:=(HRw3.out.lt _ e).2;omega) (by simp;omega)).mono ?_;rintro e w4 ⟨v4,rfl,hown4,hgr4,hnew4⟩;have hk4:∀ b,b<w3.heap.size→(Value.slice ak X.length ck).ownBlock≠some b→w4.heap[b]?=w3.heap[b]?:=(fun b hb hne=>(hgr4.block b (by simp;omega) (fun e=>hne e.symm)).trans ((Hr ((Hq w3.heap.size w3).alloc (Hz _) _)).block b hb));have z2:w4.cell? ⟨g0,P,none⟩=some (.slice ak X.length ck):=(I4 (w:=w3) (w':=w4) (a:=⟨g0,P,none⟩) (hk4 g0 (by omega) (fun e=>HD4.out _ e rfl))).trans u2;have z3:w4.frozen? ⟨g0,P,none⟩=false:=(aX HRo3.out (fun b hb=>by have e:b=g0:=(Option.some.inj hb).symm;subst e;exact hk4 b (by omega) (fun e=>HD4.out _ e rfl))).frozenAt P;have z0:w4.cell? ⟨w.heap.size,0,none⟩=some (.int .i64 (A:Int)):=(I4 (w:=w3) (w':=w4) (a:=⟨w.heap.size,0,none⟩) (hk4 w.heap.size (by omega) (fun e=>by have:=(HRw4.out.lt _ e).2;omega))).trans u0;have z1:w4.cell? ⟨w.heap.size,1,none⟩=some (.int .i64 t1):=(I4 (w:=w3) (w':=w4) (a:=⟨w.heap.size,1,none⟩) (hk4 w.heap.size (by omega) (fun e=>by have:=(HRw4.out.lt _ e).2;omega))).trans u1;have hz4:=hgr4.size;obtain ⟨a4,c4,rfl,_⟩:=aC hown4;have HN4:=Hp hown4;have HG4:=Hp hgr4;have HNew:=Hp hnew4;have HK4:=Hp hk4;clear hown4 hgr4 hnew4 hk4);(try go_wp2_with fail);refine Zk hK fun hHeld=>?_;clear hK K;refine Zt 8 ?_;refine Z1 9 (fun K hK=>?_);go_simp;refine Zk hK fun hHeld=>?_;clear hK K));(all_goals refine Zd ?_))
 all_goals
  have hlen:(X.map Tm.cells).length+1=(iC (X++[⟨(A:Int),t1⟩])).length:=by rw [(di _).length_eq];simp
  have HN5:=HN4.out
  rw [yi,HS.out] at HN5
  have HS5:=Hp (ix (w':=w4) (L':=iC (X++[⟨(A:Int),t1⟩])) HO3.out hPl rfl (fun b hb hne=>HK4.out b hb (by rw [HVk.out];exact hne)) (fun b hb=>(HNew.out b hb).imp (fun e=>by rw [← HVk.out];exact e) (fun e=>by simp at e;omega)) (by rw [← hlen];exact HN5))
  have hz5:w.heap.size≤w4.heap.size:=by simp at hz4;omega
  have HKw:=Hp (fun b (hb:b<w.heap.size) (hne:(Value.slice ak X.length ck).ownBlock≠some b)=>(HK4.out b (by omega) hne).trans (HB3.out.block b hb))
  clear HN5 HN4
  go_wp2_with fail
  refine It (v:=.tuple #[]) (by simp [results,Tryz.results114,go_sem]) rfl ?_
  refine ⟨_,rfl,by have h:=HS5.out;rw [show (X.map Tm.cells).length=X.length from I5 _] at h;exact h,by simpa using hz5,fun b hb h1 h2=>?_,fun b hb=>?_,?_⟩
  ·rw [Hy _ _ _ _ (fun e:b=g0=>h1 (by rw [e];rfl))];exact HKw.out b hb (by rw [HVk.out];exact h2)
  ·rcases HNew.out b (by rw [show (X.map Tm.cells).length=X.length from I5 _];exact hb) with h|h
   ·rw [← HVk.out];exact Or.inl h
   ·exact Or.inr (by simp at h;omega)
  ·have hb3':Below (q+1) w (w3.alloc (.cells #[.int .i64 (A:Int),.int .i64 t1] 176)).drew:=(HB3.out.mono (by omega)).trans (Hr ((Hq _ w3).alloc (by omega) _));have hb4:Below (q+1) w w4:=hb3'.trans <| cJ (B:=q+1) (wr:=(w3.alloc (.cells #[.int .i64 (A:Int),.int .i64 t1] 176)).drew) (Hq _ _) (by simp;omega) (bA HRw3.out (Hr ((Hq w3.heap.size w3).alloc (Hz _) _))) HG4.out;exact Hs (p:=⟨g0,P,none⟩) hb4 (by show q+1≤g0;omega) _
theorem Cv (q A N:Nat) (t1:Int) (vl:Value) (LL:List (List Tm)) (V:List Value) (w:World) (hq:w.heap[q]?=some (.cells #[.int .i64 (N:Int),vl] 231 (0,0))) (hown:eG (q+1) w vl LL V) (h25:LL.length=25)
  (hA:A≤2199023255552) (hN:N≤2199023255552) (X:List Tm) (hX:X=LL.getD (bH A N) []) (ho:iR X) (hXl:X.length≤100000) :
  Calls Tryz.prog 114 #[.pointer (some ⟨q,0,none⟩),.agg #[.int .i64 (A:Int),.int .i64 t1]] w (Eo q w vl LL V (bH A N) (iC (X++[⟨(A:Int),t1⟩]))):=
 rS q A N t1 vl LL V w (lt_of_block hq) (ae hq 0) (ae hq 1) hown h25 hA hN X hX ho hXl
def ArmAns (now:Int) (LL:List (List Tm)) (t:Tm) (now':Int) (LL':List (List Tm)) (c:Int):Prop:=
 (¬ WhMay now LL∧now'=0∧LL'=[]∧c=6)∨
 (WhMay now LL∧¬ dH t now∧now'=0∧LL'=[]∧c=2)∨
 (WhMay now LL∧dH t now∧(∃ s∈LL.flatten,s.id=t.id)∧now'=0∧LL'=[]∧c=7)∨
 (WhMay now LL∧dH t now∧(∀ s∈LL.flatten,¬ s.id=t.id)∧now'=now∧LL'=bK now (LL.flatten++[t])∧c=0)
section
variable {now:Int} {LL:List (List Tm)} {t:Tm} {now':Int} {LL':List (List Tm)} {c:Int}
theorem ArmAns.no (h:ArmAns now LL t now' LL' c) (hm:¬ WhMay now LL):now'=0∧LL'=[]∧c=6:=by
 exact Q154
theorem ArmAns.range (h:ArmAns now LL t now' LL' c) (hm:WhMay now LL) (ht:¬ dH t now):now'=0∧LL'=[]∧c=2:=by
 rcases h with ⟨h,_⟩|⟨_,_,h⟩|⟨_,h,_⟩|⟨_,h,_⟩
 ·exact absurd hm h
 ·exact h
 all_goals exact absurd h ht
theorem ArmAns.twice (h:ArmAns now LL t now' LL' c) (hm:WhMay now LL) (ht:dH t now) (hs:∃ s∈LL.flatten,s.id=t.id):now'=0∧LL'=[]∧c=7:=by
 rcases h with ⟨h,_⟩|⟨_,h,_⟩|⟨_,_,_,h⟩|⟨_,_,h,_⟩
 ·exact absurd hm h
 ·exact absurd ht h
 ·exact h
 ·obtain ⟨s,h1,h2⟩:=hs;exact absurd h2 (h s h1)
theorem ArmAns.yes (h:ArmAns now LL t now' LL' c) (hm:WhMay now LL) (ht:dH t now) (hs:∀ s∈LL.flatten,¬ s.id=t.id):now'=now∧LL'=bK now (LL.flatten++[t])∧c=0:=by
 rcases h with ⟨h,_⟩|⟨_,h,_⟩|⟨_,_,h,_⟩|⟨_,_,_,h⟩
 ·exact absurd hm h
 ·exact absurd ht h
 ·obtain ⟨s,h1,h2⟩:=h;exact absurd h2 (hs s h1)
 ·exact h
end
theorem EP {now:Int} {LL:List (List Tm)} (h:WhMay now LL) (t:Tm):LL.set (fX t now) (iC (LL.getD (fX t now) []++[t]))=bK now (LL.flatten++[t]):=by
 have hl:=h.2.2.1;have hp:fX t now<25:=fu _ _;have hat:∀ i,i<25→LL.flatten.filter (fun t=>fX t now == i)=LL.getD i []:=fun i hi=>kE hl (fun i hi t ht=>((h.2.2.2.1 i hi).1 t ht).2) hi;refine jg (by simp [hl]) (cV _ _) (fun i hi=>?_);rw [dO _ _ hi,List.filter_append,hat i hi];by_cases e:fX t now=i
 ·subst e;rw [cM (by omega)];simp
 ·rw [cD e];have:(fX t now == i)=false:=by simpa using e
  simp only [List.filter_cons,this,List.filter_nil];rw [if_neg (by simp),List.append_nil];exact (i9 (h.2.2.2.1 i hi).2).symm
theorem vp (lv:Value) (now:Int) (LL:List (List Tm)) (id at_:Int) (w:World) (r:kY w lv LL) (hn:LL.length≤1048576) (hs:LL.flatten.length≤1048576) (now':Int) (LL':List (List Tm)) (c:Int) (ha:ArmAns now LL ⟨at_,id⟩ now' LL' c) :
  Calls Tryz.prog 102 #[.agg #[.int .i64 now,lv],.int .i64 id,.int .i64 at_] w (WhAns w now' LL' c):=by
 obtain ⟨a,cp,rfl⟩:=bI r
 have R2:=Hp (dZ r ((Hx (Hq _ _) (Hz _) (.cells #[.int .i64 now,.slice a LL.length cp] 53)).alloc (by simp) (.cells #[.int .i64 0,.slice none 0 0] 53)))
 have HS:=Hp (fun k (h:k<LL.length)=>Il (jt h) hs)
 have HA:=Hp ha
 clear r hs ha
 go_enter Tryz.func102,Tryz.ntmps102
 go_wp2_with (go_at_call 87;refine (nv _ now LL _ R2.out (by omega) (fun i hi=>by have:=HS.out i hi;omega)).mono ?_)
 rintro e w1 (⟨q,vl,V,rfl,hm,hq,hq2,hqb,hown,hb1⟩|⟨rfl,hm,hb1⟩)
 rotate_left
 ·obtain ⟨rfl,rfl,rfl⟩:=HA.out.no hm;obtain ⟨hc1,hf1⟩:=aV hb1;go_wp2;refine It (v:=.tuple #[.agg #[.int .i64 0,.slice none 0 0],.int .i64 6]) ?_ rfl (WhAns.nil Zb);simp [results,Tryz.results102,go_sem, *]
 ·have h25:=hm.2.2.1;have h0:=hm.1;have h1:=hm.2.1;have HM:=Hp hm;have HW:=Hp hqb;have HO:=Hp hown;have HB1:Hid (Below w.heap.size w w1):=Hv (Zb:Below w.heap.size w _) (hb1.mono (by simp;omega));have hz1:=hb1.size;have x0:w1.cell? ⟨q,0,none⟩=some (.int .i64 now):=ae hqb 0;have x1:w1.cell? ⟨q,1,none⟩=some vl:=ae hqb 1;simp at hq hz1;have y0:w1.cell? ⟨w.heap.size+1,0,none⟩=some (.int .i64 0):=ah hb1 (by go_simp) (by simp);have y1:w1.cell? ⟨w.heap.size+1,1,none⟩=some (.slice none 0 0):=ah hb1 (by go_simp) (by simp);have y2:w1.cell? ⟨w.heap.size,0,none⟩=some (.int .i64 now):=ah hb1 (by go_simp) (by simp;omega);have f0:∀ n,w1.frozen? ⟨w.heap.size+1,n,none⟩=false:=fun n=>(hb1.frozen (p:=⟨w.heap.size+1,n,none⟩) (by simp)).trans (by go_simp);have HLn:=Hp h25;have HSz:=Hp (fun i (h:i<LL.length)=>Il (HS.out i h) (Hz 1048576));clear hm hqb hown hb1;have k1:w.heap.size<w1.heap.size:=by omega
  have k2:w.heap.size+1<w1.heap.size:=by omega
  by_cases htm:dH ⟨at_,id⟩ now;rotate_left
  ·obtain ⟨rfl,rfl,rfl⟩:=HA.out.range HM.out htm;have HT:=Hp htm;clear htm;go_wp2_with (go_at_call 127;refine (jd ⟨at_,id⟩ now _ h0 h1 false (Or.inr ⟨HT.out,rfl⟩)).mono ?_;rintro e w2 ⟨rfl,hb2⟩;obtain ⟨hc2,hf2⟩:=aV hb2);refine It (v:=.tuple #[.agg #[.int .i64 0,.slice none 0 0],.int .i64 2]) ?_ rfl (WhAns.nil ?_)
   ·simp [results,Tryz.results102,go_sem, *]
   ·have b2:Below w1.heap.size w1 w2:=Hv (Zb:Below w1.heap.size w1 _) (hb2.mono (by simp));exact ((HB1.out.trans (b2.mono HB1.out.size)).setCell (by simp) _).setCell (by simp) _
  ·have HT:=Hp htm;clear htm;go_wp2_with (go_at_call 127;refine (jd ⟨at_,id⟩ now _ h0 h1 true (Or.inl ⟨HT.out,rfl⟩)).mono ?_;rintro e w2 ⟨rfl,hb2⟩;obtain ⟨hc2,hf2⟩:=aV hb2);have b2:Below w1.heap.size w1 w2:=Hv (Zb:Below w1.heap.size w1 _) (hb2.mono (by simp));have s2:=hb2.size;simp at s2;have u0:w2.cell? ⟨w1.heap.size,0,none⟩=some (.int .i64 at_):=ah hb2 (by go_simp) (by simp);have u1:w2.cell? ⟨w1.heap.size,1,none⟩=some (.int .i64 id):=ah hb2 (by go_simp) (by simp);have x0:=aA b2 x0;have x1:=aA b2 x1;have y0:=aA b2 y0;have y1:=aA b2 y1;have f0:∀ n,w2.frozen? ⟨w.heap.size+1,n,none⟩=false:=fun n=>(b2.frozen (p:=⟨w.heap.size+1,n,none⟩) (by simp;omega)).trans (f0 n);have HB2:=Hp (HB1.out.trans (b2.mono HB1.out.size));have HW2:=Hp ((b2.block q hq2).trans HW.out);have HO2:=Hp (cj HO.out b2);clear hb2 hc2 hf2 b2 HW HO;go_wp2_with (go_at_call 88;refine (nX q now vl id LL _ HW2.out (gE HO2.out).at_ HSz.out).mono ?_);rintro e w3 (⟨rfl,hnone,hb3⟩|⟨i,k,rfl,hi,hk,hid,hb3⟩);rotate_left
   ·obtain ⟨rfl,rfl,rfl⟩:=HA.out.twice HM.out HT.out ⟨_,iJ.2 ⟨i,hi,px rfl hk⟩,hid⟩;have y0:=aA hb3 y0;have y1:=aA hb3 y1;have f0:∀ n,w3.frozen? ⟨w.heap.size+1,n,none⟩=false:=fun n=>(hb3.frozen (p:=⟨w.heap.size+1,n,none⟩) (by simp;omega)).trans (f0 n);have HB3:=Hp (HB2.out.trans (hb3.mono HB2.out.size));have i0:(0:Int)≤(i:Int):=by omega
    clear hid hk hi;go_wp2;refine It (v:=.tuple #[.agg #[.int .i64 0,.slice none 0 0],.int .i64 7]) ?_ rfl (WhAns.nil ((HB3.out.setCell (by simp) _).setCell (by simp) _));simp [results,Tryz.results102,go_sem, *]
   ·obtain ⟨rfl,rfl,rfl⟩:=HA.out.yes HM.out HT.out (fun t ht=>by obtain ⟨m,hm,ht⟩:=iJ.1 ht;exact hnone m hm t ht);obtain ⟨N,rfl⟩:=Id h0;obtain ⟨A,rfl⟩:=Id (show 0≤at_ by have:=HT.out.1;simp at this;omega)
    have hA2:A≤2199023255552:=by have:=HT.out.2.2.1;simp at this;omega
    have hN2:N≤2199023255552:=by omega
    have HE:=Hp (EP HM.out ⟨(A:Int),id⟩);have hord:=(HM.out.2.2.2.1 (bH A N) (fu A N)).2
    have hlen:(LL.getD (bH A N) []).length≤100000:=by
     have h1:=HM.out.tot;have h2:=jt (LL:=LL) (k:=bH A N) (by have:=fu A N;omega);omega
    have HOrd:=Hp hord;have HLen:=Hp hlen;have x0:=aA hb3 x0;have x1:=aA hb3 x1;have y0:=aA hb3 y0;have y1:=aA hb3 y1;have u0:=aA hb3 u0;have u1:=aA hb3 u1;have f0:∀ n,w3.frozen? ⟨w.heap.size+1,n,none⟩=false:=fun n=>(hb3.frozen (p:=⟨w.heap.size+1,n,none⟩) (by simp;omega)).trans (f0 n);have s3:=hb3.size;have HB3:=Hp (HB2.out.trans (hb3.mono HB2.out.size));have HW3:=Hp ((hb3.block q (by omega)).trans HW2.out);have HO3:=Hp (cj HO2.out hb3);obtain ⟨av,cv,rfl⟩:=bI (gE HO3.out).at_;clear hb3 hnone hord hlen HW2 HO2;go_wp2_with (go_at_call 114;refine (Cv q A N id _ LL V _ HW3.out HO3.out HLn.out hA2 hN2 _ rfl HOrd.out HLen.out).mono ?_;rintro e w4 ⟨v4,rfl,hown4,hz4,_,_,hb4⟩;have x0:=hb4.cell (p:=⟨q,0,none⟩) (by simp) |>.trans x0;have x1:=hb4.cell (p:=⟨q,1,none⟩) (by simp) |>.trans x1;have y0:=hb4.cell (p:=⟨w.heap.size+1,0,none⟩) (by simp;omega) |>.trans y0;have y1:=hb4.cell (p:=⟨w.heap.size+1,1,none⟩) (by simp;omega) |>.trans y1;have f0:∀ n,w4.frozen? ⟨w.heap.size+1,n,none⟩=false:=(fun n=>(hb4.frozen (p:=⟨w.heap.size+1,n,none⟩) (by simp;omega)).trans (f0 n));have HB4:=Hp (HB3.out.trans (hb4.mono (by omega)));have HO4:=Hp hown4;clear hown4 hb4);refine It (v:=.tuple #[.agg #[.int .i64 (N:Int),.slice av LL.length cv],.int .i64 0]) ?_ rfl ⟨_,rfl,?_,(HB4.out.setCell (by simp) _).setCell (by simp) _⟩
    ·simp [results,Tryz.results102,go_sem, *]
    ·have e:fX ⟨(A:Int),id⟩ (N:Int)=bH A N:=tI rfl rfl;rw [← HE.out,e];refine mb (gE (dY HO4.out fun b h1 h2=>?_)) (B:=q+1) (by omega);rw [Hy _ _ _ _ (by simp;omega),Hy _ _ _ _ (by simp;omega)]
end
end Go.Proofs.YtneailjecbfljaaGreatDoor
