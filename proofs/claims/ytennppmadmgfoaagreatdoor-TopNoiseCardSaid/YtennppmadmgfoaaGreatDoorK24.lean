/- Texts of the row's proof. Conditions: none. -/
import Derived.Test.YtennppmadmgfoaaGreatDoorK23
namespace Go.Proofs.YtennppmadmgfoaaGreatDoor
open Proofs.Tryz
set_option maxRecDepth 100000
set_option maxHeartbeats 8000000
section
open Go.RowKit
def Cj (id:Int) (t:Tm):Bool:=t.id == id
theorem AQ (x:Tm) (b:Nat) (id:Int) (w:World) (h:w.cell? ⟨b,0,none⟩=some (.int .i64 id)):Calls prog 135 #[Tm.agg x,.pointer (some ⟨b,0,none⟩)] w fun e w'=>e=.returned (.bool (Cj id x))/\Below w.heap.size w w':=by
 obtain ⟨E,I⟩:=x;have z:=bV h;unfold Tm.agg;go_in;go_wp2
 all_goals first|(go_ret;exact ⟨rfl,Zb⟩)|exact Zx
def FiPost (w:World) (id:Int) (LL:List (List Tm)) (e:Ending) (w':World):Prop:=
 (e=.returned (.tuple #[.int .i64 (-1),.int .i64 (-1)])/\(∀ m,m<LL.length->∀ t∈LL.getD m [],¬ t.id=id)/\Below w.heap.size w w')\/
 (∃ a b:Nat,e=.returned (.tuple #[.int .i64 a,.int .i64 b])/\a<LL.length/\b<(LL.getD a []).length/\((LL.getD a []).getD b Tm.zero).id=id/\Below w.heap.size w w')
theorem pd (q:Nat) (now:Int) (vl:Value) (id:Int) (LL:List (List Tm)) (w:World) (hq:w.heap[q]?=some (.cells #[.int .i64 now,vl] 239 (0,0))) (r:lQ w vl LL) (hs:∀ i,i<LL.length->(LL.getD i []).length<=1048576) :
  Calls prog 91 #[.pointer (some ⟨q,0,none⟩),.int .i64 id] w (FiPost w id LL):=by
 obtain ⟨V0,a1,r1,r2⟩:=r
 have R2:=KL r2
 have HS:=KL hs
 obtain ⟨a,cp,rfl,l1,m1,_,p1⟩:=aO (f:=fun Y:Value=>[Y]) undef r1
 rw [a1] at l1 p1 hq
 have P1:=KL p1
 have a8:=KL a1
 have ab:w.cell? ⟨q,1,none⟩=some (.slice a LL.length cp):=ae hq 1
 have lq:=bV ab
 unfold maxLen at m1
 clear r1 r2 p1 a1 hs hq
 go_in
 go_wp2_with fail
 go_loopw [15] (fun i wr=>∃ z:Nat,z<=LL.length/\i=.int .i64 z/\(∀ K,K<z->∀ t∈LL.getD K [],¬ t.id=id)/\Below w.heap.size w wr/\wr.cell? ⟨w.heap.size,0,none⟩=some (.int .i64 id)) (fun i _=>LL.length - (intOf i).toNat)
 case atStart=>exact ⟨0,La _,rfl,by simp,Zb,by go_simp⟩
 case round=>
  obtain ⟨z,hk,rfl,a5,a3,c0⟩:=hrel;have HN:=KL a5;have I:=KL a3;clear a5;rcases (show z<LL.length\/z=LL.length by omega) with Z|rfl
  ·have af:(z:Int)<(LL.length:Int):=by omega
   have p0:(0:Int)<=(z:Int):=by omega
   obtain ⟨b1,o1,rfl,E,q1⟩:=P1.out (by have:=a8.out;intro h;rw [h] at this;simp at this;omega);have a0:=ah I.out (q1 z 0 Z (by omega)) E;have U:=aq (R2.out z Z) I.out;have ac:=HS.out z Z;simp only [Nat.mul_one,Nat.add_zero] at a0;obtain ⟨xk,a6⟩:∃ xk,xk=V0.getD z undef:=⟨_,rfl⟩;obtain ⟨J,hA⟩:∃ J,J=LL.getD z []:=⟨_,rfl⟩;have HA:=KL hA;rw [<- a6] at a0 U;rw [<- hA] at U ac;obtain ⟨ak,ck,rfl,_⟩:=aO Tm.zero U;have G1:=KL U;clear a6 hA U q1 a3;rcases bM (Cj id) J Tm.zero with ⟨W,a4⟩|⟨j,hj,W,hp,_⟩
   ·have HI:=KL W;have a7:=KL a4;clear W a4;go_wp2_with (go_at_call 134;refine (tM 135 ⟨w.heap.size,0,none⟩ (fun _ _=>rfl) (Cj id) _ J _ G1.out (by omega) (fun Y _ w' a2=>AQ Y _ id w' (aC a2 c0))).mono ?_;rintro e w1 ⟨rfl,E⟩;rw [HI.out];obtain ⟨a9,aa⟩:=aX E);go_roundw
    case measure=>simp [intOf];omega
    case rel=>
     refine ⟨z+1,by omega,by go_num,fun K hm t ht=>?_,I.out.trans (E.mono I.out.size),aC E c0⟩;rcases (show K<z\/K=z by omega) with h|rfl
     ·exact HN.out K h t ht
     ·have:=a7.out t (by rw [HA.out];exact ht);simpa [Cj] using this
   ·have HI:=KL W;have HP:=KL (show (J.getD j Tm.zero).id=id by simpa [Cj] using hp);have pj:(0:Int)<=(j:Int):=by omega
    clear W hp;go_wp2_with (go_at_call 134;refine (tM 135 ⟨w.heap.size,0,none⟩ (fun _ _=>rfl) (Cj id) _ J _ G1.out (by omega) (fun Y _ w' a2=>AQ Y _ id w' (aC a2 c0))).mono ?_;rintro e w1 ⟨rfl,E⟩;rw [HI.out];obtain ⟨a9,aa⟩:=aX E)
    all_goals (go_ret2;exact Or.inr ⟨z,j,rfl,Z,by rw [<- HA.out];exact hj,by rw [<- HA.out];exact HP.out,I.out.trans (E.mono I.out.size)⟩)
  ·have ad:¬ ((LL.length:Nat):Int)<(LL.length:Int):=by omega
   go_wp2_with fail
   all_goals (go_ret2;exact Or.inl ⟨rfl,HN.out,I.out⟩)
def WhAns (w:World) (now:Int) (LL:List (List Tm)) (c:Int) (e:Ending) (w':World):Prop:=∃ v,e=.returned (.tuple #[.agg #[.int .i64 now,v],.int .i64 c])/\LsNew w.heap.size w' v LL/\Below w.heap.size w w'
theorem um (B:Nat) (w:World):LsNew B w (.slice none 0 0) []:=gM (uk B w)
theorem WhAns.nil {w w':World} {c:Int} (h:Below w.heap.size w w'):WhAns w 0 [] c (.returned (.tuple #[.agg #[.int .i64 0,.slice none 0 0],.int .i64 c])) w':=⟨_,rfl,um _ _,h⟩
def CanAns (now:Int) (LL:List (List Tm)) (id:Int) (E:Int) (z:List (List Tm)) (c:Int):Prop:=
 (¬ WhMay now LL/\E=0/\z=[]/\c=6)\/
 (WhMay now LL/\(∀ h∈LL.flatten,¬ h.id=id)/\E=0/\z=[]/\c=8)\/
 (WhMay now LL/\(∃ h∈LL.flatten,h.id=id)/\E=now/\z=bN now (LL.flatten.filter fun h=>!(h.id == id))/\c=0)
theorem CanAns.no {now:Int} {LL:List (List Tm)} {id I:Int} {z:List (List Tm)} {c:Int} (h:CanAns now LL id I z c) (E:¬ WhMay now LL):I=0/\z=[]/\c=6:=by
 rcases h with ⟨_,h⟩|⟨h,_⟩|⟨h,_⟩
 ·exact h
 ·exact absurd h E
 ·exact absurd h E
theorem CanAns.none {now:Int} {LL:List (List Tm)} {id E:Int} {z:List (List Tm)} {c:Int} (h:CanAns now LL id E z c) (J:WhMay now LL) (K:∀ t∈LL.flatten,¬ t.id=id):E=0/\z=[]/\c=8:=by
 rcases h with ⟨h,_⟩|⟨_,_,h⟩|⟨_,⟨t,U,I⟩,_⟩
 ·exact absurd J h
 ·exact h
 ·exact absurd I (K t U)
theorem CanAns.some {now:Int} {LL:List (List Tm)} {id E:Int} {z:List (List Tm)} {c:Int} (h:CanAns now LL id E z c) (J:WhMay now LL) (K:∃ t∈LL.flatten,t.id=id):E=now/\z=bN now (LL.flatten.filter fun t=>!(t.id == id))/\c=0:=by
 rcases h with ⟨h,_⟩|⟨_,h,_⟩|⟨_,_,h⟩
 ·exact absurd J h
 ·obtain ⟨t,U,I⟩:=K;exact absurd I (h t U)
 ·exact h
theorem dg (lv:Value) (now:Int) (LL:List (List Tm)) (id:Int) (w:World) (r:lQ w lv LL) (hn:LL.length<=1048576) (hs:LL.flatten.length<=1048576) (a5:Int) (ao:List (List Tm)) (c:Int) (ha:CanAns now LL id a5 ao c) :
  Calls prog 50 #[.agg #[.int .i64 now,lv],.int .i64 id] w (WhAns w a5 ao c):=by
 obtain ⟨a,cp,rfl⟩:=bL r
 have R2:=KL (eo r ((KU (KM _ _) (KY _) (.cells #[.int .i64 now,.slice a LL.length cp] 54)).alloc (by simp) (.cells #[.int .i64 0,.slice none 0 0] 54)))
 have HS:=KL (fun Y (h:Y<LL.length)=>Lz (jE h) hs)
 have HA:=KL ha
 clear r hs ha
 go_in
 go_wp2_with (go_at_call 90;refine (oG _ now LL _ R2.out (by omega) (fun i hi=>by have:=HS.out i hi;omega)).mono ?_)
 rintro I w1 (⟨q,vl,V,rfl,hm,hq,bq,a4,ay,hb1⟩|⟨rfl,hm,hb1⟩)
 rotate_left
 ·obtain ⟨rfl,rfl,rfl⟩:=HA.out.no hm;obtain ⟨bi,bj⟩:=aX hb1;go_wp2;refine LN (v:=.tuple #[.agg #[.int .i64 0,.slice none 0 0],.int .i64 6]) ?_ rfl (WhAns.nil Zb);simp [results,results50,go_sem, *]
 ·have aS:=hm.2.2.1;have HM:=KL hm;have HW:=KL a4;have HO:=KL ay;have a1:Hid (Below w.heap.size w w1):=KS (Zb:Below w.heap.size w _) (hb1.mono (by simp;omega));have bc:=hb1.size;have x0:w1.cell? ⟨q,0,none⟩=some (.int .i64 now):=ae a4 0;have x1:w1.cell? ⟨q,1,none⟩=some vl:=ae a4 1;simp at hq bc;have y0:w1.cell? ⟨w.heap.size+1,0,none⟩=some (.int .i64 0):=ah hb1 (by go_simp) (by simp);have y1:w1.cell? ⟨w.heap.size+1,1,none⟩=some (.slice none 0 0):=ah hb1 (by go_simp) (by simp);have f0:∀ n,w1.frozen? ⟨w.heap.size+1,n,none⟩=false:=fun n=>(hb1.frozen (p:=⟨w.heap.size+1,n,none⟩) (by simp)).trans (by go_simp);have bh:=KL aS;have am:=KL (fun i (h:i<LL.length)=>Lz (HS.out i h) (KY 1048576));clear hm a4 ay hb1;go_wp2_with (go_at_call 91;refine (pd q now vl id LL _ HW.out (gM HO.out).at_ am.out).mono ?_);rintro I E (⟨rfl,aw,hb2⟩|⟨i,Y,rfl,hi,hk,aa,hb2⟩)
  ·obtain ⟨rfl,rfl,rfl⟩:=HA.out.none HM.out (fun t ht=>by obtain ⟨m,hm,ht⟩:=iT.1 ht;exact aw m hm t ht);have y0:=aC hb2 y0;have y1:=aC hb2 y1;have f0:∀ n,E.frozen? ⟨w.heap.size+1,n,none⟩=false:=fun n=>(hb2.frozen (p:=⟨w.heap.size+1,n,none⟩) (by simp;omega)).trans (f0 n);have a6:=KL (a1.out.trans (hb2.mono a1.out.size));clear aw;go_wp2;refine LN (v:=.tuple #[.agg #[.int .i64 0,.slice none 0 0],.int .i64 8]) ?_ rfl (WhAns.nil ((a6.out.setCell (by simp) _).setCell (by simp) _));simp [results,results50,go_sem, *]
  ·have b9:i<25:=by omega
   obtain ⟨rfl,rfl,rfl⟩:=HA.out.some HM.out ⟨_,iT.2 ⟨i,hi,qH rfl hk⟩,aa⟩;have HE:=KL (Ik HM.out b9 hk aa);have y0:=aC hb2 y0;have y1:=aC hb2 y1;have x0:=aC hb2 x0;have x1:=aC hb2 x1;have f0:∀ n,E.frozen? ⟨w.heap.size+1,n,none⟩=false:=fun n=>(hb2.frozen (p:=⟨w.heap.size+1,n,none⟩) (by simp;omega)).trans (f0 n);have a6:=KL (a1.out.trans (hb2.mono a1.out.size));have a8:=KL (cB HO.out hb2);have bt:=hb2.size;clear hb2 HO HW am aa;obtain ⟨hV,Z,aA,av,b8⟩:=a8.out;rcases fF Z with ⟨_,h0⟩|⟨g0,c0,rfl,_⟩
   ·omega
   have bk:=Z.lt g0 rfl;have aH:=KL Z;have qg:¬ q=g0:=by omega
   have gq:¬ g0=q:=by omega
   have bm:¬ g0=w.heap.size+1:=by omega
   have bn:¬ w.heap.size+1=g0:=by omega
   have bp:¬ q=w.heap.size+1:=by omega
   have br:¬ w.heap.size+1=q:=by omega
   have l1:=Z.cellAt i (by omega)
   have ar:V[i]?=some (V.getD i undef):=by rw [List.getD_eq_getElem?_getD,Lj (by omega)];rfl
   rw [ar] at l1;have lf:=Z.frozenAt i;have a7:=KL (av i hi);have W:=KL (aA i hi);obtain ⟨vk,ad⟩:∃ vk,vk=V.getD i undef:=⟨_,rfl⟩;obtain ⟨U,hA⟩:∃ U,U=LL.getD i []:=⟨_,rfl⟩
   have aT:U.length<=1048576:=by rw [hA];exact HS.out i hi
   have an:=KL ad;have bf:=KL hA;rw [<- ad] at l1 a7 W;rw [<- hA] at W hk HE;obtain ⟨ak,ck,rfl,_⟩:=aE W.out;have i0:(0:Int)<=(i:Int):=by omega
   have i1:(i:Int)<(LL.length:Int):=by omega
   have i2:(i:Int)<25:=by omega
   have k0:¬ (i:Int)<0:=by omega
   have bs:IntKind.i64.wrap ((Y:Int)+1)=(Y:Int)+1:=by rw [IntKind.wrap_i64];omega
   clear Z aA av b8 hV ar ad hA;go_wp2_with fail;refine Zr (fun w':World=>w'.cell? ⟨q,1,none⟩=some (.slice (some ⟨g0,0,none⟩) LL.length c0)) (fun a9=>?_);refine eD 0 ?_;refine eY 8 ?_;refine Zt 12 ?_;refine dl 14 ?_;refine Zt 16 ?_;refine Z1 13 (fun K hK=>?_);go_simp;refine Zk hK fun a9=>?_;clear hK K;refine Z1 17 (fun K hK=>?_);go_simp;(go_at_call 92;refine (delTm (q+1) _ U Y _ (by simp;omega) (bF W.out (aM (n:=1) (KM E.heap.size E))) hk aT).mono ?_;rintro I z ⟨v3,rfl,ax,ab,bd,a0,hb3⟩;have z1:z.cell? ⟨q,1,none⟩=some (.slice (some ⟨g0,0,none⟩) LL.length c0):=(Lg (w:=E.drewN 1) (w':=z) (a:=⟨q,1,none⟩) (a0 q (by simp;omega) (fun I=>by have:=(W.out.lt _ I).1;omega))).trans (dn _ x1);have z2:z.cell? ⟨g0,i,none⟩=some (.slice ak U.length ck):=(Lg (w:=E.drewN 1) (w':=z) (a:=⟨g0,i,none⟩) (a0 g0 (by simp;omega) (fun I=>a7.out _ I rfl))).trans (dn _ l1);have z3:z.frozen? ⟨g0,i,none⟩=false:=(aZ aH.out (fun J hb=>by have I:J=g0:=(Option.some.inj hb).symm;subst I;exact a0 J (by simp;omega) (fun I=>a7.out _ I rfl))).frozenAt i;obtain ⟨a3,c3,rfl,_⟩:=aE ab;have ag:=KL ab;have a2:=KL a0;have al:=KL ax;have af:=KL hb3;clear ab a0 ax hb3);(try go_wp2_with fail);refine Zk hK fun a9=>?_;clear hK K;refine Zt 18 ?_;refine Z1 19 (fun K hK=>?_);go_simp;refine Zk hK fun a9=>?_;clear hK K;refine Zd ?_;have au:∀ J,J<E.heap.size->(V.getD i undef).ownBlock≠some J->z.heap[J]?=E.heap[J]?:=fun J hb ba=>a2.out J (by simp;omega) (by rw [an.out];exact ba);have aL:=KL (iH (L':=U.take Y++U.drop (Y+1)) a8.out hi rfl au (fun J hb=>Or.inl (by rw [<- an.out,<- al.out];exact hb)) ag.out);have bb:z.heap[q]?=E.heap[q]?:=a2.out q (by simp;omega) (fun I=>by have:=(W.out.lt _ I).1;omega);have ac:z.heap[w.heap.size+1]?=E.heap[w.heap.size+1]?:=a2.out (w.heap.size+1) (by simp;omega) (fun I=>by have:=(W.out.lt _ I).1;omega);have u0:z.cell? ⟨q,0,none⟩=some (.int .i64 a5):=(Lg (w:=E) (w':=z) (a:=⟨q,0,none⟩) bb).trans x0;have v0:z.cell? ⟨w.heap.size+1,0,none⟩=some (.int .i64 0):=(Lg (w:=E) (w':=z) (a:=⟨w.heap.size+1,0,none⟩) ac).trans y0;have v1:z.cell? ⟨w.heap.size+1,1,none⟩=some (.slice none 0 0):=(Lg (w:=E) (w':=z) (a:=⟨w.heap.size+1,1,none⟩) ac).trans y1;have v2:∀ n,z.frozen? ⟨w.heap.size+1,n,none⟩=false:=fun n=>(World.frozen?_of_block (w:=E) (w':=z) (a:=⟨w.heap.size+1,n,none⟩) ac).trans (f0 n);have aF:Hid (Below w.heap.size w z):=a6.out.trans ((aM (n:=1) (KM _ E)).trans (af.out.mono (by omega)));clear au a2 al ag af a8;go_wp2_with fail;refine LN (v:=.tuple #[.agg #[.int .i64 a5,.slice (some ⟨g0,0,none⟩) LL.length c0],.int .i64 0]) ?_ rfl ⟨_,rfl,?_,((aF.out.setCell (by simp;omega) _).setCell (by simp) _).setCell (by simp) _⟩
   ·simp [results,results50,go_sem, *]
   ·have bu:E.heap.size<=z.heap.size:=by simpa using bd
    rw [<- HE.out];refine mN (gM (ee aL.out fun J h1 h2=>?_)) (B:=q+1) (by omega);rw [KV _ _ _ _ (by simp;omega),KV _ _ _ _ (by simp;omega)];simp
theorem Ab (X:List Fl) {k:Nat} (h:k<=X.length):(X.map Fl.cells).flatten.take (k*7)=((X.take k).map Fl.cells).flatten:=by
 have e:(X.map Fl.cells).flatten=((X.take k).map Fl.cells).flatten++((X.drop k).map Fl.cells).flatten:=by
  exact Q85
 rw [e];exact List.take_left' (by rw [aP (qt _),Lh,Ls];omega)
theorem Af (X:List Fl) {k:Nat} (h:k<=X.length):(X.map Fl.cells).flatten.drop (k*7)=((X.drop k).map Fl.cells).flatten:=by
 have e:(X.map Fl.cells).flatten=((X.take k).map Fl.cells).flatten++((X.drop k).map Fl.cells).flatten:=by
  exact Q85
 rw [e];exact List.drop_left' (by rw [aP (qt _),Lh,Ls];omega)
def Ke (B:Nat) (w:World) (v:Value) (X:List Fl) (k:Nat) (e:Ending) (w':World):Prop:=∃ v',e=.returned v'/\v'.ownBlock=v.ownBlock/\w'.ownsRow B 170 7 v' (X.take k++X.drop (k+1)).length ((X.take k++X.drop (k+1)).map Fl.cells).flatten/\w.heap.size<=w'.heap.size/\(∀ b,b<w.heap.size->v.ownBlock≠some b->w'.heap[b]?=w.heap[b]?)/\Below B w w'
theorem delFl (B:Nat) (v:Value) (X:List Fl) (k:Nat) (w:World) (hB:B<=w.heap.size) (U:w.ownsRow B 170 7 v X.length (X.map Fl.cells).flatten) (hk:k<X.length) (hn:X.length<=1048576) :
  Calls prog 124 #[v,.int .i64 (k:Int),.int .i64 ((k:Int)+1)] w (Ke B w v X k):=by
 obtain ⟨i0,hi,ao,a1,aA⟩:=info_parts xY
 have hz:∀ W,(sizeOf 170).run prog W=.ok 7 W:=fun W=>by simp [sizeOf,typeInfo,hi,a1]
 have J:prog.underlying 41=some (.slice (prog.elem 41)):=by kernel_rfl
 have I:prog.elem 41=170:=by kernel_rfl
 rcases fF U with ⟨_,h0⟩|⟨z,cap,rfl,_⟩
 ·omega
 have am:=uV U
 unfold maxLen at am
 have ay:=U.lt _ rfl
 have k1:(k:Int)<(X.length:Int):=by omega
 have k2:¬ (k:Int)=(k:Int)+1:=by omega
 have k3:((k:Int) == (k:Int)+1)=false:=by rw [beq_eq_false_iff_ne];omega
 have k4:((k:Int)+1).toNat=k+1:=by omega
 have k5:IntKind.i64.wrap ((k:Int)+1)=(k:Int)+1:=by rw [IntKind.wrap_i64];omega
 have aF:∀ W,(Instr.slice 41 (.slice (some ⟨z,0,none⟩) X.length cap) (some (.int .i64 (k:Int))) (some (.int .i64 ((k:Int)+1))) (some (.int .i64 (X.length:Int)))).run prog W=.ok (.slice (some ⟨z,k*7,none⟩) 1 (X.length - k)) W:=fun W=>by
  rw [run_slice_lhm W 41 _ _ _ J .i64 .i64 .i64 _ _ _ (by omega) (by omega) (by omega) (by omega),I,hz];exact Q156
 have aH:∀ W,(Instr.slice 41 (.slice (some ⟨z,0,none⟩) X.length cap) none (some (.int .i64 (k:Int))) none).run prog W=.ok (.slice (some ⟨z,0,none⟩) k cap) W:=fun W=>by
  rw [run_slice_h W 41 _ _ _ J .i64 _ (by omega) (by omega),I,hz];simp [Result.andThen,sliced,Addr.add_lit]
 have a9:∃ Y,(k+1<X.length->Y=⟨z,(k+1)*7,none⟩)/\∀ W,(Instr.slice 41 (.slice (some ⟨z,0,none⟩) X.length cap) (some (.int .i64 ((k:Int)+1))) none none).run prog W=.ok (.slice (some Y) (X.length - (k+1)) (cap - (k+1))) W:=by
  by_cases hc:cap=k+1
  ·refine ⟨⟨z,0,none⟩,fun h=>by omega,fun W=>?_⟩;rw [run_slice_l W 41 _ _ _ J .i64 _ (by omega) (by omega),I,hz];simp [Result.andThen,sliced,hc,k4]
  ·refine ⟨⟨z,(k+1)*7,none⟩,fun _=>rfl,fun W=>?_⟩;rw [run_slice_l W 41 _ _ _ J .i64 _ (by omega) (by omega),I,hz];simp [Result.andThen,sliced,hc,Addr.add_lit,k4]
 obtain ⟨Y,a2,a9⟩:=a9
 have HO:=KL U
 have au:=KL U
 have aa:=KL a2
 clear U a2 J I hz
 go_in
 go_wp2_with fail
 have an:(X.map Fl.cells).flatten.length=X.length*7:=au.out.1
 have HOD:=KL (bF HO.out (aM (n:=1) (KM w.heap.size w)))
 have a4:=l8 HOD.out (i:=k) (by omega)
 obtain ⟨w3,a7,a0,hg3⟩:=run_append_fits (P:=prog) (w:=w.drewN 1) B 41 41 170 i0 7 underlying41 hi a1 z k cap _ a4 Y (X.length - (k+1)) (cap - (k+1)) (((X.drop (k+1)).map Fl.cells).flatten) (by rw [aP (qt _),Lh,List.length_drop]) (by
  intro j u hu
  have ar:k+1<X.length:=by
   exact Q128
  rw [aa.out ar,<- Af X (by omega)] at *;rw [List.getElem?_drop] at hu
  have hj:(k+1)*7+j<X.length*7:=by
   rcases Nat.lt_or_ge ((k+1)*7+j) (X.length*7) with h|h
   ·exact h
   ·rw [Lu (by omega)] at hu
    cases hu
  rw [Go.WideShapes.add_plain,HOD.out.cellAt _ hj,hu]) (Bg _) (by omega)
 have a8:=a7
 rw [show k+(X.length - (k+1))=X.length - 1 by omega] at a0 a8
 rw [Ab X (by omega),<- Lv,<- LG] at a0
 have hb3:Below B w w3:=by
  exact Q90
 have aT:w.heap.size<=w3.heap.size:=hg3.size
 have a3:∀ E,E<w.heap.size->E≠z->w3.heap[E]?=w.heap[E]?:=fun E hb Z=>hg3.block E (by simpa using hb) (by simpa using Z)
 obtain ⟨W2,ax,a5,av,hb2,a6⟩:=rZ (w:=w3) 41 170 0 (.agg #[.int .i64 0,.int .i64 0,.int .i64 0,.int .i64 0,.bool false,.int .i64 0,.int .i64 0]) 7 z (X.length - 1) cap 1 (cap - (X.length - 1)) B underlying41 hi ao rfl (by decide) a0 (by omega)
 have ac:=KL hb3
 have ab:=KL hb2
 have ak:=KL a6
 have af:=KL a3
 have ag:=KL a5
 clear hb3 hb2 a6 a3 a5 a0 hg3 a4 an a7
 (refine Zr (fun _=>True) (fun al=>?_) (by (try dsimp only);all_goals exact trivial);refine eY 0 ?_;refine dl 4 ?_;refine Z1 6 (fun K hK=>?_);rw [if_pos (by rfl)];(refine lR _ _ _ 41 rfl _ _ _ _ (by rfl) (by rfl) a8 ?_);refine Zk hK (hS:=by (try dsimp only);all_goals exact trivial) fun al=>?_;clear hK K;refine Zt 7 ?_;refine Zd ?_)
 have aw:((X.length:Int) - 1).toNat=X.length - 1:=by omega
 have aL:∀ W,(Instr.slice 41 (.slice (some ⟨z,0,none⟩) (X.length - 1) cap) (some (.int .i64 ((X.length - 1:Nat):Int))) (some (.int .i64 (X.length:Int))) none).run prog W=.ok (.slice (some ⟨z,(X.length - 1)*7,none⟩) 1 (cap - (X.length - 1))) W:=fun W=>by
  have J:prog.underlying 41=some (.slice (prog.elem 41)):=by kernel_rfl
  have I:prog.elem 41=170:=by kernel_rfl
  rw [run_slice_lh W 41 _ _ _ J .i64 .i64 _ _ (by omega) (by omega) (by omega),I];have hz:(sizeOf 170).run prog W=.ok 7 W:=by simp [sizeOf,typeInfo,hi,a1]
  exact Q113
 go_wp2_with fail
 go_ret
 have aS:=av
 refine ⟨_,rfl,rfl,?_,by omega,fun E hb Z=>(ag.out E (fun e=>Z (by rw [e];rfl))).trans (af.out E hb (fun e=>Z (by rw [e];rfl))),ac.out.trans ab.out⟩
 have hl:(X.take k++X.drop (k+1)).length=X.length - 1:=by rw [Ll,Ls,List.length_drop];omega
 rw [hl];exact ak.out
def sS (n:Int) (M:List (List Tm)) (t:Tm):List (List Tm):=M.set (gh t n) (iL (M.getD (gh t n) []++[t]))
theorem EP (n:Int) (M:List (List Tm)) (t:Tm):(sS n M t).length=M.length:=by simp [sS]
def gj (n:Int) (M:List (List Tm)) (X:List Tm):List (List Tm):=X.foldl (sS n) M
theorem zA (n:Int) (M:List (List Tm)) (X:List Tm) (t:Tm):gj n M (X++[t])=sS n (gj n M X) t:=by simp [gj]
theorem tB (n:Int):∀ (X:List Tm) (M:List (List Tm)),M.length=25->(∀ i,i<25->j4 (M.getD i []))->
  (gj n M X).length=25/\∀ i,i<25->(gj n M X).getD i []=iL (M.getD i []++X.filter fun t=>gh t n == i):=by
 intro X
 induction X with
 | nil=>intro M z E;exact ⟨z,fun i h=>by simp only [gj,List.foldl_nil,List.filter_nil,List.append_nil];exact (iq (E i h)).symm⟩
 | cons t X ih=>
  intro M z E;have W:gh t n<25:=fE _ _;have J:(sS n M t).length=25:=by rw [EP,z]
  have I:∀ i,i<25->(sS n M t).getD i []=iL (M.getD i []++if gh t n=i then [t] else []):=by
   intro i h;unfold sS;by_cases e:gh t n=i
   ·subst e;rw [cQ (by omega),if_pos rfl]
   ·rw [cJ e,if_neg e,List.append_nil,iq (E i h)]
  obtain ⟨K,U⟩:=ih (sS n M t) J (fun i h=>by rw [I i h];exact jl _);refine ⟨K,fun i h=>?_⟩;show (gj n (sS n M t) X).getD i []=_
  rw [U i h,I i h];refine mi (((dp _).append_right _).trans ?_);rw [List.append_assoc,List.filter_cons];by_cases e:gh t n=i
  ·rw [if_pos e,if_pos (by simpa using e)];exact List.Perm.refl _
  ·rw [if_neg e,if_neg (by simpa using e)];exact List.Perm.refl _
def pR (n:Int) (j:Nat) (M:List (List Tm)):List (List Tm):=gj n (M.set j []) (M.getD j [])
def Lay (s:Tm->Nat) (E:List Tm) (M:List (List Tm)):Prop:=M.length=25/\∀ i,i<25->M.getD i []=iL (E.filter fun t=>s t == i)
theorem Lay.ord {s:Tm->Nat} {h:List Tm} {M:List (List Tm)} (z:Lay s h M):∀ i,i<25->j4 (M.getD i []):=fun i E=>by rw [z.2 i E];exact jl _
theorem Ah {α:Type} (p q r:α->Bool) (h:List α) (I:∀ x,r x=(p x || q x)) (J:∀ x,p x=true->q x=false):(h.filter p++h.filter q).Perm (h.filter r):=by
 have E:=List.filter_append_perm p (h.filter r);rw [List.filter_filter,List.filter_filter] at E
 rw [show h.filter p=h.filter (fun z=>p z && r z) from List.filter_congr (fun x _=>by rw [I];cases p x<;>simp),
  show h.filter q=h.filter (fun z=>!p z && r z) from List.filter_congr (fun x _=>by
   rw [I]
   cases hp:p x with
   | false=>simp
   | true=>simp [J x hp])]
 exact E
theorem Ka {s:Tm->Nat} {I:List Tm} {M:List (List Tm)} (E:Lay s I M) (n:Int) {j:Nat} (K:j<25):Lay (fun t=>if s t=j then gh t n else s t) I (pR n j M):=by
 have ho:∀ h,h<25->j4 ((M.set j []).getD h []):=fun h J=>by
  by_cases e:j=h
  ·subst e;rw [cQ (by rw [E.1];exact K)];exact List.Pairwise.nil
  ·rw [cJ e];exact E.ord h J
 obtain ⟨Z,g2⟩:=tB n (M.getD j []) (M.set j []) (by rw [Lq];exact E.1) ho;refine ⟨Z,fun h J=>?_⟩;unfold pR;rw [g2 h J];refine mi ?_
 have W:((M.set j []).getD h []).Perm (I.filter fun t=>!(s t == j) && (s t == h)):=by
  by_cases e:j=h
  ·subst e;rw [cQ (by rw [E.1];exact K),List.filter_eq_nil_iff.2 (by simp)]
  ·rw [cJ e,E.2 h J];refine (dp _).trans ?_
   rw [List.filter_congr (q:=fun t=>!(s t == j) && (s t == h)) (fun z _=>by
    by_cases h1:s z=h
    ·simp [h1,show ¬ h=j from fun E=>e (Eq.symm E)]
    ·simp [h1])]
 have Y:((M.getD j []).filter fun t=>gh t n == h).Perm (I.filter fun t=>(s t == j) && (gh t n == h)):=by
  rw [E.2 j K];refine ((dp _).filter _).trans ?_;rw [List.filter_filter];rw [List.filter_congr (q:=fun t=>(s t == j) && (gh t n == h)) (fun z _=>Bool.and_comm _ _)]
 refine (W.append Y).trans (Ah _ _ _ I (fun z=>?_) (fun z U=>?_))
 ·show ((if s z=j then gh z n else s z) == h)=_
  by_cases h1:s z=j
  ·simp [h1]
  ·rw [if_neg h1];have h2:(s z == j)=false:=by simpa using h1
   simp [h2]
 ·simp only [Bool.and_eq_true,Bool.not_eq_true',beq_eq_false_iff_ne,beq_iff_eq] at U;simp [U.1]
def advS (n:Nat) (z j:Nat) (M:List (List Tm)):List (List Tm):=if n % z=0 then pR (n:Int) j M else M
def sr (n:Nat) (k:Nat):Nat×Nat:=if k=0 then (512,24) else if k=1 then (64,16+n / 64 % 8) else (8,8+n / 8 % 8)
def fZ (n:Nat) (M:List (List Tm)):Nat->List (List Tm)
 | 0=>M
 | k+1=>advS n (sr n k).1 (sr n k).2 (fZ n M k)
theorem JL (n k:Nat):(sr n k).2<25:=by unfold sr;split;simp;split<;>(simp;omega)
theorem oX {s E:Tm->Nat} {h:List Tm} {M:List (List Tm)} (z:Lay s h M) (J:∀ t∈h,s t=E t):Lay E h M:=
 ⟨z.1,fun U I=>by rw [z.2 U I,List.filter_congr (fun t K=>by rw [J t K])]⟩
def JK (n:Nat) (k:Nat) (s:Tm->Nat) (t:Tm):Nat:=if n % (sr n k).1=0/\s t=(sr n k).2 then gh t n else s t
theorem nR {s:Tm->Nat} {E:List Tm} {M:List (List Tm)} (n k:Nat) (h:Lay s E M):Lay (JK n k s) E (advS n (sr n k).1 (sr n k).2 M):=by
 unfold advS;by_cases hz:n % (sr n k).1=0
 ·rw [if_pos hz];refine oX (Ka h n (JL n k)) (fun t _=>?_);unfold JK;by_cases e:s t=(sr n k).2<;>simp [hz,e]
 ·rw [if_neg hz];refine oX h (fun t _=>?_);unfold JK;simp [hz]
theorem Cz {A N:Nat} (J:N<A) :
  (let n:=N+1
   let Y:=bK A N
   let Z:=if n % 512=0/\Y=24 then bK A n else Y
   let s2:=if n % 64=0/\Z=16+n / 64 % 8 then bK A n else Z
   if n % 8=0/\s2=8+n / 8 % 8 then bK A n else s2)=bK A (N+1):=by
 have p0:bK A N=24\/bK A N<24:=by have:=fE A N;omega
 simp only
 rcases (show (N+1) % 8≠0\/(N+1) % 8=0 by omega) with U|U
 ·have K:¬ (N+1) % 64=0:=by omega
  have E:¬ (N+1) % 512=0:=by omega
  simp only [U,K,E,false_and,if_false];have h:(N+1) / 8=N / 8:=by omega
  have z:(N+1) / 64=N / 64:=by omega
  have I:(N+1) / 512=N / 512:=by omega
  unfold bK;rw [h,z,I]
 ·rcases (show (N+1) % 64≠0\/(N+1) % 64=0 by omega) with K|K
  ·have E:¬ (N+1) % 512=0:=by omega
   simp only [U,K,E,false_and,if_false,true_and];have z:(N+1) / 64=N / 64:=by omega
   have I:(N+1) / 512=N / 512:=by omega
   have h:¬ A / 8=N / 8:=by omega
   by_cases J:bK A N=8+(N+1) / 8 % 8
   ·rw [if_pos J]
   ·rw [if_neg J];unfold bK at J ⊢;rw [if_neg h] at J ⊢;rw [z,I];by_cases g1:A / 8=(N+1) / 8
    ·exfalso;rw [if_pos (by omega)] at J;omega
    ·rw [if_neg g1]
  ·rcases (show (N+1) % 512≠0\/(N+1) % 512=0 by omega) with E|E
   ·simp only [U,K,E,false_and,if_false,true_and];have I:(N+1) / 512=N / 512:=by omega
    have h:¬ A / 8=N / 8:=by omega
    have z:¬ A / 64=N / 64:=by omega
    have W:bK A N=if A / 512=N / 512 then 16+A / 64 % 8 else 24:=by unfold bK;rw [if_neg h,if_neg z]
    rw [W];by_cases g3:A / 512=N / 512
    ·rw [if_pos g3];by_cases g:16+A / 64 % 8=16+(N+1) / 64 % 8
     ·rw [if_pos g,ite_self]
     ·rw [if_neg g,if_neg (by omega)];unfold bK;rw [if_neg (by omega),if_neg (by omega),if_pos (by omega)]
    ·have q3:¬ A / 512=(N+1) / 512:=by omega
     have q2:¬ A / 64=(N+1) / 64:=by omega
     have q1:¬ A / 8=(N+1) / 8:=by omega
     have a1:¬ 24=16+(N+1) / 64 % 8:=by omega
     have a2:¬ 24=8+(N+1) / 8 % 8:=by omega
     rw [if_neg g3,if_neg a1,if_neg a2];unfold bK;rw [if_neg q1,if_neg q2,if_neg q3]
   ·simp only [U,K,E,true_and];have h:¬ A / 8=N / 8:=by omega
    have z:¬ A / 64=N / 64:=by omega
    have I:¬ A / 512=N / 512:=by omega
    have W:bK A N=24:=by unfold bK;rw [if_neg h,if_neg z,if_neg I]
    rw [W,if_pos rfl,ite_self,ite_self]
theorem Hh {now:Nat} {LL:List (List Tm)} (E:WhMay (now:Int) LL):fZ (now+1) LL 3=bN ((now+1:Nat):Int) LL.flatten:=by
 have U:=E.2.2.1
 have l0:Lay (fun h=>gh h (now:Int)) LL.flatten LL:=⟨U,fun I z=>by
  rw [kV U (fun I z h J=>((E.2.2.2.1 I z).1 h J).2) z]
  exact (iq (E.2.2.2.1 I z).2).symm⟩
 have l3:=nR (now+1) 2 (nR (now+1) 1 (nR (now+1) 0 l0))
 have W:Lay (fun h=>gh h ((now+1:Nat):Int)) LL.flatten (fZ (now+1) LL 3):=oX l3 (fun h J=>by
  obtain ⟨A,K⟩:=Lr (show 0<=h.at_ by have:=(E.tm h J).1;have:=E.1;omega)
  have a0:now<A:=by have:=(E.tm h J).1;omega
  have Y:gh h (now:Int)=bK A now:=by unfold gh;rw [K];rfl
  have Z:gh h ((now+1:Nat):Int)=bK A (now+1):=by unfold gh;rw [K];rfl
  have:=Cz a0;simp only at this;simp only [JK,Y,Z,sr]
  simpa using this)
 exact js W.1 (dd _ _) (fun I z=>by rw [W.2 I z,dU _ _ z])
theorem Hk (n:Nat) (M:List (List Tm)):fZ n M 1=if n % 512=0 then pR (n:Int) 24 (fZ n M 0) else fZ n M 0:=rfl
theorem Hj (n:Nat) (M:List (List Tm)):fZ n M 2=if n % 64=0 then pR (n:Int) (16+n / 64 % 8) (fZ n M 1) else fZ n M 1:=rfl
theorem Hi (n:Nat) (M:List (List Tm)):fZ n M 3=if n % 8=0 then pR (n:Int) (8+n / 8 % 8) (fZ n M 2) else fZ n M 2:=rfl
theorem uR {t:Tm} {n:Nat} (h:(n:Int)<=t.at_):gh t (n:Int)=n % 8↔t.at_=n:=by
 obtain ⟨z,E⟩:=Lr (show 0<=t.at_ by omega)
 have I:gh t (n:Int)=bK z n:=by unfold gh;rw [E];rfl
 rw [I,E];unfold bK;constructor
 ·intro h
  split at h
  ·omega
  ·split at h
   ·omega
   ·split at h<;>omega
 ·intro h;have:z=n:=by omega
  subst this;simp
theorem sq {now:Nat} {LL:List (List Tm)} (h:WhMay (now:Int) LL) (n:Nat):∀ k,∃ s,Lay s LL.flatten (fZ n LL k):=by
 intro k
 induction k with
 | zero=>exact ⟨fun I=>gh I (now:Int),h.2.2.1,fun E z=>by
   show LL.getD E []=_
   rw [kV h.2.2.1 (fun E z I K=>((h.2.2.2.1 E z).1 I K).2) z]
   exact (iq (h.2.2.2.1 E z).2).symm⟩
 | succ k ih=>obtain ⟨s,J⟩:=ih;exact ⟨_,nR n k J⟩
theorem Lay.mem {s:Tm->Nat} {E:List Tm} {M:List (List Tm)} (z:Lay s E M) {i:Nat} (I:i<25):∀ t∈M.getD i [],t∈E:=fun t h=>by
 rw [z.2 i I] at h;exact (List.mem_filter.1 ((dp _).mem_iff.1 h)).1
theorem Lay.len {s:Tm->Nat} {h:List Tm} {M:List (List Tm)} (z:Lay s h M) {i:Nat} (E:i<25):(M.getD i []).length<=h.length:=by
 rw [z.2 i E,(dp _).length_eq];exact List.length_filter_le _ _
theorem IL {s:Tm->Nat} {E:List Tm} {M:List (List Tm)} (z:Lay s E M) (n:Int) {j:Nat} (I:j<25) (m:Nat) :
  (gj n (M.set j []) ((M.getD j []).take m)).length=25/\∀ i,i<25->j4 ((gj n (M.set j []) ((M.getD j []).take m)).getD i [])/\((gj n (M.set j []) ((M.getD j []).take m)).getD i []).length<=E.length+E.length:=by
 have J:∀ i,i<25->j4 ((M.set j []).getD i [])/\((M.set j []).getD i []).length<=E.length:=fun i h=>by
  by_cases e:j=i
  ·subst e;rw [cQ (by rw [z.1];exact I)];exact ⟨List.Pairwise.nil,by simp⟩
  ·rw [cJ e];exact ⟨z.ord i h,z.len h⟩
 obtain ⟨K,U⟩:=tB n ((M.getD j []).take m) (M.set j []) (by rw [Lq];exact z.1) (fun i h=>(J i h).1)
 refine ⟨K,fun i h=>?_⟩
 rw [U i h]
 refine ⟨jl _,?_⟩
 rw [(dp _).length_eq,Ll]
 have Y:=(J i h).2
 have Z:=z.len I
 have h3:(((M.getD j []).take m).filter fun W=>gh W n == i).length<=(M.getD j []).length:=Lz (List.length_filter_le _ _) (List.length_take_le' _ _)
 omega
theorem JJ {now n:Nat} (hn:n=now+1) {LL:List (List Tm)} (W:WhMay (now:Int) LL) :
  (bN (n:Int) LL.flatten).set (n % 8) []=bN (n:Int) (LL.flatten.filter fun t=>decide ((n:Int)<t.at_))/\
  (bN (n:Int) LL.flatten).getD (n % 8) []=iL (LL.flatten.filter fun t=>t.at_ == (n:Int)):=by
 have I:∀ t∈LL.flatten,(n:Int)<=t.at_:=fun t h=>by have:=(W.tm t h).1;omega
 have Z:n % 8<25:=by omega
 clear hn
 refine ⟨js (by simp [dd]) (dd _ _) (fun U K=>?_),?_⟩
 ·rw [dU _ _ K,List.filter_filter];by_cases z:n % 8=U
  ·rw [<- z,cQ (by rw [dd];omega),List.filter_eq_nil_iff.2 (fun t h=>by
    have:=uR (I t h);simp only [Bool.and_eq_true,beq_iff_eq,decide_eq_true_eq]
    omega)]
   exact (iq List.Pairwise.nil).symm
  ·rw [cJ z,dU _ _ K];rw [List.filter_congr (fun t h=>?_)];have E:=uR (I t h);have Y:=I t h;by_cases g:gh t (n:Int)=U
   ·have:(n:Int)<t.at_:=by
     rcases Int.lt_or_eq_of_le Y with J|J
     ·exact J
     ·exact absurd (E.2 J.symm) (by omega)
    simp [g,this]
   ·simp [g]
 ·rw [dU _ _ Z,List.filter_congr (fun t h=>?_)];have E:=uR (I t h);by_cases g:t.at_=(n:Int)
  ·rw [beq_iff_eq.2 (E.2 g),beq_iff_eq.2 g]
  ·rw [beq_eq_false_iff_ne.2 (fun z=>g (E.1 z)),beq_eq_false_iff_ne.2 g]
def RgCPost (w:World) (L:List Sp) (c:Int) (e:Ending) (w':World):Prop:=∃ v,e=.returned (.tuple #[.agg #[v],.int .i64 c])/\aN w.heap.size w' 2 v (L.map Sp.cells)/\Below w.heap.size w w'
theorem RgCPost.nil {w w':World} {c:Int} (h:Below w.heap.size w w'):RgCPost w [] c (.returned (.tuple #[.agg #[.slice none 0 0],.int .i64 c])) w':=⟨_,rfl,bH _ _ _,h⟩
theorem ri (v:Value) (X:List Sp) (w:World) (b wt:Int) (L:List Sp) (c:Int) (r:aK w 2 v (X.map Sp.cells)) (hn:X.length*16<=140737488351232) (ha:AE X b wt L c):Calls prog 75 #[.agg #[v],.int .i64 b,.int .i64 wt] w (RgCPost w L c):=by
 obtain ⟨i0,hi,b0,b1,b2⟩:=info_parts kN;have R:=KL r;obtain ⟨a,cp,rfl,_⟩:=ap r;have HA:=KL ha;clear r ha;go_in;go_wp2_with fail;refine (jG _ X _ (ai (ai R.out _) _) hn).mono ?_;rintro e E ⟨W,bo,hW,rfl,h1,h2,K⟩;have HB:=KL ((((KM w.heap.size w).alloc (KY _) _).alloc (by simp) _).trans (K.mono (by simp;omega)));have b7:=K.size;simp at b7;have k0:w.heap.size<E.heap.size:=by omega
 have k1:w.heap.size+1<E.heap.size:=by omega
 have g0:E.cell? ⟨w.heap.size,0,none⟩=some (.slice a X.length cp):=by rw [K.cell (p:=⟨w.heap.size,0,none⟩) Zs];go_simp
 have g1:E.cell? ⟨w.heap.size+1,0,none⟩=some (.slice none 0 0):=by rw [K.cell (p:=⟨w.heap.size+1,0,none⟩) Zs];go_simp
 have g2:E.frozen? ⟨w.heap.size+1,0,none⟩=false:=by rw [K.frozen (p:=⟨w.heap.size+1,0,none⟩) Zs];go_simp
 have H1:=KL h1;have H2:=KL h2;have J:=KL hW;have RX:=KL (aq R.out HB.out);clear K h1 h2 hW;rcases HA.out with ⟨I,rfl,rfl⟩|⟨I,hs,rfl,rfl⟩|⟨n,m,I,rfl,ad,rfl,bb,b5,hs⟩
 ·have:=H2.out I;subst this;clear I HA;go_wp2_with (refine bQ rfl 262 (.tmp 8) (.tmp 14) rfl E.heap.size (cW W) rfl rfl 262 (cW (List.replicate 12 0)) (aB _ rfl) (cz J.out) (by rw [dx J.out];rfl) (dX _) ?_;intro W2 a0 _ Y z;obtain ⟨aa,ab⟩:=aX z;have U:=KL ((HB.out.alloc (by omega) _).trans (z.mono (by omega)));clear z;simp at Y)
  all_goals first|(refine LN (v:=.tuple #[.agg #[.slice none 0 0],.int .i64 6]) ?_ rfl (RgCPost.nil (U.out.setCell (by simp) _));(simp [results,results75,go_sem, *];done))
 ·obtain ⟨rfl,rfl⟩:=H1.out I;clear I HA;rcases (show b<0\/(¬ b<0/\12<=b)\/(¬ b<0/\¬ 12<=b/\wt<1)\/(¬ b<0/\¬ 12<=b/\¬ wt<1/\8<wt) by omega) with h|⟨h,ha⟩|⟨h,ha,K⟩|⟨h,ha,K,hd⟩
  all_goals
   clear hs
   go_wp2_with (refine bQ rfl 262 (.tmp 8) (.tmp 14) rfl E.heap.size (cW (fG X 12)) rfl rfl 262 (cW (List.replicate 12 0)) (aB _ rfl) (cz J.out) (by rw [dx J.out];rfl) (dX _) ?_;intro W2 a0 _ Y z;obtain ⟨aa,ab⟩:=aX z;have U:=KL ((HB.out.alloc (by omega) _).trans (z.mono (by omega)));clear z;simp at Y)
   all_goals first|(refine LN (v:=.tuple #[.agg #[.slice none 0 0],.int .i64 2]) ?_ rfl (RgCPost.nil (U.out.setCell (by simp) _));(simp [results,results75,go_sem, *];done))
 ·obtain ⟨rfl,rfl⟩:=H1.out I;have au:(fG X 12)[n]?=some (((gx X).getD n 0:Nat):Int):=by rw [jr X 12 ad,if_pos ad,kY X ad]
  have ak:=KL au;have HM:=KL I;have a1:¬ (n:Int)<0:=by omega
  have a2:¬ 12<=(n:Int):=by omega
  have a3:¬ (m:Int)<1:=by omega
  have a4:¬ 8<(m:Int):=by omega
  have a5:(n:Int)<12:=by omega
  have a6:0<=(n:Int):=by omega
  obtain ⟨q,hq⟩:∃ q,q=(gx X).getD n 0:=⟨_,rfl⟩;rw [<- hq] at ak hs;have HQ:=KL hq;clear I au HA hq;rcases hs with ⟨hp,rfl,rfl⟩|⟨rfl,rfl,rfl⟩
  ·have b6:0<(q:Int):=by omega
   go_wp2_with ((refine bQ rfl 262 (.tmp 8) (.tmp 14) rfl E.heap.size (cW (fG X 12)) rfl rfl 262 (cW (List.replicate 12 0)) (aB _ rfl) (cz J.out) (by rw [dx J.out];rfl) (dX _) ?_;intro W2 a0 _ Y z;obtain ⟨aa,ab⟩:=aX z;have U:=KL ((HB.out.alloc (by omega) _).trans (z.mono (by omega)));clear z;simp at Y);have e1:=(ae a0 n).trans (iW ak.out))
   all_goals first|(refine LN (v:=.tuple #[.agg #[.slice none 0 0],.int .i64 7]) ?_ rfl (RgCPost.nil (U.out.setCell (by simp) _));(simp [results,results75,go_sem, *];done))
  ·have b6:¬ 0<((0:Nat):Int):=by omega
   go_wp2_with ((refine bQ rfl 262 (.tmp 8) (.tmp 14) rfl E.heap.size (cW (fG X 12)) rfl rfl 262 (cW (List.replicate 12 0)) (aB _ rfl) (cz J.out) (by rw [dx J.out];rfl) (dX _) ?_;intro W2 a0 _ Y z;obtain ⟨aa,ab⟩:=aX z;have U:=KL ((HB.out.alloc (by omega) _).trans (z.mono (by omega)));clear z;simp at Y);have e1:=(ae a0 n).trans (iW ak.out));refine (vC _ X _ (aq R.out U.out) hn).mono ?_;rintro e w3 ⟨v3,rfl,am,a9⟩;have bc:=a9.size;have an:=KL (U.out.trans (a9.mono (by omega)));have ar:=KL am
   have d1:w3.cell? ⟨w.heap.size+1,0,none⟩=some (.slice none 0 0):=by rw [a9.cell (p:=⟨w.heap.size+1,0,none⟩) (by simp;omega),aa _ _ k1];go_simp
   have d2:w3.frozen? ⟨w.heap.size+1,0,none⟩=false:=by rw [a9.frozen (p:=⟨w.heap.size+1,0,none⟩) (by simp;omega),ab _ _ k1];go_simp
   obtain ⟨b8,b9,rfl,_⟩:=aE am;clear a9 am aa ab e1 g0 g1 g2 a0;go_wp2_with fail;refine (qX n m _ (by omega) b5).mono ?_;rintro e w4 ⟨v4,rfl,aA,a7⟩;have bd:=a7.size;have aH:=KL (an.out.trans (a7.mono an.out.size));have d1:=ah a7 d1 (by omega);have d2:w4.frozen? ⟨w.heap.size+1,0,none⟩=false:=(a7.frozen (p:=⟨w.heap.size+1,0,none⟩) (by simp;omega)).trans d2;have af:=KL (bF ar.out a7);have ba:=RgMay.len HM.out;have b4:(dh n m).length=4*m:=eN n m;rcases mC aA with ⟨_,h0⟩|⟨g,c3,rfl,ax⟩
   ·omega
   have ao:=KL ax;clear ax a7 aA ar b4;go_wp2_with (at_builtin;go_loud (refine wpList_append_own _ rfl _ _ 46 rfl W2.heap.size 179 i0 (.agg #[.int .i64 0,.int .i64 0]) 2 16 underlying46 hi b0 b1 b2 rfl (by decide) _ _ _ rfl af.out ⟨g,0,none⟩ (4*m) c3 ((dh n m).map Sp.cells).flatten rfl ?c0 ao.out ?c1 ?c2 ?c3 ?c4 ?_))
   case c0=>rw [aP (sz:=2) (iu _),Lh,eN]
   case c1=>exact uX _
   case c2=>unfold maxLen;omega
   case c3=>omega
   case c4=>omega
   intro v' w6 ay aw _
   have al:w6.ownsRow (E.heap.size+1) 179 2 v' (X++dh n m).length ((X++dh n m).map Sp.cells).flatten:=by
    rw [Ll,eN,LG,Lv];exact ay
   have ag:=KL al;have a8:=cP (B:=W2.heap.size) (KM w4.heap.size w4) (by omega) af.out aw;rw [Y] at a8;have bf:=a8.size;have aL:=KL (aH.out.trans (a8.mono (by omega)));have d1:=ah a8 d1 (by omega);have d2:w6.frozen? ⟨w.heap.size+1,0,none⟩=false:=(a8.frozen (p:=⟨w.heap.size+1,0,none⟩) (by simp;omega)).trans d2;obtain ⟨a6,c6,rfl,_⟩:=aE al
   have b3:(X++dh n m).length<=1000:=by rw [Ll,eN];omega
   obtain ⟨Z,hY⟩:∃ Z,Z=X++dh n m:=⟨_,rfl⟩;rw [<- hY] at ag b3;have av:(X++dh n m).length=Z.length:=by rw [hY]
   rw [av];have HY:=KL hY;clear ay aw a8 al af ao hY av;go_wp2_with fail;refine (Bb (E.heap.size+1) _ Z _ (by omega) ag.out (by omega)).mono ?_;rintro e w7 ⟨rfl,aF,ac,bh,_⟩;have aS:=KL (aL.out.trans (ac.mono (by omega)));have d1:=ah ac d1 (by omega);have d2:w7.frozen? ⟨w.heap.size+1,0,none⟩=false:=(ac.frozen (p:=⟨w.heap.size+1,0,none⟩) (by simp;omega)).trans d2
   have aT:Hid (aN (E.heap.size+1) w7 2 (.slice a6 Z.length c6) ((bR ((gx X).set n m)).map Sp.cells)):=by
    rw [<- zr (n:=m) HM.out ad HQ.out.symm,<- HY.out];exact aG aF (by rw [Lh];exact (fq Z).length_eq) (iu _)
   clear aF ac ag;go_wp2;refine LN (v:=.tuple #[.agg #[.slice a6 Z.length c6],.int .i64 0]) ?_ rfl ⟨_,rfl,aJ (aD aT.out (by simp;omega) _) (by omega),aS.out.setCell (by simp) _⟩;simp [results,results75,go_sem, *]
theorem nG {X:List Sp} {p:Sp->Bool} {k:Nat} {s:Sp} (hs:s=X.getD k Sp.zero) (hk:k<X.length) (h:p s=true):(X.take (k+1)).filter (fun x=>!p x)=(X.take k).filter (fun x=>!p x):=by
 exact Q117
theorem sW {X:List Sp} {p:Sp->Bool} {k:Nat} {s:Sp} (hs:s=X.getD k Sp.zero) (hk:k<X.length) (h:p s=false):(X.take (k+1)).filter (fun x=>!p x)=(X.take k).filter (fun x=>!p x)++[s]:=by
 exact Q117
theorem Dx {X Y:List Sp} {j:Nat} (h:Y.drop j=X.drop j):Y.getD j Sp.zero=X.getD j Sp.zero:=by
 have:=congrArg (fun l=>l.getD 0 Sp.zero) h;simpa [List.getD,List.getElem?_drop] using this
theorem sG {Y:List Sp} {i:Nat} (s:Sp) (h:i<Y.length):(Y.set i s).take (i+1)=Y.take i++[s]:=by
 rw [Li (by simpa using h),List.take_set,List.set_eq_of_length_le (by rw [Ls];omega)];simp
theorem En {Y:List Sp} {i j:Nat} (s:Sp) (h:i<j):(Y.set i s).drop j=Y.drop j:=by
 rw [List.drop_set,if_pos h]
theorem oj (Y:List Sp) {k:Nat} (h:k<Y.length):(Y.map Sp.cells).flatten[k*2]?=some (.int .i64 (Y.getD k Sp.zero).hash)/\(Y.map Sp.cells).flatten[k*2+1]?=some (.int .i64 (Y.getD k Sp.zero).backend):=by
 have e:Y=Y.take k++Y.getD k Sp.zero :: Y.drop (k+1):=by
  have:Y.getD k Sp.zero=Y[k]:=by simp [List.getD,h]
  rw [this,List.getElem_cons_drop,Lx]
 have:=Dt (Y.take k) (Y.drop (k+1)) (Y.getD k Sp.zero) (k:=k) (by rw [Ls];omega);rw [<- e] at this;exact this
theorem sV (Y:List Sp) (i:Nat):(Y.map Sp.cells).flatten.take (i*2)=((Y.map Sp.cells).take i).flatten:=by
 induction Y generalizing i with
 | nil=>simp
 | cons y Y ih=>
  cases i with
  | zero=>simp
  | succ i=>
   simp only [List.map_cons,List.flatten_cons,List.take_succ_cons,Sp.cells,List.cons_append,List.nil_append];rw [show (i+1)*2=i*2+1+1 by omega,List.take_succ_cons,List.take_succ_cons];have:=ih i;rw [this]
def DelRel (B:Nat) (w wr:World) (g z:Nat) (X:List Sp) (p:Sp->Bool) (i j:Nat):Prop:=Below B w wr/\∃ h:List Sp,h.length=X.length/\h.take i=(X.take j).filter (fun x=>!p x)/\h.drop j=X.drop j/\wr.ownsRow B 179 2 (.slice (some ⟨g,0,none⟩) X.length z) X.length (h.map Sp.cells).flatten
def Kf (B:Nat) (w:World) (Z:List Sp) (e:Ending) (w':World):Prop:=∃ v,e=.returned v/\w'.ownsRow B 179 2 v Z.length (Z.map Sp.cells).flatten/\Below B w w'
theorem delSp (B N:Nat) (cp:Addr) (hN:∀ args w,(callFunc N args).run prog w=.ok (.enter N args) w) (p:Sp->Bool) (v:Value) (X:List Sp) (w:World) (hB:B<=w.heap.size) (hown:w.ownsRow B 179 2 v X.length (X.map Sp.cells).flatten) (hn:X.length<=4611686018427387903)
  (hf:∀ x∈X,∀ w',Below B w w'->Calls prog N #[Sp.agg x,.pointer (some cp)] w' fun e w''=>e=.returned (.bool (p x))/\Below w'.heap.size w' w'') :
  Calls prog 114 #[v,.func (.func N) #[] #[.pointer (some cp)]] w (Kf B w (X.filter fun x=>!p x)):=by
 obtain ⟨i0,hi,hi0,hi1,hi2⟩:=info_parts kN
 have hr:=fS hown (by rw [Lh]) (iu _)
 have K:=KL (D4 N cp hN p v X w hr hn (fun x hx w' hb=>hf x hx w' (hb.mono hB)))
 have HF:=KL hf
 have HO:=KL hown
 clear hf hr
 rcases bM p X Sp.zero with ⟨he,hnone⟩|⟨i,hil,he,hpi,hbef⟩
 ·rw [he] at K;have HX:=KL (show X.filter (fun x=>!p x)=X from List.filter_eq_self.2 fun x hx=>by rw [hnone x hx];rfl);obtain ⟨a,c,rfl,_⟩:=aE hown;clear hown hnone he;go_in;go_wp2_with fail;refine K.out.mono ?_;rintro e w1 ⟨rfl,hb1⟩;have HB1:=KL (hb1.mono hB);have HO1:=KL (bF HO.out hb1);clear hb1;go_wp2;go_ret;exact ⟨_,rfl,by rw [HX.out];exact HO1.out,HB1.out⟩
 ·rw [he] at K;rcases mC hown with ⟨_,h0⟩|⟨g,c,rfl,_⟩
  ·omega
  have hgB:=(hown.lt _ rfl).1;have HE:=KL (show (X.take i).filter (fun x=>!p x)=X.take i from List.filter_eq_self.2 fun x hx=>by rw [hbef x hx];rfl);have HPI:=KL hpi;clear hown hbef he hpi;go_in;go_wp2_with fail;refine K.out.mono ?_;rintro e w1 ⟨rfl,hb1⟩;have HB1:=KL (hb1.mono hB);have HO1:=KL (bF HO.out hb1)
  have hm1:((i:Int) == -1)=false:=by rw [beq_eq_false_iff_ne];omega
  clear hb1 HO K;go_wp2_with fail;go_loopw [5,6] (fun a b wr=>∃ i j:Nat,a=.int .i64 i/\b=.int .i64 j/\i<j/\j<=X.length/\DelRel B w wr g c X p i j) (fun _ b _=>X.length - (intOf b).toNat)
  case atStart=>exact ⟨i,i+1,rfl,by go_num,by omega,by omega,HB1.out,X,rfl,by rw [nG rfl hil HPI.out,HE.out],rfl,HO1.out⟩
  case round=>
   clear HB1 HO1 HE HPI hm1 hil;obtain ⟨i,j,rfl,rfl,hij,hj,hb,Y,hY,hYt,hYd,hown⟩:=hrel;have HB:=KL hb;have HO:=KL hown;have HT:=KL hYt;have HD:=KL hYd;have HY:=KL hY;have hYl:Y.length<=X.length:=by omega
   have hYl2:X.length<=Y.length:=by omega
   have gl:=(hown.lt _ rfl).2;clear hb hYt hYd hY;rcases (show j<X.length\/j=X.length by omega) with hlt|rfl
   ·have hlt':(j:Int)<(X.length:Int):=by omega
    have p0:(0:Int)<=(j:Int):=by omega
    have q0:(0:Int)<=(i:Int):=by omega
    have q1:(i:Int)<(X.length:Int):=by omega
    obtain ⟨s,hs⟩:∃ s,s=X.getD j Sp.zero:=⟨_,rfl⟩
    have hsY:Y.getD j Sp.zero=s:=by rw [hs];exact Dx HD.out
    have c0:=oj Y (k:=j) (by omega);have c1:=oj Y (k:=i) (by omega);rw [hsY] at c0;have hlen:(Y.map Sp.cells).flatten.length=X.length*2:=hown.1;have a0:=(hown.cellAt (j*2) (by omega)).trans c0.1;have a1:=(hown.cellAt (j*2+1) (by omega)).trans c0.2;have HC:=KL (HF.out s (by rw [hs];exact yh X _ hlt));have HS:=KL hs;have h2i:i*2+1<X.length*2:=by omega
    clear hown hs hsY c0 c1 hlen;obtain ⟨s0,s1⟩:=s;simp only [Sp.agg] at HC;simp only at a0 a1;go_wp2_with fail;refine (HC.out _ (HB.out.alloc (by have:=HB.out.size;omega) _)).mono ?_;rintro e w2 ⟨rfl,hb2⟩;have hz2:=hb2.size;simp at hz2;have HB2:=KL ((HB.out.alloc (by have:=HB.out.size;omega) (.cells #[.int .i64 s0,.int .i64 s1] 179)).trans (hb2.mono (by simp;have:=HB.out.size;omega)));have HO2:=KL (bF (HO.out.alloc (.cells #[.int .i64 s0,.int .i64 s1] 179)) hb2)
    have v0:w2.cell? ⟨wr.heap.size,0,none⟩=some (.int .i64 s0):=by rw [hb2.cell (p:=⟨wr.heap.size,0,none⟩) (by simp)];go_simp
    have v1:w2.cell? ⟨wr.heap.size,1,none⟩=some (.int .i64 s1):=by rw [hb2.cell (p:=⟨wr.heap.size,1,none⟩) (by simp)];go_simp
    clear hb2 HB HO HC a0 a1;by_cases hp:p ⟨s0,s1⟩=true
    ·have HT2:=KL (nG HS.out hlt hp);simp only [hp];clear hp;go_wp2;go_roundw
     case rel=>exact ⟨i,j+1,rfl,by go_num,by omega,by omega,HB2.out,Y,HY.out,by rw [HT2.out];exact HT.out,by rw [<- List.drop_drop,HD.out,List.drop_drop],HO2.out⟩
     case measure=>simp [intOf];omega
    ·have hp':p ⟨s0,s1⟩=false:=by simpa using hp
     have HT2:=KL (sW HS.out hlt hp');simp only [hp'];clear hp hp';have c1:=oj Y (k:=i) (by omega);have d0:=(HO2.out.cellAt (i*2) (by omega)).trans c1.1;have d1:=(HO2.out.cellAt (i*2+1) (by omega)).trans c1.2;have f0:=HO2.out.frozenAt (i*2);have f1:=HO2.out.frozenAt (i*2+1);clear c1;go_wp2;go_roundw
     case measure=>simp [intOf];omega
     case rel=>
      refine ⟨i+1,j+1,by go_num,by go_num,by omega,by omega,(HB2.out.setCell (by simp;omega) _).setCell (by simp;omega) _,Y.set i ⟨s0,s1⟩,by rw [Lq];exact HY.out,?_,?_,?_⟩
      ·rw [HT2.out,sG _ (by omega),HT.out]
      ·rw [En _ (by omega),<- List.drop_drop,HD.out,List.drop_drop]
      ·rw [<- Ad Y i ⟨s0,s1⟩ (by omega)];exact ((HO2.out.stored _ _).1.stored _ _).1
   ·have hge:¬ ((X.length:Nat):Int)<(X.length:Int):=by omega
    have HZ:=KL (show Y.take i=X.filter (fun x=>!p x) by rw [HT.out,Lo (KY _)]);have q0:(0:Int)<=(i:Int):=by omega
    have q1:(i:Int)<=(X.length:Int):=by omega
    clear hown;have q2:i<X.length:=by omega
    have hcap:i<c:=by have:=(uV HO.out).1;omega
    have hcap2:¬ c=i:=by omega
    obtain ⟨W2,hcl,_,_,hb2,hown2⟩:=Aj (w:=wr) 46 179 0 (.agg #[.int .i64 0,.int .i64 0]) 2 g X.length c i (c - i) B underlying46 hi hi0 rfl (by decide) HO.out (by omega);have HB2:=KL (HB.out.trans hb2);have HO2:=KL hown2;clear hb2 hown2;go_wp2_with fail;go_ret
    have hlz:(X.filter (fun x=>!p x)).length=i:=by rw [<- HZ.out,Ls];omega
    refine ⟨_,rfl,?_,HB2.out⟩;rw [hlz,<- HZ.out,List.map_take,<- sV];exact HO2.out
theorem ED (s:Sp) (b:Int) (q:Nat) (w:World) (h:w.cell? ⟨q,0,none⟩=some (.int .i64 b)):Calls prog 115 #[Sp.agg s,.pointer (some ⟨q,0,none⟩)] w fun e w'=>e=.returned (.bool (s.backend == b))/\Below w.heap.size w w':=by
 have z:=bV h;obtain ⟨E,I⟩:=s;unfold Sp.agg;simp only;go_in;go_wp2
 all_goals (go_ret;exact ⟨rfl,Zb⟩)
theorem zy (v:Value) (X:List Sp) (w:World) (b:Int) (L:List Sp) (c:Int) (r:aK w 2 v (X.map Sp.cells)) (hn:X.length*16<=140737488351232) (ha:vQ X b L c):Calls prog 70 #[.agg #[v],.int .i64 b] w (RgCPost w L c):=by
 have R:=KL r;obtain ⟨a,cp,rfl,_⟩:=ap r;have HA:=KL ha;clear r ha;go_in;go_wp2_with fail;refine (jG _ X _ (ai (ai (ai R.out _) _) _) hn).mono ?_;rintro e I ⟨W,bo,hW,rfl,h1,h2,Y⟩;have HB:=KL (((((KM w.heap.size w).alloc (KY _) _).alloc (by simp) _).alloc (by simp;omega) _).trans (Y.mono (by simp;omega)));have ar:=Y.size;simp at ar;have k0:w.heap.size<I.heap.size:=by omega
 have k1:w.heap.size+1<I.heap.size:=by omega
 have k2:w.heap.size+1+1<I.heap.size:=by omega
 have g0:I.cell? ⟨w.heap.size,0,none⟩=some (.slice a X.length cp):=by rw [Y.cell (p:=⟨w.heap.size,0,none⟩) Zs];go_simp
 have g3:I.cell? ⟨w.heap.size+1,0,none⟩=some (.int .i64 b):=by rw [Y.cell (p:=⟨w.heap.size+1,0,none⟩) Zs];go_simp
 have g1:I.cell? ⟨w.heap.size+1+1,0,none⟩=some (.slice none 0 0):=by rw [Y.cell (p:=⟨w.heap.size+1+1,0,none⟩) Zs];go_simp
 have g2:I.frozen? ⟨w.heap.size+1+1,0,none⟩=false:=by rw [Y.frozen (p:=⟨w.heap.size+1+1,0,none⟩) Zs];go_simp
 have H1:=KL h1;have H2:=KL h2;have K:=KL hW;clear Y h1 h2 hW;rcases HA.out with ⟨J,rfl,rfl⟩|⟨J,hs,rfl,rfl⟩|⟨E,J,rfl,aa,hs⟩
 ·have:=H2.out J;subst this;clear J HA;go_wp2_with (refine bQ rfl 262 (.tmp 6) (.tmp 12) rfl I.heap.size (cW W) rfl rfl 262 (cW (List.replicate 12 0)) (aB _ rfl) (cz K.out) (by rw [dx K.out];rfl) (dX _) ?_;intro W2 a0 _ Z z;obtain ⟨a7,a9⟩:=aX z;have U:=KL ((HB.out.alloc (by omega) _).trans (z.mono (by omega)));clear z;simp at Z)
  all_goals (refine LN (v:=.tuple #[.agg #[.slice none 0 0],.int .i64 6]) ?_ rfl (RgCPost.nil (U.out.setCell Zs _));(simp [results,results70,go_sem, *];done))
 ·obtain ⟨rfl,rfl⟩:=H1.out J;clear J HA;rcases (show b<0\/(¬ b<0/\12<=b) by omega) with h|⟨h,ha⟩
  all_goals
   clear hs
   go_wp2_with (refine bQ rfl 262 (.tmp 6) (.tmp 12) rfl I.heap.size (cW (fG X 12)) rfl rfl 262 (cW (List.replicate 12 0)) (aB _ rfl) (cz K.out) (by rw [dx K.out];rfl) (dX _) ?_;intro W2 a0 _ Z z;obtain ⟨a7,a9⟩:=aX z;have U:=KL ((HB.out.alloc (by omega) _).trans (z.mono (by omega)));clear z;simp at Z)
   all_goals (refine LN (v:=.tuple #[.agg #[.slice none 0 0],.int .i64 8]) ?_ rfl (RgCPost.nil (U.out.setCell Zs _));(simp [results,results70,go_sem, *];done))
 ·obtain ⟨rfl,rfl⟩:=H1.out J;have ag:(fG X 12)[E]?=some (((gx X).getD E 0:Nat):Int):=by rw [jr X 12 aa,if_pos aa,kY X aa]
  have ac:=KL ag;have HM:=KL J;have a1:¬ (E:Int)<0:=by omega
  have a2:¬ 12<=(E:Int):=by omega
  have a5:(E:Int)<12:=by omega
  have a6:0<=(E:Int):=by omega
  obtain ⟨q,hq⟩:∃ q,q=(gx X).getD E 0:=⟨_,rfl⟩;rw [<- hq] at ac hs;clear J ag HA hq;rcases hs with ⟨rfl,rfl,rfl⟩|⟨hp,rfl,rfl⟩
  ·go_wp2_with ((refine bQ rfl 262 (.tmp 6) (.tmp 12) rfl I.heap.size (cW (fG X 12)) rfl rfl 262 (cW (List.replicate 12 0)) (aB _ rfl) (cz K.out) (by rw [dx K.out];rfl) (dX _) ?_;intro W2 a0 _ Z z;obtain ⟨a7,a9⟩:=aX z;have U:=KL ((HB.out.alloc (by omega) _).trans (z.mono (by omega)));clear z;simp at Z);have e1:=(ae a0 E).trans (iW ac.out))
   all_goals (refine LN (v:=.tuple #[.agg #[.slice none 0 0],.int .i64 8]) ?_ rfl (RgCPost.nil (U.out.setCell Zs _));(simp [results,results70,go_sem, *];done))
  ·have ax:((q:Int) == 0)=false:=by rw [beq_eq_false_iff_ne];omega
   have ay:¬ (q:Int)=0:=by omega
   go_wp2_with ((refine bQ rfl 262 (.tmp 6) (.tmp 12) rfl I.heap.size (cW (fG X 12)) rfl rfl 262 (cW (List.replicate 12 0)) (aB _ rfl) (cz K.out) (by rw [dx K.out];rfl) (dX _) ?_;intro W2 a0 _ Z z;obtain ⟨a7,a9⟩:=aX z;have U:=KL ((HB.out.alloc (by omega) _).trans (z.mono (by omega)));clear z;simp at Z);have e1:=(ae a0 E).trans (iW ac.out));have eg:∀ args w,(callFunc 115 args).run prog w=.ok (.enter 115 args) w:=enters_of func115 (by kernel_rfl) rfl;have EG:=KL eg;clear eg;refine (vC _ X _ (aq R.out U.out) hn).mono ?_;rintro e w3 ⟨v3,rfl,ad,a3⟩;have ao:=a3.size;have ak:=KL (U.out.trans (a3.mono (by omega)));have af:=KL ad
   have d0:w3.cell? ⟨w.heap.size+1,0,none⟩=some (.int .i64 (E:Int)):=by rw [a3.cell (p:=⟨w.heap.size+1,0,none⟩) (by simp;omega),a7 _ _ k1];go_simp
   have d1:w3.cell? ⟨w.heap.size+1+1,0,none⟩=some (.slice none 0 0):=by rw [a3.cell (p:=⟨w.heap.size+1+1,0,none⟩) (by simp;omega),a7 _ _ k2];go_simp
   have d2:w3.frozen? ⟨w.heap.size+1+1,0,none⟩=false:=by rw [a3.frozen (p:=⟨w.heap.size+1+1,0,none⟩) (by simp;omega),a9 _ _ k2];go_simp
   obtain ⟨au,av,rfl,_⟩:=aE ad;have aw:=RgMay.len HM.out;clear a3 ad a7 a9 e1 g0 g1 g2 g3 a0;go_wp2_with fail;refine (delSp W2.heap.size 115 ⟨w.heap.size+1,0,none⟩ EG.out (fun s=>s.backend == (E:Int)) _ X _ ao af.out (by omega) (fun x _ w' an=>ED x E _ w' (ah an d0 (by omega)))).mono ?_;rintro e w4 ⟨v4,rfl,ab,a8⟩;have aA:=a8.size;have al:=KL (ak.out.trans (a8.mono (by omega)));have d1:=ah a8 d1 (by omega);have d2:w4.frozen? ⟨w.heap.size+1+1,0,none⟩=false:=(a8.frozen (p:=⟨w.heap.size+1+1,0,none⟩) (by simp;omega)).trans d2;rw [uH HM.out aa] at ab;have am:=KL (aG ab (by rw [Lh]) (iu _));obtain ⟨a4,c4,rfl,_⟩:=aE ab;clear ab a8 af d0;go_wp2;refine LN (v:=.tuple #[.agg #[.slice a4 (bR ((gx X).set E 0)).length c4],.int .i64 0]) ?_ rfl ⟨_,rfl,aJ (aD am.out (by simp;omega) _) (by omega),al.out.setCell Zs _⟩;simp [results,results70,go_sem, *]
end
end Go.Proofs.YtennppmadmgfoaaGreatDoor
