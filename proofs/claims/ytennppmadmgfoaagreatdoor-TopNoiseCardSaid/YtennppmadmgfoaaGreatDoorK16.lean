/- Texts of the row's proof. Conditions: none. -/
import Derived.Test.YtennppmadmgfoaaGreatDoorK09
import Derived.Test.YtennppmadmgfoaaGreatDoorK12
import Derived.Test.YtennppmadmgfoaaGreatDoorK14
namespace Go.Proofs.YtennppmadmgfoaaGreatDoor
open Proofs.Tryz
set_option maxRecDepth 100000
set_option maxHeartbeats 8000000
section
open Go.RowKit
theorem Q54 {p:Prop} (h:p:=by
 rcases h1.2 with ⟨e,_⟩|⟨_,_,_,e,_⟩
 ·cases e
 ·simp only [Value.slice.injEq] at e;exact e.2.1):p:=h
theorem Q82 {p:Prop} (h:p:=by
 go_wp2;refine LN (v:=.tuple #[.agg #[.slice none 0 0,.slice none 0 0],.int .i64 8]) ?_ rfl ⟨_,_,rfl,bH _ _ _,bH _ _ _,Zb⟩;simp [results,results116,go_sem, *]):p:=h
theorem Q124 {p:Prop} (h:p:=by
 unfold me;rw [AI hk,List.filter_append,LG];generalize L.getD k Lf.zero=s at hs;simp [hs]):p:=h
theorem Q143 {p:Prop} (h:p:=by
 go_wp2;go_roundw
 case rel=>exact ⟨k+1,by go_num,S.out⟩
 case measure=>simp [intOf];omega):p:=h
def yW (L:List Lf) (R:List Rq) (b:Int) (x:Lf) (code:Int):Prop:=(¬ bJ L R/\x=Lf.zero/\code=6)\/(bJ L R/\aU (cM b) L=-1/\x=Lf.zero/\code=8)\/(bJ L R/\(∃ i:Nat,i<L.length/\aU (cM b) L=i/\x=L.getD i Lf.zero)/\code=0)
theorem pI (L:List Lf) (R:List Rq) (b:Int):∃ x code,yW L R b x code:=by
 by_cases h:bJ L R
 ·rcases bM (cM b) L Lf.zero with ⟨z,_⟩|⟨I,z,E,_⟩
  ·exact ⟨_,_,Or.inr (Or.inl ⟨h,z,rfl,rfl⟩)⟩
  ·exact ⟨_,_,Or.inr (Or.inr ⟨h,⟨I,z,E,rfl⟩,rfl⟩)⟩
 ·exact ⟨_,_,Or.inl ⟨h,rfl,rfl⟩⟩
theorem iP (vl vr:Value) (L:List Lf) (R:List Rq) (b:Int) (x:Lf) (code:Int) (w:World) (hl:aK w 6 vl (L.map Lf.cells)) (hr:aK w 5 vr (R.map Rq.cells)) (h:yW L R b x code) :
  Calls prog 74 #[.agg #[vl,vr],.int .i64 b] w fun e w'=>e=.returned (.tuple #[Lf.agg x,.int .i64 code])/\Below w.heap.size w w':=by
 have HL:=KL hl
 have HR:=KL hr
 obtain ⟨a,c,rfl,_⟩:=ap hl
 obtain ⟨a',c',rfl,_⟩:=ap hr
 clear hl hr
 rcases h with ⟨h,rfl,rfl⟩|⟨h,hi,rfl,rfl⟩|⟨h,⟨i,hi,he,rfl⟩,rfl⟩
 ·have H:=KL h;clear h;go_in;go_wp2_with fail;refine (gQ _ _ L R _ (ai (ai HL.out _) _) (ai (ai HR.out _) _) H.out).mono ?_;rintro e I ⟨rfl,E⟩;obtain ⟨a3,a4⟩:=aX E;have a5:=fX E;have a0:=E.size;simp at a0;have m0:w.heap.size<I.heap.size:=(by omega);have m1:w.heap.size+1<I.heap.size:=(by omega);have Y:I.heap[w.heap.size+1]?=some (.cells #[.int .i64 0,.int .i64 0,.int .i64 0,.int .i64 0,.int .i64 0,.int .i64 0] 173 (0,0)):=aj E (aB (w:=World.alloc _ _) _ (by simp)) (by simp);go_wp2;refine LN (v:=.tuple #[.agg #[.int .i64 0,.int .i64 0,.int .i64 0,.int .i64 0,.int .i64 0,.int .i64 0],.int .i64 6]) ?_ rfl ?_;(focus (first|(simp [results,results74,go_sem];done)|(simp [results,results74,go_sem, *];done)));exact ⟨rfl,Zb⟩
 ·have H:=KL h;have HI:=KL hi;have a1:=h.1;clear h hi;go_in;go_wp2_with fail;refine (cV _ _ L R _ (ai (ai HL.out _) _) (ai (ai HR.out _) _) H.out).mono ?_;rintro e I ⟨p,v1,v2,rfl,W,E⟩;obtain ⟨a3,a4⟩:=aX E;have a5:=fX E;have a0:=E.size;simp at a0;have m0:w.heap.size<I.heap.size:=(by omega);have m1:w.heap.size+1<I.heap.size:=(by omega);have Y:I.heap[w.heap.size+1]?=some (.cells #[.int .i64 0,.int .i64 0,.int .i64 0,.int .i64 0,.int .i64 0,.int .i64 0] 173 (0,0)):=aj E (aB (w:=World.alloc _ _) _ (by simp)) (by simp);have HK:=KL W;have Z:=aE W.o1
  have HV:Hid (kg v1 (aU (cM b) L)=.pointer none):=by obtain ⟨a,a2,rfl,_⟩:=Z;show kg _ _=_;rw [HI.out];cases a<;>simp [kg]
  clear W Z;go_wp2_with fail;refine (dS _ p v1 v2 L R b _ HK.out a1).mono ?_;rintro e U ⟨rfl,J⟩;rw [HV.out];obtain ⟨a6,a7⟩:=aX J;have a9:=fX J;have a8:=J.size;have m2:w.heap.size<U.heap.size:=by omega
  have m3:w.heap.size+1<U.heap.size:=by omega
  have z:U.heap[w.heap.size+1]?=some (.cells #[.int .i64 0,.int .i64 0,.int .i64 0,.int .i64 0,.int .i64 0,.int .i64 0] 173 (0,0)):=aj J Y (by omega);have d0:=ae z 0;have g0:=az z 0;have d1:=ae z 1;have g1:=az z 1;have d2:=ae z 2;have g2:=az z 2;have d3:=ae z 3;have g3:=az z 3;have d4:=ae z 4;have g4:=az z 4;have d5:=ae z 5;have g5:=az z 5;simp at d0 d1 d2 d3 d4 d5;clear z Y;go_wp2;refine LN (v:=.tuple #[.agg #[.int .i64 0,.int .i64 0,.int .i64 0,.int .i64 0,.int .i64 0,.int .i64 0],.int .i64 8]) ?_ rfl ?_;(focus (first|(simp [results,results74,go_sem];done)|(simp [results,results74,go_sem, *];done)));exact ⟨rfl,Zb⟩
 ·have H:=KL h;have HI:=KL he;have a1:=h.1;clear h he;obtain ⟨s,Z⟩:∃ s,s=L.getD i Lf.zero:=⟨_,rfl⟩;rw [<- Z];have HS:=KL Z;clear Z;obtain ⟨bk,st,wt,si,un,rq⟩:=s;go_in;go_wp2_with fail;refine (cV _ _ L R _ (ai (ai HL.out _) _) (ai (ai HR.out _) _) H.out).mono ?_;rintro e I ⟨p,v1,v2,rfl,W,E⟩;obtain ⟨a3,a4⟩:=aX E;have a5:=fX E;have a0:=E.size;simp at a0;have m0:w.heap.size<I.heap.size:=(by omega);have m1:w.heap.size+1<I.heap.size:=(by omega);have Y:I.heap[w.heap.size+1]?=some (.cells #[.int .i64 0,.int .i64 0,.int .i64 0,.int .i64 0,.int .i64 0,.int .i64 0] 173 (0,0)):=aj E (aB (w:=World.alloc _ _) _ (by simp)) (by simp);obtain ⟨g,a2,rfl,aa,ab⟩:=W.addr hi;have HK:=KL W
  have HV:Hid (kg (.slice (some ⟨g,0,none⟩) L.length a2) (aU (cM b) L)=.pointer (some ⟨g,i*6,none⟩)):=by show kg _ _=_;rw [HI.out];simp [kg]
  clear W;go_wp2_with fail;refine (dS _ p _ v2 L R b _ HK.out a1).mono ?_;rintro e U ⟨rfl,J⟩;rw [HV.out];obtain ⟨a6,a7⟩:=aX J;have a9:=fX J;have a8:=J.size;have m2:w.heap.size<U.heap.size:=by omega
  have m3:w.heap.size+1<U.heap.size:=by omega
  have z:U.heap[w.heap.size+1]?=some (.cells #[.int .i64 0,.int .i64 0,.int .i64 0,.int .i64 0,.int .i64 0,.int .i64 0] 173 (0,0)):=aj J Y (by omega);have d0:=ae z 0;have g0:=az z 0;have d1:=ae z 1;have g1:=az z 1;have d2:=ae z 2;have g2:=az z 2;have d3:=ae z 3;have g3:=az z 3;have d4:=ae z 4;have g4:=az z 4;have d5:=ae z 5;have g5:=az z 5;simp at d0 d1 d2 d3 d4 d5;clear z Y;have K2:=HK.out.below J;have K:∀ j,j<6->U.cell? ⟨g,i*6+j,none⟩=((L.getD i Lf.zero).cells)[j]?:=fun j hj=>(K2.cell hi hj).1;rw [<- HS.out] at K;have q0:=K 0 (by omega);have q1:=K 1 (by omega);have q2:=K 2 (by omega);have q3:=K 3 (by omega);have q4:=K 4 (by omega);have q5:=K 5 (by omega);simp only [Lf.cells,Lb,Lc,Nat.add_zero] at q0 q1 q2 q3 q4 q5;clear K K2;go_wp2;refine LN (v:=.tuple #[.agg #[.int .i64 bk,.int .i64 st,.int .i64 wt,.int .i64 si,.int .i64 un,.int .i64 rq],.int .i64 0]) ?_ rfl ?_;(focus (first|(simp [results,results74,go_sem];done)|(simp [results,results74,go_sem, *];done)));exact ⟨rfl,Zb⟩
theorem fW {sz:Nat} (v:Value) {j:Nat} (U:j<sz):∀ {L:List (List Value)},(∀ c∈L,c.length=sz)->∀ {i:Nat},i<L.length->L.flatten.set (i*sz+j) v=(L.set i ((L.getD i []).set j v)).flatten:=by
 intro L
 induction L with
 | nil=>intro _ i h;simp at h
 | cons c L ih=>
  intro z i h;have J:=z c Lw
  cases i with
  | zero=>
   simp only [Nat.zero_mul,Nat.zero_add,List.flatten_cons,List.set_cons_zero,List.getD_cons_zero];rw [List.set_append_left _ _ (by omega)]
  | succ i=>
   have I:(i+1)*sz+j=c.length+(i*sz+j):=by rw [J,Nat.add_mul];omega
   simp only [List.flatten_cons,List.set_cons_succ,List.getD_cons_succ];rw [I,List.set_append_right _ _ (by omega),Nat.add_sub_cancel_left,ih (fun E K=>z E (Ly _ K)) (by simpa using h)]
theorem tE {w:World} {B e g n h:Nat} {L:List Lf} {i j:Nat} {x:Lf} {v:Value} (I:w.ownsRow B e 6 (.slice (some ⟨g,0,none⟩) n h) n (L.map Lf.cells).flatten) (E:i<L.length) (J:j<6) (K:x.cells=(L.getD i Lf.zero).cells.set j v) :
  (w.setCell ⟨g,i*6+j,none⟩ v).ownsRow B e 6 (.slice (some ⟨g,0,none⟩) n h) n ((L.set i x).map Lf.cells).flatten:=by
 have z:=(I.stored (i*6+j) v).1
 rw [fW v J (jc L) (by simpa using E)] at z
 rw [List.map_set,K]
 simpa [List.getD,E] using z
theorem BkAt.field {B:Nat} {w:World} {p g z:Nat} {v2 v:Value} {L:List Lf} {R:List Rq} {i j:Nat} {x:Lf} (h:BkAt B w p (.slice (some ⟨g,0,none⟩) L.length z) v2 L R) (E:i<L.length) (I:j<6) (J:x.cells=(L.getD i Lf.zero).cells.set j v) :
  BkAt B (w.setCell ⟨g,i*6+j,none⟩ v) p (.slice (some ⟨g,0,none⟩) L.length z) v2 (L.set i x) R:=by
 have K:=h.l1 g rfl
 refine ⟨h.hB,aY h.hh (by omega),?_,ownsRow_setCell_other h.o2 (h.dis g rfl) _,h.l1,h.l2,h.dis⟩
 rw [Lq]
 exact tE h.o1 E I J
def dJ (L:List Lf) (b:Int):Option Lf:=L.find? (cM b)
def i8 (L:List Lf) (b:Int):Int:=((dJ L b).map Lf.state).getD 0
theorem fP (L:List Lf) (b:Int):(aU (cM b) L=-1->dJ L b=none)/\∀ i:Nat,aU (cM b) L=i->i<L.length->dJ L b=some (L.getD i Lf.zero):=by
 unfold dJ;rcases bM (cM b) L Lf.zero with ⟨h1,h2⟩|⟨i,hi,h1,h2,h3⟩
 ·exact ⟨fun _=>List.find?_eq_none.2 (fun x hx=>by simp [h2 x hx]),fun j hj _=>by omega⟩
 ·refine ⟨fun h=>by omega,fun j hj _=>?_⟩;obtain rfl:j=i:=by omega
  have e:L=L.take j++(L.getD j Lf.zero :: L.drop (j+1)):=by
   have:L.getD j Lf.zero=L[j]:=by simp [List.getD,hi]
   rw [this,List.getElem_cons_drop,Lx]
  generalize L.getD j Lf.zero=x at h2 e;rw [e,List.find?_append,List.find?_eq_none.2 (fun y hy=>by simp [h3 y hy]),List.find?_cons_of_pos h2]
  rfl
theorem yV {L:List Lf} {R:List Rq} {b:Int} {x:Lf} {code:Int} (J:bJ L R) (h:yW L R b x code):(code=8/\dJ L b=none/\x=Lf.zero)\/(code=0/\dJ L b=some x):=by
 rcases h with ⟨h,_⟩|⟨_,h,E,z⟩|⟨_,⟨K,I,h,E⟩,z⟩
 ·exact absurd J h
 ·exact Or.inl ⟨z,(fP L b).1 h,E⟩
 ·exact Or.inr ⟨z,by rw [E];exact (fP L b).2 K h I⟩
theorem GR.c {p:Nat} {w:World} {X:Wd} {V:Vs} (h:GR p w X V) (i:Nat) {v:Value} (z:(dz X V)[i]?=some v):w.cell? ⟨p,i,none⟩=some v:=h.2.2.2.2 i v z
theorem ea {p:Nat} {w:World} {X:Wd} {V:Vs} (h:GR p w X V) (b:Int) (hm:bJ X.lives X.reqs) :
  Calls prog 68 #[.pointer (some ⟨p,0,none⟩),.int .i64 b] w fun e w'=>e=.returned (.int .i64 (i8 X.lives b))/\Below w.heap.size w w':=by
 have a2:=h.c 19 (v:=V.l) rfl
 have a3:=h.c 20 (v:=V.r) rfl
 obtain ⟨al,cl,U,_⟩:=ap h.1.li.1
 obtain ⟨ar,cr,W,_⟩:=ap h.1.re.1
 rw [U] at a2
 rw [W] at a3
 have Z:=KL h.1.li.1
 have HR:=KL h.1.re.1
 rw [U] at Z
 rw [W] at HR
 obtain ⟨x,code,Y⟩:=pI X.lives X.reqs b
 have HA:=KL Y
 have E:=yV hm Y
 have hp:=h.2.2.2.1
 obtain ⟨K,J⟩:∃ K,K=i8 X.lives b:=⟨_,rfl⟩
 rw [<- J]
 rcases E with ⟨rfl,E,rfl⟩|⟨rfl,E⟩
 ·obtain rfl:K=0:=by rw [J];unfold i8;rw [E];rfl
  clear h hm Y E J U W;go_in;go_wp2_with (go_at_call 74;refine (iP _ _ X.lives X.reqs b Lf.zero 8 _ Z.out HR.out HA.out).mono ?_;rintro e w1 ⟨I,z⟩;simp only [Lf.agg,Lf.zero] at I;subst I;obtain ⟨a0,a1⟩:=aX z);go_ret;exact ⟨rfl,z.alloc z.size _⟩
 ·obtain ⟨x0,x1,x2,x3,x4,x5⟩:=x
  obtain rfl:K=x1:=by rw [J];unfold i8;rw [E];rfl
  clear h hm Y E J U W;go_in;go_wp2_with (go_at_call 74;refine (iP _ _ X.lives X.reqs b ⟨x0,K,x2,x3,x4,x5⟩ 0 _ Z.out HR.out HA.out).mono ?_;rintro e w1 ⟨I,z⟩;simp only [Lf.agg] at I;subst I;obtain ⟨a0,a1⟩:=aX z);go_ret;exact ⟨rfl,z.alloc z.size _⟩
def Lf.done (x:Lf):Lf:={ x with state:=4 }
def KH (L:List Lf) (R:List Rq) (b:Int) (L':List Lf) (R':List Rq) (code:Int):Prop:=(¬ bJ L R/\L'=[]/\R'=[]/\code=6)\/(bJ L R/\aU (cM b) L=-1/\L'=[]/\R'=[]/\code=8)\/
 (bJ L R/\(∃ i:Nat,i<L.length/\aU (cM b) L=i/\(L.getD i Lf.zero).state≠3)/\L'=[]/\R'=[]/\code=8)\/
 (bJ L R/\(∃ i:Nat,i<L.length/\aU (cM b) L=i/\(L.getD i Lf.zero).state=3/\L'=L.set i (L.getD i Lf.zero).done)/\R=R'/\code=0)
def Kc (w:World) (L:List Lf) (R:List Rq) (code:Int) (e:Ending) (w':World):Prop:=∃ v1 v2,e=.returned (.tuple #[.agg #[v1,v2],.int .i64 code])/\aN w.heap.size w' 6 v1 (L.map Lf.cells)/\aN w.heap.size w' 5 v2 (R.map Rq.cells)/\Below w.heap.size w w'
theorem Cw (vl vr:Value) (L:List Lf) (R:List Rq) (b:Int) (L':List Lf) (R':List Rq) (code:Int) (w:World) (hl:aK w 6 vl (L.map Lf.cells)) (hr:aK w 5 vr (R.map Rq.cells)) (h:KH L R b L' R' code) :
  Calls prog 116 #[.agg #[vl,vr],.int .i64 b] w (Kc w L' R' code):=by
 have HL:=KL hl
 have HR:=KL hr
 obtain ⟨a,c,rfl,_⟩:=ap hl
 obtain ⟨a',c',rfl,_⟩:=ap hr
 clear hl hr
 by_cases hm:bJ L R
 rotate_left
 ·have H:=KL hm
  obtain ⟨rfl,rfl,rfl⟩:L'=[]/\R'=[]/\code=6:=by
   exact Q141
  clear h hm;go_in;go_wp2_with fail;refine (gQ _ _ L R _ (ai (ai HL.out _) _) (ai (ai HR.out _) _) H.out).mono ?_;rintro e I ⟨rfl,z⟩;obtain ⟨a3,a4⟩:=aX z;have a5:=fX z;have a1:=z.size;simp at a1;have m0:w.heap.size<I.heap.size:=(by omega);have m1:w.heap.size+1<I.heap.size:=(by omega);have W:I.heap[w.heap.size+1]?=some (.cells #[.slice none 0 0,.slice none 0 0] 45 (0,0)):=aj z (aB (w:=World.alloc _ _) _ (by simp)) (by simp);go_wp2;refine LN (v:=.tuple #[.agg #[.slice none 0 0,.slice none 0 0],.int .i64 6]) ?_ rfl ⟨_,_,rfl,bH _ _ _,bH _ _ _,Zb⟩;simp [results,results116,go_sem, *]
 have H:=KL hm
 have a6:=hm.1
 rcases h with ⟨h,_⟩|⟨_,Y,rfl,rfl,rfl⟩|⟨_,⟨i,Y,he,U⟩,rfl,rfl,rfl⟩|⟨_,⟨i,Y,he,U,rfl⟩,rfl,rfl⟩
 ·exact absurd hm h
 ·have HI:=KL Y;clear Y hm;go_in;go_wp2_with fail;refine (cV _ _ L R _ (ai (ai HL.out _) _) (ai (ai HR.out _) _) H.out).mono ?_;rintro e I ⟨p,v1,v2,rfl,J,z⟩;obtain ⟨a3,a4⟩:=aX z;have a5:=fX z;have a1:=z.size;simp at a1;have m0:w.heap.size<I.heap.size:=(by omega);have m1:w.heap.size+1<I.heap.size:=(by omega);have W:I.heap[w.heap.size+1]?=some (.cells #[.slice none 0 0,.slice none 0 0] 45 (0,0)):=aj z (aB (w:=World.alloc _ _) _ (by simp)) (by simp);have HK:=KL J;have U:=aE J.o1
  have HV:Hid (kg v1 (aU (cM b) L)=.pointer none):=by obtain ⟨a,a2,rfl,_⟩:=U;show kg _ _=_;rw [HI.out];cases a<;>simp [kg]
  clear J U;go_wp2_with fail;refine (dS _ p v1 v2 L R b _ HK.out a6).mono ?_;rintro e w2 ⟨rfl,K⟩;rw [HV.out];have a9:=K.size;have m2:w.heap.size<w2.heap.size:=by omega
  have m3:w.heap.size+1<w2.heap.size:=by omega
  have E:=aj K W (by omega);have d0:=ae E 0;have d1:=ae E 1;have g0:=az E 0;have g1:=az E 1;simp at d0 d1;clear E W;exact Q82
 ·have HI:=KL he;obtain ⟨s,a0⟩:∃ s,s=L.getD i Lf.zero:=⟨_,rfl⟩;rw [<- a0] at U;have HS:=KL a0;obtain ⟨bk,st,wt,si,un,rq⟩:=s;simp only at U;have e1:(st != 3)=true:=by simpa using U
  clear he hm U a0;go_in;go_wp2_with fail;refine (cV _ _ L R _ (ai (ai HL.out _) _) (ai (ai HR.out _) _) H.out).mono ?_;rintro e I ⟨p,v1,v2,rfl,J,z⟩;obtain ⟨a3,a4⟩:=aX z;have a5:=fX z;have a1:=z.size;simp at a1;have m0:w.heap.size<I.heap.size:=(by omega);have m1:w.heap.size+1<I.heap.size:=(by omega);have W:I.heap[w.heap.size+1]?=some (.cells #[.slice none 0 0,.slice none 0 0] 45 (0,0)):=aj z (aB (w:=World.alloc _ _) _ (by simp)) (by simp);obtain ⟨g,a2,rfl,a8,aa⟩:=J.addr Y;have HK:=KL J
  have HV:Hid (kg (.slice (some ⟨g,0,none⟩) L.length a2) (aU (cM b) L)=.pointer (some ⟨g,i*6,none⟩)):=by show kg _ _=_;rw [HI.out];simp [kg]
  clear J;go_wp2_with fail;refine (dS _ p _ v2 L R b _ HK.out a6).mono ?_;rintro e w2 ⟨rfl,K⟩;rw [HV.out];have a9:=K.size;have m2:w.heap.size<w2.heap.size:=by omega
  have m3:w.heap.size+1<w2.heap.size:=by omega
  have E:=aj K W (by omega);have d0:=ae E 0;have d1:=ae E 1;have g0:=az E 0;have g1:=az E 1;simp at d0 d1;have Z:=HK.out.below K;have q1:=(Z.cell Y (j:=1) (by omega)).1;rw [<- HS.out] at q1;simp [Lf.cells] at q1;clear E W Z;exact Q82
 ·have HI:=KL he;obtain ⟨s,a0⟩:∃ s,s=L.getD i Lf.zero:=⟨_,rfl⟩;rw [<- a0] at U;have HS:=KL a0;rw [<- a0];clear a0;obtain ⟨bk,st,wt,si,un,rq⟩:=s;simp only at U;subst U;clear he hm;go_in;go_wp2_with fail;refine (cV _ _ L R _ (ai (ai HL.out _) _) (ai (ai HR.out _) _) H.out).mono ?_;rintro e I ⟨p,v1,v2,rfl,J,z⟩;obtain ⟨a3,a4⟩:=aX z;have a5:=fX z;have a1:=z.size;simp at a1;have m0:w.heap.size<I.heap.size:=(by omega);have m1:w.heap.size+1<I.heap.size:=(by omega);have W:I.heap[w.heap.size+1]?=some (.cells #[.slice none 0 0,.slice none 0 0] 45 (0,0)):=aj z (aB (w:=World.alloc _ _) _ (by simp)) (by simp);have a7:=(((KM w.heap.size w).alloc (KY _) (.cells #[.slice a L.length c,.slice a' R.length c'] 45)).alloc (by simp) (.cells #[.slice none 0 0,.slice none 0 0] 45)).trans (z.mono (by simp;omega));have B1:=KL a7;obtain ⟨g,a2,rfl,a8,aa⟩:=J.addr Y;obtain ⟨x2,y2,rfl,_⟩:=aE J.o2;have HK:=KL J;simp at a8
  have HV:Hid (kg (.slice (some ⟨g,0,none⟩) L.length a2) (aU (cM b) L)=.pointer (some ⟨g,i*6,none⟩)):=by show kg _ _=_;rw [HI.out];simp [kg]
  clear J a7;go_wp2_with fail;refine (dS _ p _ _ L R b _ HK.out a6).mono ?_;rintro e w2 ⟨rfl,K⟩;rw [HV.out];have a9:=K.size;have m2:w.heap.size<w2.heap.size:=by omega
  have m3:w.heap.size+1<w2.heap.size:=by omega
  have E:=aj K W (by omega);have d0:=ae E 0;have d1:=ae E 1;have g0:=az E 0;have g1:=az E 1;simp at d0 d1;have B2:=KL (B1.out.trans (K.mono (by omega)));have Z:=KL (HK.out.below K);obtain ⟨q1,q2⟩:=Z.out.cell Y (j:=1) (by omega);rw [<- HS.out] at q1;simp [Lf.cells] at q1;have c0:=ae Z.out.hh 0;have c1:=ae Z.out.hh 1;simp at c0 c1;have hp:=Z.out.hB;simp at hp;have K3:=KL (Z.out.field (x:=Lf.done ⟨bk,3,wt,si,un,rq⟩) (v:=.int .i64 4) (j:=1) Y (by omega) (by rw [<- HS.out];rfl));have n1:p≠g:=by omega
  have n2:g≠p:=by omega
  have n3:g≠w.heap.size+1:=by omega
  have n4:w.heap.size+1≠g:=by omega
  clear E W K z a3 a4 a5;go_wp2;refine LN (v:=.tuple #[.agg #[.slice (some ⟨g,0,none⟩) L.length a2,.slice x2 R.length y2],.int .i64 0]) ?_ rfl ⟨_,_,rfl,aJ (aD (aD K3.out.r1 (by simp) _) (by simp) _) (by simp;omega),aJ (aD (aD K3.out.r2 (by simp) _) (by simp) _) (by simp;omega),((B2.out.setCell (by simp;omega) _).setCell (by simp) _).setCell (by simp) _⟩;simp [results,results116,go_sem, *]
def nF (slot:Int) (x:Fl):Bool:=x.slot == slot
theorem gfind1 (x:Fl) (b:Nat) (slot:Int) (w:World) (h:w.cell? ⟨b,0,none⟩=some (.int .i64 slot)):Calls prog 123 #[Fl.agg x,.pointer (some ⟨b,0,none⟩)] w fun e w'=>e=.returned (.bool (nF slot x))/\Below w.heap.size w w':=by
 obtain ⟨E,I,J,K,U,W,Y⟩:=x;have z:=bV h;unfold Fl.agg;go_in;go_wp2
 all_goals first|(go_ret;exact ⟨rfl,Zb⟩)|exact Zx
theorem mw {p:Nat} {w:World} {X:Wd} {V:Vs} (h:GR p w X V) (slot:Int) (hn:X.flows.length<=1000000) :
  Calls prog 76 #[.pointer (some ⟨p,0,none⟩),.int .i64 slot] w fun e w'=>e=.returned (.int .i64 (aU (nF slot) X.flows))/\Below w.heap.size w w':=by
 have Z:=h.c 18 (v:=V.f) rfl
 obtain ⟨af,cf,z,_⟩:=ap h.2.1
 rw [z] at Z
 have I:=KL h.2.1
 rw [z] at I
 have hp:=h.2.2.2.1
 obtain ⟨J,E⟩:∃ J,J=aU (nF slot) X.flows:=⟨_,rfl⟩
 have K:=KL E
 rw [<- E]
 clear h z E
 go_in
 go_wp2_with fail
 refine (Df 123 ⟨w.heap.size,0,none⟩ (fun _ _=>rfl) (nF slot) _ X.flows _ (ai I.out _) (by omega) (fun Y _ w' U=>gfind1 Y _ slot w' (aC U (by go_simp)))).mono ?_
 rintro e w1 ⟨rfl,W⟩
 rw [<- K.out]
 go_wp2
 go_ret
 exact ⟨rfl,((KM w.heap.size w).alloc (KY _) _).trans (W.mono (by simp))⟩
theorem zU:(prog.info? 3).map (fun i=>(i.zero,i.size,i.bytes))=some (some (.int .i64 0),1,8):=by kernel_rfl
theorem Ie (Y:List Int):(Y.map fun x=>[Value.int .i64 x]).flatten=Y.map (Value.int .i64):=by
 induction Y with
 | nil=>rfl
 | cons y Y ih=>simp [ih]
theorem wk_one (Y:List Int):∀ c∈Y.map fun x=>[Value.int .i64 x],c.length=1:=by
 exact Q28
structure BkG (T:TypeId) (B:Nat) (w:World) (p:Nat) (v1 v2:Value) (L:List Lf) (R:List Rq):Prop where
 hB:B<=p
 hh:w.heap[p]?=some (.cells #[v1,v2] T (0,0))
 o1:w.ownsRow B 173 6 v1 L.length (L.map Lf.cells).flatten
 o2:w.ownsRow B 176 5 v2 R.length (R.map Rq.cells).flatten
 l1:∀ b,v1.ownBlock=some b->b<p
 l2:∀ b,v2.ownBlock=some b->b<p
 dis:∀ b,v1.ownBlock=some b->v2.ownBlock≠some b
theorem BkAt.g {B:Nat} {w:World} {p:Nat} {v1 v2:Value} {L:List Lf} {R:List Rq} (h:BkAt B w p v1 v2 L R):BkG 259 B w p v1 v2 L R:=⟨h.hB,h.hh,h.o1,h.o2,h.l1,h.l2,h.dis⟩
theorem tC {w w':World} {N B e sz n:Nat} {v:Value} {cs:List Value} (K:w.ownsRow B e sz v n cs) (hb:Below N w w') (hl:∀ b,v.ownBlock=some b->b<N):w'.ownsRow B e sz v n cs:=by
 obtain ⟨z,U|⟨h,I,J,E,W,Y,Z⟩⟩:=K
 ·exact ⟨z,Or.inl U⟩
 ·exact ⟨z,Or.inr ⟨h,I,J,E,W,(hb.block _ (hl h (by rw [E];rfl))).trans Y,Z⟩⟩
section
variable {T B p:Nat} {w w':World} {v1 v2:Value} {L:List Lf} {R:List Rq}
theorem BkG.far (h:BkG T B w p v1 v2 L R) {N:Nat} (z:Below N w w') (I:p<N):BkG T B w' p v1 v2 L R:=
 ⟨h.hB,aj z h.hh I,tC h.o1 z (fun E z=>Nat.lt_trans (h.l1 E z) I),tC h.o2 z (fun E z=>Nat.lt_trans (h.l2 E z) I),h.l1,h.l2,h.dis⟩
theorem BkG.r1 (h:BkG T B w p v1 v2 L R):aN B w 6 v1 (L.map Lf.cells):=aG h.o1 (by simp) (jc L)
theorem BkG.r2 (h:BkG T B w p v1 v2 L R):aN B w 5 v2 (R.map Rq.cells):=aG h.o2 (by simp) (nj R)
theorem BkG.addr (h:BkG T B w p v1 v2 L R) {i:Nat} (z:i<L.length):∃ g cap,v1=.slice (some ⟨g,0,none⟩) L.length cap/\B<=g/\g<p:=by
 exact Q118
theorem BkG.cell {g n z:Nat} (h:BkG T B w p (.slice (some ⟨g,0,none⟩) n z) v2 L R) {i j:Nat} (hi:i<L.length) (hj:j<6):w.cell? ⟨g,i*6+j,none⟩=((L.getD i Lf.zero).cells)[j]?/\w.frozen? ⟨g,i*6+j,none⟩=false:=by
 exact Q46
theorem BkG.field {g n z:Nat} (h:BkG T B w p (.slice (some ⟨g,0,none⟩) n z) v2 L R) {i j:Nat} (E:i<L.length) (I:j<6) {x:Lf} {v:Value} (J:x.cells=(L.getD i Lf.zero).cells.set j v) :
  BkG T B (w.setCell ⟨g,i*6+j,none⟩ v) p (.slice (some ⟨g,0,none⟩) n z) v2 (L.set i x) R:=by
 have K:=h.l1 g rfl
 have h1:=h.o1
 have e:n=L.length:=by
  exact Q54
 subst e
 refine ⟨h.hB,aY h.hh (by omega),?_,ownsRow_setCell_other h.o2 (h.dis g rfl) _,h.l1,h.l2,h.dis⟩
 rw [Lq]
 exact tE h.o1 E I J
end
def Lf.wk (now:Int) (x:Lf):Lf:=if x.state=1 then { x with state:=2,since:=now } else x
def sF (now:Int) (L:List Lf) (k:Nat):List Lf:=(L.take k).map (Lf.wk now)++L.drop k
def me (L:List Lf) (k:Nat):List Int:=((L.take k).filter (fun x=>decide (x.state=1))).map Lf.backend
section
variable {now:Int} {L:List Lf} {k:Nat}
theorem AI (h:k<L.length):L.take (k+1)=L.take k++[L.getD k Lf.zero]:=by rw [Li h];simp [List.getD,h]
theorem AJ (h:k<L.length):L.drop k=L.getD k Lf.zero :: L.drop (k+1):=by rw [List.drop_eq_getElem_cons h];simp [List.getD,h]
theorem mP:(sF now L k).length=L.length:=by simp [sF];omega
theorem uu (z:k<L.length):(sF now L k).getD k Lf.zero=L.getD k Lf.zero:=by
 unfold sF;rw [AJ z]
 have h:((L.take k).map (Lf.wk now)).length=k:=by simp;omega
 simp only [List.getD_eq_getElem?_getD];rw [LU (by omega),h,Nat.sub_self]
 rfl
theorem AP (h:k<L.length):(sF now L k).set k ((L.getD k Lf.zero).wk now)=sF now L (k+1):=by
 unfold sF
 have z:((L.take k).map (Lf.wk now)).length=k:=by simp;omega
 rw [List.set_append_right _ _ (by omega),z,Nat.sub_self,AJ h,List.set_cons_zero,AI h];simp
theorem E0 (h:k<L.length) (J:(L.getD k Lf.zero).state≠1):sF now L (k+1)=sF now L k:=by
 rw [<- AP h]
 have z:(L.getD k Lf.zero).wk now=(sF now L k).getD k Lf.zero:=by rw [uu h];unfold Lf.wk;rw [if_neg J]
 rw [z];apply List.ext_getElem?;intro K;rw [List.getElem?_set]
 split
 ·rename_i E;subst E
  have I:k<(sF now L k).length:=by rw [mP];exact h
  simp [List.getD,I]
 ·rfl
theorem AO (hk:k<L.length) (hs:(L.getD k Lf.zero).state=1):me L (k+1)=me L k++[(L.getD k Lf.zero).backend]:=by
 exact Q124
theorem DZ (hk:k<L.length) (hs:(L.getD k Lf.zero).state≠1):me L (k+1)=me L k:=by
 exact Q124
theorem Ig:(me L k).length<=L.length:=by
 unfold me;rw [Lh];exact Lz (List.length_filter_le _ _) (by simp;omega)
theorem Ih:sF now L L.length=L.map (Lf.wk now):=by simp [sF]
theorem E6:sF now L 0=L:=by simp [sF]
end
theorem BkG.wake {T B p:Nat} {w:World} {g n E:Nat} {v2:Value} {L:List Lf} {R:List Rq} {now:Int} {k:Nat} (K:BkG T B w p (.slice (some ⟨g,0,none⟩) n E) v2 (sF now L k) R) (h:k<L.length) (W:(L.getD k Lf.zero).state=1) :
  BkG T B ((w.setCell ⟨g,k*6+1,none⟩ (.int .i64 2)).setCell ⟨g,k*6+3,none⟩ (.int .i64 now)) p (.slice (some ⟨g,0,none⟩) n E) v2 (sF now L (k+1)) R:=by
 have z:k<(sF now L k).length:=by rw [mP];exact h
 have U:=K.field (i:=k) (j:=1) (x:={ (L.getD k Lf.zero) with state:=2 }) (v:=.int .i64 2) z (by omega) (by rw [uu h];rfl)
 have I:=U.field (i:=k) (j:=3) (x:=(L.getD k Lf.zero).wk now) (v:=.int .i64 now) (by rw [Lq];exact z) (by omega) (by
  have J:((sF now L k).set k { (L.getD k Lf.zero) with state:=2 }).getD k Lf.zero={ (L.getD k Lf.zero) with state:=2 }:=by simp [List.getD,z]
  rw [J];unfold Lf.wk;rw [if_pos W];rfl)
 rw [List.set_set,AP h] at I
 exact I
def yP (w wr:World) (T B h p:Nat) (v1 v2:Value) (L:List Lf) (R:List Rq) (now:Int) (k:Nat) (l:Value):Prop:=
 (k<=L.length/\Below w.heap.size w wr/\wr.heap[w.heap.size+1]?=some (.cells #[.slice none 0 0,.slice none 0 0] 45 (0,0))/\BkG T B wr p v1 v2 (sF now L k) R/\p<h/\w.heap.size+1<B/\h<=wr.heap.size)/\
  ∃ (z:Option Addr) (E:Nat),l=.slice z (me L k).length E/\wr.ownsRow h 3 1 (.slice z (me L k).length E) (me L k).length ((me L k).map (Value.int .i64))
theorem Ar {w wr:World} {T B h p:Nat} {v1 v2:Value} {L:List Lf} {R:List Rq} {now:Int} {k:Nat} {l:Value} (I:yP w wr T B h p v1 v2 L R now k l) (z:k<L.length) (E:(L.getD k Lf.zero).state≠1):yP w wr T B h p v1 v2 L R now (k+1) l:=by
 obtain ⟨⟨Z,J,K,U,W⟩,Y⟩:=I;refine ⟨⟨by omega,J,K,?_,W⟩,?_⟩
 ·rw [E0 z E];exact U
 ·rw [DZ z E];exact Y
theorem DS {w wr Y:World} {T B h p g n Z E J:Nat} {v2:Value} {L:List Lf} {R:List Rq} {now:Int} {k:Nat} {a I:Option Addr} {o:Obj} (h2:Below w.heap.size w wr) (h3:wr.heap[w.heap.size+1]?=some (.cells #[.slice none 0 0,.slice none 0 0] 45 (0,0))) (K:BkG T B wr p (.slice (some ⟨g,0,none⟩) n Z) v2 (sF now L k) R) (h5:p<h) (h6:w.heap.size+1<B) (h7:h<=wr.heap.size)
  (ho:wr.ownsRow h 3 1 (.slice a (me L k).length E) (me L k).length ((me L k).map (Value.int .i64))) (U:k<L.length) (W:(L.getD k Lf.zero).state=1)
  (a2:((((wr.setCell ⟨g,k*6+1,none⟩ (.int .i64 2)).setCell ⟨g,k*6+3,none⟩ (.int .i64 now))).alloc o).grownBy Y (Value.slice a (me L k).length E).ownBlock)
  (a4:Y.ownsRow h 3 1 (.slice I ((me L k).length+1) J) ((me L k).length+1) ((me L k).map (Value.int .i64)++[.int .i64 (L.getD k Lf.zero).backend])) :
  yP w Y T B h p (.slice (some ⟨g,0,none⟩) n Z) v2 L R now (k+1) (.slice I ((me L k).length+1) J):=by
 have a6:=K.l1 g rfl
 have a5:B<=g:=by
  have:=K.o1.lt g rfl;exact this.1
 have hw:=K.wake U W
 have ha:∀ b,(Value.slice a (me L k).length E).ownBlock=some b->h<=b:=fun b hb=>(ho.lt b hb).1
 have a0:(Value.slice a (me L k).length E).ownBlock≠some g:=fun e=>by have:=ha g e;omega
 have a3:=ownsRow_setCell_other (ownsRow_setCell_other ho (a:=⟨g,k*6+1,none⟩) a0 (.int .i64 2)) (a:=⟨g,k*6+3,none⟩) a0 (.int .i64 now)
 have z:=cP (B:=h) ((KM _ _).alloc (KY _) o) (by simpa using h7) a3 a2
 have a1:Below w.heap.size w ((wr.setCell ⟨g,k*6+1,none⟩ (.int .i64 2)).setCell ⟨g,k*6+3,none⟩ (.int .i64 now)):=(h2.setCell (by simp;omega) _).setCell (by simp;omega) _
 refine ⟨⟨by omega,a1.trans (z.mono (by omega)),aj z (aY (aY h3 (by omega)) (by omega)) (by omega),hw.far z h5,h5,h6,?_⟩,I,J,?_,?_⟩
 ·exact Lz (by simpa using h7) z.size
 ·rw [AO U W];simp
 ·rw [AO U W,LG];simpa using a4
def Kz (L:List Lf) (R:List Rq) (now:Int) (L':List Lf) (R':List Rq) (Y:List Int) (code:Int):Prop:=(¬ bJ L R/\L'=[]/\R'=[]/\Y=[]/\code=6)\/(bJ L R/\(now<0\/(0<=now/\1099511627776<now))/\L'=[]/\R'=[]/\Y=[]/\code=2)\/
 (bJ L R/\0<=now/\now<=1099511627776/\L'=L.map (Lf.wk now)/\R=R'/\Y=me L L.length/\code=0)
def JT (w:World) (L:List Lf) (R:List Rq) (z:List Int) (code:Int) (e:Ending) (w':World):Prop:=∃ v1 v2 h,e=.returned (.tuple #[.agg #[v1,v2],h,.int .i64 code])/\aN w.heap.size w' 6 v1 (L.map Lf.cells)/\aN w.heap.size w' 5 v2 (R.map Rq.cells)/\aN w.heap.size w' 1 h (z.map fun x=>[Value.int .i64 x])/\Below w.heap.size w w'
theorem rh (vl vr:Value) (L:List Lf) (R:List Rq) (now:Int) (L':List Lf) (R':List Rq) (Y:List Int) (code:Int) (w:World) (hl:aK w 6 vl (L.map Lf.cells)) (hr:aK w 5 vr (R.map Rq.cells)) (h:Kz L R now L' R' Y code) :
  Calls prog 73 #[.agg #[vl,vr],.int .i64 now] w (JT w L' R' Y code):=by
 obtain ⟨i0,ji,ji0,ji1,ji2⟩:=info_parts zU
 have HL:=KL hl
 have HR:=KL hr
 obtain ⟨a,c,rfl,_⟩:=ap hl
 obtain ⟨a',c',rfl,_⟩:=ap hr
 clear hl hr
 rcases h with ⟨hm,rfl,rfl,rfl,rfl⟩|⟨hm,hnow,rfl,rfl,rfl,rfl⟩|⟨hm,t1,t2,rfl,rfl,rfl,rfl⟩
 ·have H:=KL hm;clear hm;go_in;go_wp2_with fail;refine (gQ _ _ L R _ (ai (ai HL.out _) _) (ai (ai HR.out _) _) H.out).mono ?_;rintro e w1 ⟨rfl,hb1⟩;obtain ⟨hc1,hf1⟩:=aX hb1;have hz1:=fX hb1;have hy1:=hb1.size;simp at hy1;have m0:w.heap.size<w1.heap.size:=(by omega);have m1:w.heap.size+1<w1.heap.size:=(by omega);have hN1:w1.heap[w.heap.size+1]?=some (.cells #[.slice none 0 0,.slice none 0 0] 45 (0,0)):=aj hb1 (aB (w:=World.alloc _ _) _ (by simp)) (by simp);go_wp2;refine LN (v:=.tuple #[.agg #[.slice none 0 0,.slice none 0 0],.slice none 0 0,.int .i64 6]) ?_ rfl ⟨_,_,_,rfl,bH _ _ _,bH _ _ _,bH _ _ _,Zb⟩;simp [results,results73,go_sem, *]
 ·have H:=KL hm;clear hm;rcases hnow with t1|⟨t1,t2⟩
  all_goals
   go_in
   go_wp2_with fail
   refine (cV _ _ L R _ (ai (ai HL.out _) _) (ai (ai HR.out _) _) H.out).mono ?_
   rintro e w1 ⟨p,v1,v2,rfl,K1,hb1⟩
   clear K1
   obtain ⟨hc1,hf1⟩:=aX hb1;have hz1:=fX hb1;have hy1:=hb1.size;simp at hy1;have m0:w.heap.size<w1.heap.size:=(by omega);have m1:w.heap.size+1<w1.heap.size:=(by omega);have hN1:w1.heap[w.heap.size+1]?=some (.cells #[.slice none 0 0,.slice none 0 0] 45 (0,0)):=aj hb1 (aB (w:=World.alloc _ _) _ (by simp)) (by simp)
   go_wp2
   refine LN (v:=.tuple #[.agg #[.slice none 0 0,.slice none 0 0],.slice none 0 0,.int .i64 2]) ?_ rfl ⟨_,_,_,rfl,bH _ _ _,bH _ _ _,bH _ _ _,Zb⟩
   simp [results,results73,go_sem, *]
 ·have H:=KL hm;have h12:=hm.1;clear hm;go_in;go_wp2_with fail;refine (cV _ _ L R _ (ai (ai HL.out _) _) (ai (ai HR.out _) _) H.out).mono ?_;rintro e w1 ⟨p,v1,v2,rfl,K1,hb1⟩;obtain ⟨a1,c1,rfl,_⟩:=aE K1.o1;obtain ⟨a2,c2,rfl,_⟩:=aE K1.o2;have B1:=(((KM w.heap.size w).alloc (KY _) (.cells #[.slice a L.length c,.slice a' R.length c'] 45)).alloc (by simp) (.cells #[.slice none 0 0,.slice none 0 0] 45)).trans (hb1.mono (by simp;omega));obtain ⟨hc1,hf1⟩:=aX hb1;have hz1:=fX hb1;have hy1:=hb1.size;simp at hy1;have m0:w.heap.size<w1.heap.size:=(by omega);have m1:w.heap.size+1<w1.heap.size:=(by omega);have hN1:w1.heap[w.heap.size+1]?=some (.cells #[.slice none 0 0,.slice none 0 0] 45 (0,0)):=aj hb1 (aB (w:=World.alloc _ _) _ (by simp)) (by simp);obtain ⟨B2,hB2⟩:∃ B2,B2=w1.heap.size:=⟨_,rfl⟩;have HR0:Hid (yP w w1 259 (w.heap.size+1+1) B2 p (.slice a1 L.length c1) (.slice a2 R.length c2) L R now 0 (.slice none 0 0)):=⟨⟨La _,B1,hN1,by rw [E6];simpa using K1.g,by rw [hB2];exact K1.lt,by omega,by omega⟩,none,0,rfl,LJ _ _ _ _⟩;have c0:=ae K1.hh 0;simp at c0;clear hN1 K1 B1 hB2 hb1 hc1 hf1 hz1 hy1;go_wp2_with fail;go_loopw [9,34] (fun l i wr=>∃ k:Nat,i=.int .i64 k/\yP w wr 259 (w.heap.size+1+1) B2 p (.slice a1 L.length c1) (.slice a2 R.length c2) L R now k l) (fun _ i _=>L.length - (intOf i).toNat)
  case atStart=>exact ⟨0,rfl,HR0.out⟩
  case round=>
   clear HR0;obtain ⟨k,rfl,hrel⟩:=hrel;have HR:=KL hrel;obtain ⟨⟨hk,hb,hN,hK,hp,hB0,hB2⟩,a,cap,rfl,hown⟩:=hrel;have HB:=KL hb;have HK:=KL hK;have HO:=KL hown;have HN:=KL hN;have c0:=ae hK.hh 0;have c1':=ae hK.hh 1;simp at c0 c1';have hlY:=Ig (L:=L) (k:=k);rcases (show k<L.length\/L.length=k by omega) with hlt|heq
   ·have hlt':(k:Int)<(L.length:Int):=by omega
    have p0:(0:Int)<=(k:Int):=by omega
    obtain ⟨g,cp,hv,hg1,hg2⟩:=hK.addr (i:=k) (by rw [mP];exact hlt);rw [mP] at hv;simp only [Value.slice.injEq] at hv;obtain ⟨rfl,_,rfl⟩:=hv
    have q:∀ j,j<6->wr.cell? ⟨g,k*6+j,none⟩=((L.getD k Lf.zero).cells)[j]?/\wr.frozen? ⟨g,k*6+j,none⟩=false:=fun j hj=>by
     have:=hK.cell (i:=k) (by rw [mP];exact hlt) hj;rw [uu hlt] at this;exact this
    obtain ⟨s,hs⟩:∃ s,s=L.getD k Lf.zero:=⟨_,rfl⟩;rw [<- hs] at q;have HS:=KL hs;clear hs hb hN hK hown;obtain ⟨bk,st,wt,sn,un,rq⟩:=s;obtain ⟨q0,_⟩:=q 0 (by omega);obtain ⟨q1,f1⟩:=q 1 (by omega);obtain ⟨q3,f3⟩:=q 3 (by omega);simp [Lf.cells] at q0 q1 q3;clear q;by_cases h1:st=1
    ·subst h1
     have hs1:Hid ((L.getD k Lf.zero).state=1):=by rw [<- HS.out];rfl
     have hbk:Hid ((L.getD k Lf.zero).backend=bk):=by show _=_;rw [<- HS.out]
     have lb:=bV q0
     have hne:Hid ((Value.slice a (me L k).length cap).ownBlock≠some g):=fun e=>by have:=(HO.out.lt g e).1;omega
     have O2:=KL (ownsRow_setCell_other (ownsRow_setCell_other HO.out (a:=⟨g,k*6+1,none⟩) hne.out (.int .i64 2)) (a:=⟨g,k*6+3,none⟩) hne.out (.int .i64 now));have n1:p≠g:=by omega
     have n2:g≠p:=by omega
     go_wp2_with (at_builtin;go_loud (refine wpList_append_own _ rfl _ _ 124 rfl B2 3 i0 (.int .i64 0) 1 8 underlying124 ji ji0 ji1 ji2 rfl (by decide) _ (me L k).length _ rfl (O2.out.alloc _) ⟨wr.heap.size,0,none⟩ 1 1 [.int .i64 bk] rfl rfl (fO (by simp) [.int .i64 bk] 3) ?c1 ?c2 ?c3 ?c4 ?_))
     case c1=>first|rfl|(intro u hu;simp at hu;subst hu;rfl)
     case c2=>unfold maxLen;omega
     case c3=>omega
     case c4=>first|omega|(simp;omega)
     intro v' w1 hown' hgrow _;obtain ⟨a',cap',rfl,_,_⟩:=aE hown';have S:=KL (DS HB.out HN.out HK.out hp hB0 hB2 HO.out hlt hs1.out hgrow (by rw [hbk.out];exact hown'));clear hown' hgrow;exact Q143
    ·have e1:(st == 1)=false:=by simpa using h1
     have S:=KL (Ar HR.out hlt (by rw [<- HS.out];exact h1));clear h1;exact Q143
   ·have hge:¬ (k:Int)<(L.length:Int):=by omega
    have d0:=ae hN 0;have d1:=ae hN 1;have g0:=az hN 0;have g1:=az hN 1;simp at d0 d1;have lN:=lt_of_block hN;have hpB:=hK.hB
    have X1:Hid (aN (w.heap.size+1+1) wr 6 (.slice a1 L.length c1) ((L.map (Lf.wk now)).map Lf.cells)):=by have:=HK.out.r1;rw [<- heq,Ih] at this;exact this
    have X2:=KL HK.out.r2
    have X3:Hid (aN B2 wr 1 (.slice a (me L k).length cap) ((me L L.length).map fun x=>[Value.int .i64 x])):=by
     rw [heq];exact aG (e:=3) (n:=(me L k).length) (by rw [Ie];exact HO.out) (by simp) (wk_one _)
    clear hb hN hK hown heq;go_wp2;refine LN (v:=.tuple #[.agg #[.slice a1 L.length c1,.slice a2 R.length c2],.slice a (me L k).length cap,.int .i64 0]) ?_ rfl ⟨_,_,_,rfl,aJ (aD (aD X1.out Zs _) Zs _) Zs,aJ (aD (aD X2.out Zs _) Zs _) Zs,aJ (aD (aD X3.out Zs _) Zs _) Zs,(HB.out.setCell Zs _).setCell Zs _⟩;simp [results,results73,go_sem, *]
end
end Go.Proofs.YtennppmadmgfoaaGreatDoor
