/- Texts of the row's proof. Conditions: none. -/
import Derived.Test.YtfliffgmeobclaaGreatK11
import Derived.Test.YtfliffgmeobclaaGreatK14
import Derived.Test.YtfliffgmeobclaaGreatK16
namespace Go.Proofs.YtfliffgmeobclaaGreat
set_option maxRecDepth 100000
set_option maxHeartbeats 8000000
section
open Go.RowKit
theorem Q58 {p:Prop} (h:p:=by
 rcases h1.2 with ⟨e,_⟩|⟨_,_,_,e,_⟩
 ·cases e
 ·simp only [Value.slice.injEq] at e;exact e.2.1):p:=h
theorem Q91 {p:Prop} (h:p:=by
 go_wp2;refine Ix (v:=.tuple #[.agg #[.slice none 0 0,.slice none 0 0],.int .i64 8]) ?_ rfl ⟨_,_,rfl,bD _ _ _,bD _ _ _,Zb⟩;simp [results,Tryz.results112,go_sem, *]):p:=h
theorem Q138 {p:Prop} (h:p:=by
 unfold lD;rw [yU hk,List.filter_append,Ir];generalize L.getD k Lf.zero=s at hs;simp [hs]):p:=h
theorem Q156 {p:Prop} (h:p:=by
 go_wp2;go_roundw
 case rel=>exact ⟨k+1,by go_num,S.out⟩
 case measure=>simp [intOf];omega):p:=h
def xq (L:List Lf) (R:List Rq) (b:Int) (x:Lf) (code:Int):Prop:=(¬ bF L R∧x=Lf.zero∧code=6)∨(bF L R∧aQ (cE b) L=-1∧x=Lf.zero∧code=8)∨(bF L R∧(∃ i:Nat,i<L.length∧aQ (cE b) L=i∧x=L.getD i Lf.zero)∧code=0)
theorem oF (L:List Lf) (R:List Rq) (b:Int):∃ x code,xq L R b x code:=by
 by_cases h:bF L R
 ·rcases bJ (cE b) L Lf.zero with ⟨hi,_⟩|⟨i,hi,he,_⟩
  ·exact ⟨_,_,Or.inr (Or.inl ⟨h,hi,rfl,rfl⟩)⟩
  ·exact ⟨_,_,Or.inr (Or.inr ⟨h,⟨i,hi,he,rfl⟩,rfl⟩)⟩
 ·exact ⟨_,_,Or.inl ⟨h,rfl,rfl⟩⟩
theorem iG (vl vr:Value) (L:List Lf) (R:List Rq) (b:Int) (x:Lf) (code:Int) (w:World) (hl:aI w 6 vl (L.map Lf.cells)) (hr:aI w 5 vr (R.map Rq.cells)) (h:xq L R b x code) :
  Calls Tryz.prog 70 #[.agg #[vl,vr],.int .i64 b] w fun e w'=>e=.returned (.tuple #[Lf.agg x,.int .i64 code])∧Below w.heap.size w w':=by
 have HL:=Hu hl
 have HR:=Hu hr
 obtain ⟨a,c,rfl,_⟩:=aq hl
 obtain ⟨a',c',rfl,_⟩:=aq hr
 clear hl hr
 rcases h with ⟨h,rfl,rfl⟩|⟨h,hi,rfl,rfl⟩|⟨h,⟨i,hi,he,rfl⟩,rfl⟩
 ·have H:=Hu h;clear h;go_enter Tryz.func70,Tryz.ntmps70;go_wp2_with fail;refine (gJ _ _ L R _ (ai (ai HL.out _) _) (ai (ai HR.out _) _) H.out).mono ?_;rintro e w1 ⟨rfl,hb1⟩;obtain ⟨hc1,hf1⟩:=aV hb1;have hz1:=fQ hb1;have hy1:=hb1.size;simp at hy1;have m0:w.heap.size<w1.heap.size:=(by omega);have m1:w.heap.size+1<w1.heap.size:=(by omega);have hN1:w1.heap[w.heap.size+1]?=some (.cells #[.int .i64 0,.int .i64 0,.int .i64 0,.int .i64 0,.int .i64 0,.int .i64 0] 94 (0,0)):=aj hb1 (az (w:=World.alloc _ _) _ (by simp)) (by simp);go_wp2;refine Ix (v:=.tuple #[.agg #[.int .i64 0,.int .i64 0,.int .i64 0,.int .i64 0,.int .i64 0,.int .i64 0],.int .i64 6]) ?_ rfl ?_;(focus (first|(simp [results,Tryz.results70,go_sem];done)|(simp [results,Tryz.results70,go_sem, *];done)));exact ⟨rfl,Zb⟩
 ·have H:=Hu h;have HI:=Hu hi;have h12:=h.1;clear h hi;go_enter Tryz.func70,Tryz.ntmps70;go_wp2_with fail;refine (cP _ _ L R _ (ai (ai HL.out _) _) (ai (ai HR.out _) _) H.out).mono ?_;rintro e w1 ⟨p,v1,v2,rfl,K1,hb1⟩;obtain ⟨hc1,hf1⟩:=aV hb1;have hz1:=fQ hb1;have hy1:=hb1.size;simp at hy1;have m0:w.heap.size<w1.heap.size:=(by omega);have m1:w.heap.size+1<w1.heap.size:=(by omega);have hN1:w1.heap[w.heap.size+1]?=some (.cells #[.int .i64 0,.int .i64 0,.int .i64 0,.int .i64 0,.int .i64 0,.int .i64 0] 94 (0,0)):=aj hb1 (az (w:=World.alloc _ _) _ (by simp)) (by simp);have HK:=Hu K1;have hs:=aC K1.o1
  have HV:Hid (jR v1 (aQ (cE b) L)=.pointer none):=by obtain ⟨a,cap,rfl,_⟩:=hs;show jR _ _=_;rw [HI.out];cases a<;>simp [jR]
  clear K1 hs;go_wp2_with fail;refine (dP _ p v1 v2 L R b _ HK.out h12).mono ?_;rintro e w2 ⟨rfl,hb2⟩;rw [HV.out];obtain ⟨hc2,hf2⟩:=aV hb2;have hz2:=fQ hb2;have hy2:=hb2.size;have m2:w.heap.size<w2.heap.size:=by omega
  have m3:w.heap.size+1<w2.heap.size:=by omega
  have hN:w2.heap[w.heap.size+1]?=some (.cells #[.int .i64 0,.int .i64 0,.int .i64 0,.int .i64 0,.int .i64 0,.int .i64 0] 94 (0,0)):=aj hb2 hN1 (by omega);have d0:=ae hN 0;have g0:=ap hN 0;have d1:=ae hN 1;have g1:=ap hN 1;have d2:=ae hN 2;have g2:=ap hN 2;have d3:=ae hN 3;have g3:=ap hN 3;have d4:=ae hN 4;have g4:=ap hN 4;have d5:=ae hN 5;have g5:=ap hN 5;simp at d0 d1 d2 d3 d4 d5;clear hN hN1;go_wp2;refine Ix (v:=.tuple #[.agg #[.int .i64 0,.int .i64 0,.int .i64 0,.int .i64 0,.int .i64 0,.int .i64 0],.int .i64 8]) ?_ rfl ?_;(focus (first|(simp [results,Tryz.results70,go_sem];done)|(simp [results,Tryz.results70,go_sem, *];done)));exact ⟨rfl,Zb⟩
 ·have H:=Hu h;have HI:=Hu he;have h12:=h.1;clear h he;obtain ⟨s,hs⟩:∃ s,s=L.getD i Lf.zero:=⟨_,rfl⟩;rw [← hs];have HS:=Hu hs;clear hs;obtain ⟨bk,st,wt,si,un,rq⟩:=s;go_enter Tryz.func70,Tryz.ntmps70;go_wp2_with fail;refine (cP _ _ L R _ (ai (ai HL.out _) _) (ai (ai HR.out _) _) H.out).mono ?_;rintro e w1 ⟨p,v1,v2,rfl,K1,hb1⟩;obtain ⟨hc1,hf1⟩:=aV hb1;have hz1:=fQ hb1;have hy1:=hb1.size;simp at hy1;have m0:w.heap.size<w1.heap.size:=(by omega);have m1:w.heap.size+1<w1.heap.size:=(by omega);have hN1:w1.heap[w.heap.size+1]?=some (.cells #[.int .i64 0,.int .i64 0,.int .i64 0,.int .i64 0,.int .i64 0,.int .i64 0] 94 (0,0)):=aj hb1 (az (w:=World.alloc _ _) _ (by simp)) (by simp);obtain ⟨g,cap,rfl,hg1,hg2⟩:=K1.addr hi;have HK:=Hu K1
  have HV:Hid (jR (.slice (some ⟨g,0,none⟩) L.length cap) (aQ (cE b) L)=.pointer (some ⟨g,i*6,none⟩)):=by show jR _ _=_;rw [HI.out];simp [jR]
  clear K1;go_wp2_with fail;refine (dP _ p _ v2 L R b _ HK.out h12).mono ?_;rintro e w2 ⟨rfl,hb2⟩;rw [HV.out];obtain ⟨hc2,hf2⟩:=aV hb2;have hz2:=fQ hb2;have hy2:=hb2.size;have m2:w.heap.size<w2.heap.size:=by omega
  have m3:w.heap.size+1<w2.heap.size:=by omega
  have hN:w2.heap[w.heap.size+1]?=some (.cells #[.int .i64 0,.int .i64 0,.int .i64 0,.int .i64 0,.int .i64 0,.int .i64 0] 94 (0,0)):=aj hb2 hN1 (by omega);have d0:=ae hN 0;have g0:=ap hN 0;have d1:=ae hN 1;have g1:=ap hN 1;have d2:=ae hN 2;have g2:=ap hN 2;have d3:=ae hN 3;have g3:=ap hN 3;have d4:=ae hN 4;have g4:=ap hN 4;have d5:=ae hN 5;have g5:=ap hN 5;simp at d0 d1 d2 d3 d4 d5;clear hN hN1;have K2:=HK.out.below hb2;have q:∀ j,j<6→w2.cell? ⟨g,i*6+j,none⟩=((L.getD i Lf.zero).cells)[j]?:=fun j hj=>(K2.cell hi hj).1;rw [← HS.out] at q;have q0:=q 0 (by omega);have q1:=q 1 (by omega);have q2:=q 2 (by omega);have q3:=q 3 (by omega);have q4:=q 4 (by omega);have q5:=q 5 (by omega);simp only [Lf.cells,I5,I6,Nat.add_zero] at q0 q1 q2 q3 q4 q5;clear q K2;go_wp2;refine Ix (v:=.tuple #[.agg #[.int .i64 bk,.int .i64 st,.int .i64 wt,.int .i64 si,.int .i64 un,.int .i64 rq],.int .i64 0]) ?_ rfl ?_;(focus (first|(simp [results,Tryz.results70,go_sem];done)|(simp [results,Tryz.results70,go_sem, *];done)));exact ⟨rfl,Zb⟩
theorem fP {sz:Nat} (v:Value) {j:Nat} (hj:j<sz):∀ {L:List (List Value)},(∀ c∈L,c.length=sz)→∀ {i:Nat},i<L.length→L.flatten.set (i*sz+j) v=(L.set i ((L.getD i []).set j v)).flatten:=by
 intro L
 induction L with
 | nil=>intro _ i hi;simp at hi
 | cons c L ih=>
  intro h i hi;have hc:=h c Im
  cases i with
  | zero=>
   simp only [Nat.zero_mul,Nat.zero_add,List.flatten_cons,List.set_cons_zero,List.getD_cons_zero];rw [List.set_append_left _ _ (by omega)]
  | succ i=>
   have e:(i+1)*sz+j=c.length+(i*sz+j):=by rw [hc,Nat.add_mul];omega
   simp only [List.flatten_cons,List.set_cons_succ,List.getD_cons_succ];rw [e,List.set_append_right _ _ (by omega),Nat.add_sub_cancel_left,ih (fun d hd=>h d (Ip _ hd)) (by simpa using hi)]
theorem sd {w:World} {B e g n cap:Nat} {L:List Lf} {i j:Nat} {x:Lf} {v:Value} (h:w.ownsRow B e 6 (.slice (some ⟨g,0,none⟩) n cap) n (L.map Lf.cells).flatten) (hi:i<L.length) (hj:j<6) (hx:x.cells=(L.getD i Lf.zero).cells.set j v) :
  (w.setCell ⟨g,i*6+j,none⟩ v).ownsRow B e 6 (.slice (some ⟨g,0,none⟩) n cap) n ((L.set i x).map Lf.cells).flatten:=by
 have h1:=(h.stored (i*6+j) v).1
 rw [fP v hj (j5 L) (by simpa using hi)] at h1
 rw [List.map_set,hx]
 simpa [List.getD,hi] using h1
theorem BkAt.field {B:Nat} {w:World} {p g cap:Nat} {v2 v:Value} {L:List Lf} {R:List Rq} {i j:Nat} {x:Lf} (h:BkAt B w p (.slice (some ⟨g,0,none⟩) L.length cap) v2 L R) (hi:i<L.length) (hj:j<6) (hx:x.cells=(L.getD i Lf.zero).cells.set j v) :
  BkAt B (w.setCell ⟨g,i*6+j,none⟩ v) p (.slice (some ⟨g,0,none⟩) L.length cap) v2 (L.set i x) R:=by
 have hg:=h.l1 g rfl
 refine ⟨h.hB,aU h.hh (by omega),?_,ownsRow_setCell_other h.o2 (h.dis g rfl) _,h.l1,h.l2,h.dis⟩
 rw [Ig]
 exact sd h.o1 hi hj hx
def dt (L:List Lf) (b:Int):Option Lf:=L.find? (cE b)
def gL (L:List Lf) (b:Int):Int:=((dt L b).map Lf.state).getD 0
theorem fH (L:List Lf) (b:Int):(aQ (cE b) L=-1→dt L b=none)∧∀ i:Nat,aQ (cE b) L=i→i<L.length→dt L b=some (L.getD i Lf.zero):=by
 unfold dt;rcases bJ (cE b) L Lf.zero with ⟨h1,h2⟩|⟨i,hi,h1,h2,h3⟩
 ·exact ⟨fun _=>List.find?_eq_none.2 (fun x hx=>by simp [h2 x hx]),fun j hj _=>by omega⟩
 ·refine ⟨fun h=>by omega,fun j hj _=>?_⟩;obtain rfl:j=i:=by omega
  have e:L=L.take j++(L.getD j Lf.zero :: L.drop (j+1)):=by
   have:L.getD j Lf.zero=L[j]:=by simp [List.getD,hi]
   rw [this,List.getElem_cons_drop,Io]
  generalize L.getD j Lf.zero=x at h2 e;rw [e,List.find?_append,List.find?_eq_none.2 (fun y hy=>by simp [h3 y hy]),List.find?_cons_of_pos h2]
  rfl
theorem xp {L:List Lf} {R:List Rq} {b:Int} {x:Lf} {code:Int} (hm:bF L R) (h:xq L R b x code):(code=8∧dt L b=none∧x=Lf.zero)∨(code=0∧dt L b=some x):=by
 rcases h with ⟨h,_⟩|⟨_,h,hx,hc⟩|⟨_,⟨i,hi,h,hx⟩,hc⟩
 ·exact absurd hm h
 ·exact Or.inl ⟨hc,(fH L b).1 h,hx⟩
 ·exact Or.inr ⟨hc,by rw [hx];exact (fH L b).2 i h hi⟩
theorem GR.c {p:Nat} {w:World} {X:Wd} {V:Vs} (h:GR p w X V) (i:Nat) {v:Value} (hv:(dj X V)[i]?=some v):w.cell? ⟨p,i,none⟩=some v:=h.2.2.2.2 i v hv
theorem dY {p:Nat} {w:World} {X:Wd} {V:Vs} (h:GR p w X V) (b:Int) (hm:bF X.lives X.reqs) :
  Calls Tryz.prog 64 #[.pointer (some ⟨p,0,none⟩),.int .i64 b] w fun e w'=>e=.returned (.int .i64 (gL X.lives b))∧Below w.heap.size w w':=by
 have x19:=h.c 19 (v:=V.l) rfl
 have x20:=h.c 20 (v:=V.r) rfl
 obtain ⟨al,cl,el,_⟩:=aq h.1.li.1
 obtain ⟨ar,cr,er,_⟩:=aq h.1.re.1
 rw [el] at x19
 rw [er] at x20
 have HL:=Hu h.1.li.1
 have HR:=Hu h.1.re.1
 rw [el] at HL
 rw [er] at HR
 obtain ⟨x,code,ha⟩:=oF X.lives X.reqs b
 have HA:=Hu ha
 have hs:=xp hm ha
 have hp:=h.2.2.2.1
 obtain ⟨r,hr⟩:∃ r,r=gL X.lives b:=⟨_,rfl⟩
 rw [← hr]
 rcases hs with ⟨rfl,hs,rfl⟩|⟨rfl,hs⟩
 ·obtain rfl:r=0:=by rw [hr];unfold gL;rw [hs];rfl
  clear h hm ha hs hr el er;go_enter Tryz.func64,Tryz.ntmps64;go_wp2_with (go_at_call 70;refine (iG _ _ X.lives X.reqs b Lf.zero 8 _ HL.out HR.out HA.out).mono ?_;rintro e w1 ⟨he,hb1⟩;simp only [Lf.agg,Lf.zero] at he;subst he;obtain ⟨hc1,hf1⟩:=aV hb1);go_ret;exact ⟨rfl,hb1.alloc hb1.size _⟩
 ·obtain ⟨x0,x1,x2,x3,x4,x5⟩:=x
  obtain rfl:r=x1:=by rw [hr];unfold gL;rw [hs];rfl
  clear h hm ha hs hr el er;go_enter Tryz.func64,Tryz.ntmps64;go_wp2_with (go_at_call 70;refine (iG _ _ X.lives X.reqs b ⟨x0,r,x2,x3,x4,x5⟩ 0 _ HL.out HR.out HA.out).mono ?_;rintro e w1 ⟨he,hb1⟩;simp only [Lf.agg] at he;subst he;obtain ⟨hc1,hf1⟩:=aV hb1);go_ret;exact ⟨rfl,hb1.alloc hb1.size _⟩
def Lf.done (x:Lf):Lf:={ x with state:=4 }
def Hp (L:List Lf) (R:List Rq) (b:Int) (L':List Lf) (R':List Rq) (code:Int):Prop:=(¬ bF L R∧L'=[]∧R'=[]∧code=6)∨(bF L R∧aQ (cE b) L=-1∧L'=[]∧R'=[]∧code=8)∨
 (bF L R∧(∃ i:Nat,i<L.length∧aQ (cE b) L=i∧(L.getD i Lf.zero).state≠3)∧L'=[]∧R'=[]∧code=8)∨
 (bF L R∧(∃ i:Nat,i<L.length∧aQ (cE b) L=i∧(L.getD i Lf.zero).state=3∧L'=L.set i (L.getD i Lf.zero).done)∧R=R'∧code=0)
def GT (w:World) (L:List Lf) (R:List Rq) (code:Int) (e:Ending) (w':World):Prop:=∃ v1 v2,e=.returned (.tuple #[.agg #[v1,v2],.int .i64 code])∧aM w.heap.size w' 6 v1 (L.map Lf.cells)∧aM w.heap.size w' 5 v2 (R.map Rq.cells)∧Below w.heap.size w w'
theorem Au (vl vr:Value) (L:List Lf) (R:List Rq) (b:Int) (L':List Lf) (R':List Rq) (code:Int) (w:World) (hl:aI w 6 vl (L.map Lf.cells)) (hr:aI w 5 vr (R.map Rq.cells)) (h:Hp L R b L' R' code) :
  Calls Tryz.prog 112 #[.agg #[vl,vr],.int .i64 b] w (GT w L' R' code):=by
 have HL:=Hu hl
 have HR:=Hu hr
 obtain ⟨a,c,rfl,_⟩:=aq hl
 obtain ⟨a',c',rfl,_⟩:=aq hr
 clear hl hr
 by_cases hm:bF L R
 rotate_left
 ·have H:=Hu hm
  obtain ⟨rfl,rfl,rfl⟩:L'=[]∧R'=[]∧code=6:=by
   exact Q154
  clear h hm;go_enter Tryz.func112,Tryz.ntmps112;go_wp2_with fail;refine (gJ _ _ L R _ (ai (ai HL.out _) _) (ai (ai HR.out _) _) H.out).mono ?_;rintro e w1 ⟨rfl,hb1⟩;obtain ⟨hc1,hf1⟩:=aV hb1;have hz1:=fQ hb1;have hy1:=hb1.size;simp at hy1;have m0:w.heap.size<w1.heap.size:=(by omega);have m1:w.heap.size+1<w1.heap.size:=(by omega);have hN1:w1.heap[w.heap.size+1]?=some (.cells #[.slice none 0 0,.slice none 0 0] 52 (0,0)):=aj hb1 (az (w:=World.alloc _ _) _ (by simp)) (by simp);go_wp2;refine Ix (v:=.tuple #[.agg #[.slice none 0 0,.slice none 0 0],.int .i64 6]) ?_ rfl ⟨_,_,rfl,bD _ _ _,bD _ _ _,Zb⟩;simp [results,Tryz.results112,go_sem, *]
 have H:=Hu hm
 have h12:=hm.1
 rcases h with ⟨h,_⟩|⟨_,hi,rfl,rfl,rfl⟩|⟨_,⟨i,hi,he,hs⟩,rfl,rfl,rfl⟩|⟨_,⟨i,hi,he,hs,rfl⟩,rfl,rfl⟩
 ·exact absurd hm h
 ·have HI:=Hu hi;clear hi hm;go_enter Tryz.func112,Tryz.ntmps112;go_wp2_with fail;refine (cP _ _ L R _ (ai (ai HL.out _) _) (ai (ai HR.out _) _) H.out).mono ?_;rintro e w1 ⟨p,v1,v2,rfl,K1,hb1⟩;obtain ⟨hc1,hf1⟩:=aV hb1;have hz1:=fQ hb1;have hy1:=hb1.size;simp at hy1;have m0:w.heap.size<w1.heap.size:=(by omega);have m1:w.heap.size+1<w1.heap.size:=(by omega);have hN1:w1.heap[w.heap.size+1]?=some (.cells #[.slice none 0 0,.slice none 0 0] 52 (0,0)):=aj hb1 (az (w:=World.alloc _ _) _ (by simp)) (by simp);have HK:=Hu K1;have hs:=aC K1.o1
  have HV:Hid (jR v1 (aQ (cE b) L)=.pointer none):=by obtain ⟨a,cap,rfl,_⟩:=hs;show jR _ _=_;rw [HI.out];cases a<;>simp [jR]
  clear K1 hs;go_wp2_with fail;refine (dP _ p v1 v2 L R b _ HK.out h12).mono ?_;rintro e w2 ⟨rfl,hb2⟩;rw [HV.out];have hy2:=hb2.size;have m2:w.heap.size<w2.heap.size:=by omega
  have m3:w.heap.size+1<w2.heap.size:=by omega
  have hN:=aj hb2 hN1 (by omega);have d0:=ae hN 0;have d1:=ae hN 1;have g0:=ap hN 0;have g1:=ap hN 1;simp at d0 d1;clear hN hN1;exact Q91
 ·have HI:=Hu he;obtain ⟨s,hs'⟩:∃ s,s=L.getD i Lf.zero:=⟨_,rfl⟩;rw [← hs'] at hs;have HS:=Hu hs';obtain ⟨bk,st,wt,si,un,rq⟩:=s;simp only at hs;have e1:(st != 3)=true:=by simpa using hs
  clear he hm hs hs';go_enter Tryz.func112,Tryz.ntmps112;go_wp2_with fail;refine (cP _ _ L R _ (ai (ai HL.out _) _) (ai (ai HR.out _) _) H.out).mono ?_;rintro e w1 ⟨p,v1,v2,rfl,K1,hb1⟩;obtain ⟨hc1,hf1⟩:=aV hb1;have hz1:=fQ hb1;have hy1:=hb1.size;simp at hy1;have m0:w.heap.size<w1.heap.size:=(by omega);have m1:w.heap.size+1<w1.heap.size:=(by omega);have hN1:w1.heap[w.heap.size+1]?=some (.cells #[.slice none 0 0,.slice none 0 0] 52 (0,0)):=aj hb1 (az (w:=World.alloc _ _) _ (by simp)) (by simp);obtain ⟨g,cap,rfl,hg1,hg2⟩:=K1.addr hi;have HK:=Hu K1
  have HV:Hid (jR (.slice (some ⟨g,0,none⟩) L.length cap) (aQ (cE b) L)=.pointer (some ⟨g,i*6,none⟩)):=by show jR _ _=_;rw [HI.out];simp [jR]
  clear K1;go_wp2_with fail;refine (dP _ p _ v2 L R b _ HK.out h12).mono ?_;rintro e w2 ⟨rfl,hb2⟩;rw [HV.out];have hy2:=hb2.size;have m2:w.heap.size<w2.heap.size:=by omega
  have m3:w.heap.size+1<w2.heap.size:=by omega
  have hN:=aj hb2 hN1 (by omega);have d0:=ae hN 0;have d1:=ae hN 1;have g0:=ap hN 0;have g1:=ap hN 1;simp at d0 d1;have K2:=HK.out.below hb2;have q1:=(K2.cell hi (j:=1) (by omega)).1;rw [← HS.out] at q1;simp [Lf.cells] at q1;clear hN hN1 K2;exact Q91
 ·have HI:=Hu he;obtain ⟨s,hs'⟩:∃ s,s=L.getD i Lf.zero:=⟨_,rfl⟩;rw [← hs'] at hs;have HS:=Hu hs';rw [← hs'];clear hs';obtain ⟨bk,st,wt,si,un,rq⟩:=s;simp only at hs;subst hs;clear he hm;go_enter Tryz.func112,Tryz.ntmps112;go_wp2_with fail;refine (cP _ _ L R _ (ai (ai HL.out _) _) (ai (ai HR.out _) _) H.out).mono ?_;rintro e w1 ⟨p,v1,v2,rfl,K1,hb1⟩;obtain ⟨hc1,hf1⟩:=aV hb1;have hz1:=fQ hb1;have hy1:=hb1.size;simp at hy1;have m0:w.heap.size<w1.heap.size:=(by omega);have m1:w.heap.size+1<w1.heap.size:=(by omega);have hN1:w1.heap[w.heap.size+1]?=some (.cells #[.slice none 0 0,.slice none 0 0] 52 (0,0)):=aj hb1 (az (w:=World.alloc _ _) _ (by simp)) (by simp);have hB1:=(((Hv w.heap.size w).alloc (I3 _) (.cells #[.slice a L.length c,.slice a' R.length c'] 52)).alloc (by simp) (.cells #[.slice none 0 0,.slice none 0 0] 52)).trans (hb1.mono (by simp;omega));have B1:=Hu hB1;obtain ⟨g,cap,rfl,hg1,hg2⟩:=K1.addr hi;obtain ⟨x2,y2,rfl,_⟩:=aC K1.o2;have HK:=Hu K1;simp at hg1
  have HV:Hid (jR (.slice (some ⟨g,0,none⟩) L.length cap) (aQ (cE b) L)=.pointer (some ⟨g,i*6,none⟩)):=by show jR _ _=_;rw [HI.out];simp [jR]
  clear K1 hB1;go_wp2_with fail;refine (dP _ p _ _ L R b _ HK.out h12).mono ?_;rintro e w2 ⟨rfl,hb2⟩;rw [HV.out];have hy2:=hb2.size;have m2:w.heap.size<w2.heap.size:=by omega
  have m3:w.heap.size+1<w2.heap.size:=by omega
  have hN:=aj hb2 hN1 (by omega);have d0:=ae hN 0;have d1:=ae hN 1;have g0:=ap hN 0;have g1:=ap hN 1;simp at d0 d1;have B2:=Hu (B1.out.trans (hb2.mono (by omega)));have K2:=Hu (HK.out.below hb2);obtain ⟨q1,q2⟩:=K2.out.cell hi (j:=1) (by omega);rw [← HS.out] at q1;simp [Lf.cells] at q1;have c0:=ae K2.out.hh 0;have c1:=ae K2.out.hh 1;simp at c0 c1;have hp:=K2.out.hB;simp at hp;have K3:=Hu (K2.out.field (x:=Lf.done ⟨bk,3,wt,si,un,rq⟩) (v:=.int .i64 4) (j:=1) hi (by omega) (by rw [← HS.out];rfl));have n1:p≠g:=by omega
  have n2:g≠p:=by omega
  have n3:g≠w.heap.size+1:=by omega
  have n4:w.heap.size+1≠g:=by omega
  clear hN hN1 hb2 hb1 hc1 hf1 hz1;go_wp2;refine Ix (v:=.tuple #[.agg #[.slice (some ⟨g,0,none⟩) L.length cap,.slice x2 R.length y2],.int .i64 0]) ?_ rfl ⟨_,_,rfl,aG (aB (aB K3.out.r1 (by simp) _) (by simp) _) (by simp;omega),aG (aB (aB K3.out.r2 (by simp) _) (by simp) _) (by simp;omega),((B2.out.setCell (by simp;omega) _).setCell (by simp) _).setCell (by simp) _⟩;simp [results,Tryz.results112,go_sem, *]
def mK (slot:Int) (x:Fl):Bool:=x.slot == slot
theorem gfind1 (x:Fl) (b:Nat) (slot:Int) (w:World) (h:w.cell? ⟨b,0,none⟩=some (.int .i64 slot)):Calls Tryz.prog 119 #[Fl.agg x,.pointer (some ⟨b,0,none⟩)] w fun e w'=>e=.returned (.bool (mK slot x))∧Below w.heap.size w w':=by
 obtain ⟨t0,t1,t2,t3,t4,t5,t6⟩:=x;have lb:=bR h;unfold Fl.agg;go_enter Tryz.func119,Tryz.ntmps119;go_wp2
 all_goals first|(go_ret;exact ⟨rfl,Zb⟩)|exact Zx
theorem lP {p:Nat} {w:World} {X:Wd} {V:Vs} (h:GR p w X V) (slot:Int) (hn:X.flows.length≤1000000) :
  Calls Tryz.prog 72 #[.pointer (some ⟨p,0,none⟩),.int .i64 slot] w fun e w'=>e=.returned (.int .i64 (aQ (mK slot) X.flows))∧Below w.heap.size w w':=by
 have x18:=h.c 18 (v:=V.f) rfl
 obtain ⟨af,cf,ef,_⟩:=aq h.2.1
 rw [ef] at x18
 have HF:=Hu h.2.1
 rw [ef] at HF
 have hp:=h.2.2.2.1
 obtain ⟨r,hr⟩:∃ r,r=aQ (mK slot) X.flows:=⟨_,rfl⟩
 have HR:=Hu hr
 rw [← hr]
 clear h ef hr
 go_enter Tryz.func72,Tryz.ntmps72
 go_wp2_with fail
 refine (Ba 119 ⟨w.heap.size,0,none⟩ (fun _ _=>rfl) (mK slot) _ X.flows _ (ai HF.out _) (by omega) (fun x _ w' hb'=>gfind1 x _ slot w' (aA hb' (by go_simp)))).mono ?_
 rintro e w1 ⟨rfl,hb1⟩
 rw [← HR.out]
 go_wp2
 go_ret
 exact ⟨rfl,((Hv w.heap.size w).alloc (I3 _) _).trans (hb1.mono (by simp))⟩
theorem ym:(Tryz.prog.info? 3).map (fun i=>(i.zero,i.size,i.bytes))=some (some (.int .i64 0),1,8):=by kernel_rfl
theorem EO (Y:List Int):(Y.map fun x=>[Value.int .i64 x]).flatten=Y.map (Value.int .i64):=by
 induction Y with
 | nil=>rfl
 | cons y Y ih=>simp [ih]
theorem wk_one (Y:List Int):∀ c∈Y.map fun x=>[Value.int .i64 x],c.length=1:=by
 exact Q29
structure BkG (T:TypeId) (B:Nat) (w:World) (p:Nat) (v1 v2:Value) (L:List Lf) (R:List Rq):Prop where
 hB:B≤p
 hh:w.heap[p]?=some (.cells #[v1,v2] T (0,0))
 o1:w.ownsRow B 94 6 v1 L.length (L.map Lf.cells).flatten
 o2:w.ownsRow B 148 5 v2 R.length (R.map Rq.cells).flatten
 l1:∀ b,v1.ownBlock=some b→b<p
 l2:∀ b,v2.ownBlock=some b→b<p
 dis:∀ b,v1.ownBlock=some b→v2.ownBlock≠some b
theorem BkAt.g {B:Nat} {w:World} {p:Nat} {v1 v2:Value} {L:List Lf} {R:List Rq} (h:BkAt B w p v1 v2 L R):BkG 223 B w p v1 v2 L R:=⟨h.hB,h.hh,h.o1,h.o2,h.l1,h.l2,h.dis⟩
theorem rZ {w w':World} {N B e sz n:Nat} {v:Value} {cs:List Value} (h:w.ownsRow B e sz v n cs) (hb:Below N w w') (hl:∀ b,v.ownBlock=some b→b<N):w'.ownsRow B e sz v n cs:=by
 obtain ⟨h1,h2|⟨g,cap',cur,h3,h4,h5,h6⟩⟩:=h
 ·exact ⟨h1,Or.inl h2⟩
 ·exact ⟨h1,Or.inr ⟨g,cap',cur,h3,h4,(hb.block _ (hl g (by rw [h3];rfl))).trans h5,h6⟩⟩
section
variable {T B p:Nat} {w w':World} {v1 v2:Value} {L:List Lf} {R:List Rq}
theorem BkG.far (h:BkG T B w p v1 v2 L R) {N:Nat} (hb:Below N w w') (hp:p<N):BkG T B w' p v1 v2 L R:=
 ⟨h.hB,aj hb h.hh hp,rZ h.o1 hb (fun b hb=>Nat.lt_trans (h.l1 b hb) hp),rZ h.o2 hb (fun b hb=>Nat.lt_trans (h.l2 b hb) hp),h.l1,h.l2,h.dis⟩
theorem BkG.r1 (h:BkG T B w p v1 v2 L R):aM B w 6 v1 (L.map Lf.cells):=aD h.o1 (by simp) (j5 L)
theorem BkG.r2 (h:BkG T B w p v1 v2 L R):aM B w 5 v2 (R.map Rq.cells):=aD h.o2 (by simp) (mz R)
theorem BkG.addr (h:BkG T B w p v1 v2 L R) {i:Nat} (hi:i<L.length):∃ g cap,v1=.slice (some ⟨g,0,none⟩) L.length cap∧B≤g∧g<p:=by
 exact Q132
theorem BkG.cell {g n cap:Nat} (h:BkG T B w p (.slice (some ⟨g,0,none⟩) n cap) v2 L R) {i j:Nat} (hi:i<L.length) (hj:j<6):w.cell? ⟨g,i*6+j,none⟩=((L.getD i Lf.zero).cells)[j]?∧w.frozen? ⟨g,i*6+j,none⟩=false:=by
 exact Q49
theorem BkG.field {g n cap:Nat} (h:BkG T B w p (.slice (some ⟨g,0,none⟩) n cap) v2 L R) {i j:Nat} (hi:i<L.length) (hj:j<6) {x:Lf} {v:Value} (hx:x.cells=(L.getD i Lf.zero).cells.set j v) :
  BkG T B (w.setCell ⟨g,i*6+j,none⟩ v) p (.slice (some ⟨g,0,none⟩) n cap) v2 (L.set i x) R:=by
 have hg:=h.l1 g rfl
 have h1:=h.o1
 have e:n=L.length:=by
  exact Q58
 subst e
 refine ⟨h.hB,aU h.hh (by omega),?_,ownsRow_setCell_other h.o2 (h.dis g rfl) _,h.l1,h.l2,h.dis⟩
 rw [Ig]
 exact sd h.o1 hi hj hx
end
def Lf.wk (now:Int) (x:Lf):Lf:=if x.state=1 then { x with state:=2,since:=now } else x
def rk (now:Int) (L:List Lf) (k:Nat):List Lf:=(L.take k).map (Lf.wk now)++L.drop k
def lD (L:List Lf) (k:Nat):List Int:=((L.take k).filter (fun x=>decide (x.state=1))).map Lf.backend
section
variable {now:Int} {L:List Lf} {k:Nat}
theorem yU (hk:k<L.length):L.take (k+1)=L.take k++[L.getD k Lf.zero]:=by rw [Ia hk];simp [List.getD,hk]
theorem yV (hk:k<L.length):L.drop k=L.getD k Lf.zero :: L.drop (k+1):=by rw [List.drop_eq_getElem_cons hk];simp [List.getD,hk]
theorem me:(rk now L k).length=L.length:=by simp [rk];omega
theorem tc (hk:k<L.length):(rk now L k).getD k Lf.zero=L.getD k Lf.zero:=by
 unfold rk;rw [yV hk]
 have h1:((L.take k).map (Lf.wk now)).length=k:=by simp;omega
 simp only [List.getD_eq_getElem?_getD];rw [IC (by omega),h1,Nat.sub_self]
 rfl
theorem yY (hk:k<L.length):(rk now L k).set k ((L.getD k Lf.zero).wk now)=rk now L (k+1):=by
 unfold rk
 have h1:((L.take k).map (Lf.wk now)).length=k:=by simp;omega
 rw [List.set_append_right _ _ (by omega),h1,Nat.sub_self,yV hk,List.set_cons_zero,yU hk];simp
theorem C3 (hk:k<L.length) (hs:(L.getD k Lf.zero).state≠1):rk now L (k+1)=rk now L k:=by
 rw [← yY hk]
 have e:(L.getD k Lf.zero).wk now=(rk now L k).getD k Lf.zero:=by rw [tc hk];unfold Lf.wk;rw [if_neg hs]
 rw [e];apply List.ext_getElem?;intro i;rw [List.getElem?_set]
 split
 ·rename_i h;subst h
  have hl:k<(rk now L k).length:=by rw [me];exact hk
  simp [List.getD,hl]
 ·rfl
theorem yX (hk:k<L.length) (hs:(L.getD k Lf.zero).state=1):lD L (k+1)=lD L k++[(L.getD k Lf.zero).backend]:=by
 exact Q138
theorem C2 (hk:k<L.length) (hs:(L.getD k Lf.zero).state≠1):lD L (k+1)=lD L k:=by
 exact Q138
theorem EP:(lD L k).length≤L.length:=by
 unfold lD;rw [I9];exact Iq (List.length_filter_le _ _) (by simp;omega)
theorem EQ:rk now L L.length=L.map (Lf.wk now):=by simp [rk]
theorem C4:rk now L 0=L:=by simp [rk]
end
theorem BkG.wake {T B p:Nat} {w:World} {g n cap:Nat} {v2:Value} {L:List Lf} {R:List Rq} {now:Int} {k:Nat} (h:BkG T B w p (.slice (some ⟨g,0,none⟩) n cap) v2 (rk now L k) R) (hk:k<L.length) (hs:(L.getD k Lf.zero).state=1) :
  BkG T B ((w.setCell ⟨g,k*6+1,none⟩ (.int .i64 2)).setCell ⟨g,k*6+3,none⟩ (.int .i64 now)) p (.slice (some ⟨g,0,none⟩) n cap) v2 (rk now L (k+1)) R:=by
 have hl:k<(rk now L k).length:=by rw [me];exact hk
 have h1:=h.field (i:=k) (j:=1) (x:={ (L.getD k Lf.zero) with state:=2 }) (v:=.int .i64 2) hl (by omega) (by rw [tc hk];rfl)
 have h2:=h1.field (i:=k) (j:=3) (x:=(L.getD k Lf.zero).wk now) (v:=.int .i64 now) (by rw [Ig];exact hl) (by omega) (by
  have e:((rk now L k).set k { (L.getD k Lf.zero) with state:=2 }).getD k Lf.zero={ (L.getD k Lf.zero) with state:=2 }:=by simp [List.getD,hl]
  rw [e];unfold Lf.wk;rw [if_pos hs];rfl)
 rw [List.set_set,yY hk] at h2
 exact h2
def xd (w wr:World) (T B B2 p:Nat) (v1 v2:Value) (L:List Lf) (R:List Rq) (now:Int) (k:Nat) (l:Value):Prop:=
 (k≤L.length∧Below w.heap.size w wr∧wr.heap[w.heap.size+1]?=some (.cells #[.slice none 0 0,.slice none 0 0] 52 (0,0))∧BkG T B wr p v1 v2 (rk now L k) R∧p<B2∧w.heap.size+1<B∧B2≤wr.heap.size)∧
  ∃ (a:Option Addr) (cap:Nat),l=.slice a (lD L k).length cap∧wr.ownsRow B2 3 1 (.slice a (lD L k).length cap) (lD L k).length ((lD L k).map (Value.int .i64))
theorem yJ {w wr:World} {T B B2 p:Nat} {v1 v2:Value} {L:List Lf} {R:List Rq} {now:Int} {k:Nat} {l:Value} (h:xd w wr T B B2 p v1 v2 L R now k l) (hk:k<L.length) (hs:(L.getD k Lf.zero).state≠1):xd w wr T B B2 p v1 v2 L R now (k+1) l:=by
 obtain ⟨⟨h1,h2,h3,h4,h5⟩,h6⟩:=h;refine ⟨⟨by omega,h2,h3,?_,h5⟩,?_⟩
 ·rw [C3 hk hs];exact h4
 ·rw [C2 hk hs];exact h6
theorem BN {w wr w1:World} {T B B2 p g n c2 cap cap':Nat} {v2:Value} {L:List Lf} {R:List Rq} {now:Int} {k:Nat} {a a':Option Addr} {o:Obj} (h2:Below w.heap.size w wr) (h3:wr.heap[w.heap.size+1]?=some (.cells #[.slice none 0 0,.slice none 0 0] 52 (0,0))) (h4:BkG T B wr p (.slice (some ⟨g,0,none⟩) n c2) v2 (rk now L k) R) (h5:p<B2) (h6:w.heap.size+1<B) (h7:B2≤wr.heap.size)
  (ho:wr.ownsRow B2 3 1 (.slice a (lD L k).length cap) (lD L k).length ((lD L k).map (Value.int .i64))) (hk:k<L.length) (hs:(L.getD k Lf.zero).state=1)
  (hgrow:((((wr.setCell ⟨g,k*6+1,none⟩ (.int .i64 2)).setCell ⟨g,k*6+3,none⟩ (.int .i64 now))).alloc o).grownBy w1 (Value.slice a (lD L k).length cap).ownBlock)
  (hown:w1.ownsRow B2 3 1 (.slice a' ((lD L k).length+1) cap') ((lD L k).length+1) ((lD L k).map (Value.int .i64)++[.int .i64 (L.getD k Lf.zero).backend])) :
  xd w w1 T B B2 p (.slice (some ⟨g,0,none⟩) n c2) v2 L R now (k+1) (.slice a' ((lD L k).length+1) cap'):=by
 have hgp:=h4.l1 g rfl
 have hgB:B≤g:=by
  have:=h4.o1.lt g rfl;exact this.1
 have hw:=h4.wake hk hs
 have ha:∀ b,(Value.slice a (lD L k).length cap).ownBlock=some b→B2≤b:=fun b hb=>(ho.lt b hb).1
 have hne:(Value.slice a (lD L k).length cap).ownBlock≠some g:=fun e=>by have:=ha g e;omega
 have ho2:=ownsRow_setCell_other (ownsRow_setCell_other ho (a:=⟨g,k*6+1,none⟩) hne (.int .i64 2)) (a:=⟨g,k*6+3,none⟩) hne (.int .i64 now)
 have B':=cM (B:=B2) ((Hv _ _).alloc (I3 _) o) (by simpa using h7) ho2 hgrow
 have hb2:Below w.heap.size w ((wr.setCell ⟨g,k*6+1,none⟩ (.int .i64 2)).setCell ⟨g,k*6+3,none⟩ (.int .i64 now)):=(h2.setCell (by simp;omega) _).setCell (by simp;omega) _
 refine ⟨⟨by omega,hb2.trans (B'.mono (by omega)),aj B' (aU (aU h3 (by omega)) (by omega)) (by omega),hw.far B' h5,h5,h6,?_⟩,a',cap',?_,?_⟩
 ·exact Iq (by simpa using h7) B'.size
 ·rw [yX hk hs];simp
 ·rw [yX hk hs,Ir];simpa using hown
def Hl (L:List Lf) (R:List Rq) (now:Int) (L':List Lf) (R':List Rq) (Y:List Int) (code:Int):Prop:=(¬ bF L R∧L'=[]∧R'=[]∧Y=[]∧code=6)∨(bF L R∧(now<0∨(0≤now∧1099511627776<now))∧L'=[]∧R'=[]∧Y=[]∧code=2)∨
 (bF L R∧0≤now∧now≤1099511627776∧L'=L.map (Lf.wk now)∧R=R'∧Y=lD L L.length∧code=0)
def GH (w:World) (L:List Lf) (R:List Rq) (Y:List Int) (code:Int) (e:Ending) (w':World):Prop:=∃ v1 v2 v3,e=.returned (.tuple #[.agg #[v1,v2],v3,.int .i64 code])∧aM w.heap.size w' 6 v1 (L.map Lf.cells)∧aM w.heap.size w' 5 v2 (R.map Rq.cells)∧aM w.heap.size w' 1 v3 (Y.map fun x=>[Value.int .i64 x])∧Below w.heap.size w w'
theorem pZ (vl vr:Value) (L:List Lf) (R:List Rq) (now:Int) (L':List Lf) (R':List Rq) (Y:List Int) (code:Int) (w:World) (hl:aI w 6 vl (L.map Lf.cells)) (hr:aI w 5 vr (R.map Rq.cells)) (h:Hl L R now L' R' Y code) :
  Calls Tryz.prog 69 #[.agg #[vl,vr],.int .i64 now] w (GH w L' R' Y code):=by
 obtain ⟨i0,ji,ji0,ji1,ji2⟩:=info_parts ym
 have HL:=Hu hl
 have HR:=Hu hr
 obtain ⟨a,c,rfl,_⟩:=aq hl
 obtain ⟨a',c',rfl,_⟩:=aq hr
 clear hl hr
 rcases h with ⟨hm,rfl,rfl,rfl,rfl⟩|⟨hm,hnow,rfl,rfl,rfl,rfl⟩|⟨hm,t1,t2,rfl,rfl,rfl,rfl⟩
 ·have H:=Hu hm;clear hm;go_enter Tryz.func69,Tryz.ntmps69;go_wp2_with fail;refine (gJ _ _ L R _ (ai (ai HL.out _) _) (ai (ai HR.out _) _) H.out).mono ?_;rintro e w1 ⟨rfl,hb1⟩;obtain ⟨hc1,hf1⟩:=aV hb1;have hz1:=fQ hb1;have hy1:=hb1.size;simp at hy1;have m0:w.heap.size<w1.heap.size:=(by omega);have m1:w.heap.size+1<w1.heap.size:=(by omega);have hN1:w1.heap[w.heap.size+1]?=some (.cells #[.slice none 0 0,.slice none 0 0] 52 (0,0)):=aj hb1 (az (w:=World.alloc _ _) _ (by simp)) (by simp);go_wp2;refine Ix (v:=.tuple #[.agg #[.slice none 0 0,.slice none 0 0],.slice none 0 0,.int .i64 6]) ?_ rfl ⟨_,_,_,rfl,bD _ _ _,bD _ _ _,bD _ _ _,Zb⟩;simp [results,Tryz.results69,go_sem, *]
 ·have H:=Hu hm;clear hm;rcases hnow with t1|⟨t1,t2⟩
  all_goals
   go_enter Tryz.func69,Tryz.ntmps69
   go_wp2_with fail
   refine (cP _ _ L R _ (ai (ai HL.out _) _) (ai (ai HR.out _) _) H.out).mono ?_
   rintro e w1 ⟨p,v1,v2,rfl,K1,hb1⟩
   clear K1
   obtain ⟨hc1,hf1⟩:=aV hb1;have hz1:=fQ hb1;have hy1:=hb1.size;simp at hy1;have m0:w.heap.size<w1.heap.size:=(by omega);have m1:w.heap.size+1<w1.heap.size:=(by omega);have hN1:w1.heap[w.heap.size+1]?=some (.cells #[.slice none 0 0,.slice none 0 0] 52 (0,0)):=aj hb1 (az (w:=World.alloc _ _) _ (by simp)) (by simp)
   go_wp2
   refine Ix (v:=.tuple #[.agg #[.slice none 0 0,.slice none 0 0],.slice none 0 0,.int .i64 2]) ?_ rfl ⟨_,_,_,rfl,bD _ _ _,bD _ _ _,bD _ _ _,Zb⟩
   simp [results,Tryz.results69,go_sem, *]
 ·have H:=Hu hm;have h12:=hm.1;clear hm;go_enter Tryz.func69,Tryz.ntmps69;go_wp2_with fail;refine (cP _ _ L R _ (ai (ai HL.out _) _) (ai (ai HR.out _) _) H.out).mono ?_;rintro e w1 ⟨p,v1,v2,rfl,K1,hb1⟩;obtain ⟨a1,c1,rfl,_⟩:=aC K1.o1;obtain ⟨a2,c2,rfl,_⟩:=aC K1.o2;have B1:=(((Hv w.heap.size w).alloc (I3 _) (.cells #[.slice a L.length c,.slice a' R.length c'] 52)).alloc (by simp) (.cells #[.slice none 0 0,.slice none 0 0] 52)).trans (hb1.mono (by simp;omega));obtain ⟨hc1,hf1⟩:=aV hb1;have hz1:=fQ hb1;have hy1:=hb1.size;simp at hy1;have m0:w.heap.size<w1.heap.size:=(by omega);have m1:w.heap.size+1<w1.heap.size:=(by omega);have hN1:w1.heap[w.heap.size+1]?=some (.cells #[.slice none 0 0,.slice none 0 0] 52 (0,0)):=aj hb1 (az (w:=World.alloc _ _) _ (by simp)) (by simp);obtain ⟨B2,hB2⟩:∃ B2,B2=w1.heap.size:=⟨_,rfl⟩;have HR0:Hid (xd w w1 223 (w.heap.size+1+1) B2 p (.slice a1 L.length c1) (.slice a2 R.length c2) L R now 0 (.slice none 0 0)):=⟨⟨I4 _,B1,hN1,by rw [C4];simpa using K1.g,by rw [hB2];exact K1.lt,by omega,by omega⟩,none,0,rfl,Iv _ _ _ _⟩;have c0:=ae K1.hh 0;simp at c0;clear hN1 K1 B1 hB2 hb1 hc1 hf1 hz1 hy1;go_wp2_with fail;go_loopw [9,34] (fun l i wr=>∃ k:Nat,i=.int .i64 k∧xd w wr 223 (w.heap.size+1+1) B2 p (.slice a1 L.length c1) (.slice a2 R.length c2) L R now k l) (fun _ i _=>L.length - (intOf i).toNat)
  case atStart=>exact ⟨0,rfl,HR0.out⟩
  case round=>
   clear HR0;obtain ⟨k,rfl,hrel⟩:=hrel;have HR:=Hu hrel;obtain ⟨⟨hk,hb,hN,hK,hp,hB0,hB2⟩,a,cap,rfl,hown⟩:=hrel;have HB:=Hu hb;have HK:=Hu hK;have HO:=Hu hown;have HN:=Hu hN;have c0:=ae hK.hh 0;have c1':=ae hK.hh 1;simp at c0 c1';have hlY:=EP (L:=L) (k:=k);rcases (show k<L.length∨L.length=k by omega) with hlt|heq
   ·have hlt':(k:Int)<(L.length:Int):=by omega
    have p0:(0:Int)≤(k:Int):=by omega
    obtain ⟨g,cp,hv,hg1,hg2⟩:=hK.addr (i:=k) (by rw [me];exact hlt);rw [me] at hv;simp only [Value.slice.injEq] at hv;obtain ⟨rfl,_,rfl⟩:=hv
    have q:∀ j,j<6→wr.cell? ⟨g,k*6+j,none⟩=((L.getD k Lf.zero).cells)[j]?∧wr.frozen? ⟨g,k*6+j,none⟩=false:=fun j hj=>by
     have:=hK.cell (i:=k) (by rw [me];exact hlt) hj;rw [tc hlt] at this;exact this
    obtain ⟨s,hs⟩:∃ s,s=L.getD k Lf.zero:=⟨_,rfl⟩;rw [← hs] at q;have HS:=Hu hs;clear hs hb hN hK hown;obtain ⟨bk,st,wt,sn,un,rq⟩:=s;obtain ⟨q0,_⟩:=q 0 (by omega);obtain ⟨q1,f1⟩:=q 1 (by omega);obtain ⟨q3,f3⟩:=q 3 (by omega);simp [Lf.cells] at q0 q1 q3;clear q;by_cases h1:st=1
    ·subst h1
     have hs1:Hid ((L.getD k Lf.zero).state=1):=by rw [← HS.out];rfl
     have hbk:Hid ((L.getD k Lf.zero).backend=bk):=by show _=_;rw [← HS.out]
     have lb:=bR q0
     have hne:Hid ((Value.slice a (lD L k).length cap).ownBlock≠some g):=fun e=>by have:=(HO.out.lt g e).1;omega
     have O2:=Hu (ownsRow_setCell_other (ownsRow_setCell_other HO.out (a:=⟨g,k*6+1,none⟩) hne.out (.int .i64 2)) (a:=⟨g,k*6+3,none⟩) hne.out (.int .i64 now));have n1:p≠g:=by omega
     have n2:g≠p:=by omega
     go_wp2_with (at_builtin;go_loud (refine wpList_append_own _ rfl _ _ 117 rfl B2 3 i0 (.int .i64 0) 1 8 Tryz.underlying117 ji ji0 ji1 ji2 rfl (by decide) _ (lD L k).length _ rfl (O2.out.alloc _) ⟨wr.heap.size,0,none⟩ 1 1 [.int .i64 bk] rfl rfl (fG (by simp) [.int .i64 bk] 3) ?c1 ?c2 ?c3 ?c4 ?_))
     case c1=>first|rfl|(intro u hu;simp at hu;subst hu;rfl)
     case c2=>unfold maxLen;omega
     case c3=>omega
     case c4=>first|omega|(simp;omega)
     intro v' w1 hown' hgrow _;obtain ⟨a',cap',rfl,_,_⟩:=aC hown';have S:=Hu (BN HB.out HN.out HK.out hp hB0 hB2 HO.out hlt hs1.out hgrow (by rw [hbk.out];exact hown'));clear hown' hgrow;exact Q156
    ·have e1:(st == 1)=false:=by simpa using h1
     have S:=Hu (yJ HR.out hlt (by rw [← HS.out];exact h1));clear h1;exact Q156
   ·have hge:¬ (k:Int)<(L.length:Int):=by omega
    have d0:=ae hN 0;have d1:=ae hN 1;have g0:=ap hN 0;have g1:=ap hN 1;simp at d0 d1;have lN:=lt_of_block hN;have hpB:=hK.hB
    have X1:Hid (aM (w.heap.size+1+1) wr 6 (.slice a1 L.length c1) ((L.map (Lf.wk now)).map Lf.cells)):=by have:=HK.out.r1;rw [← heq,EQ] at this;exact this
    have X2:=Hu HK.out.r2
    have X3:Hid (aM B2 wr 1 (.slice a (lD L k).length cap) ((lD L L.length).map fun x=>[Value.int .i64 x])):=by
     rw [heq];exact aD (e:=3) (n:=(lD L k).length) (by rw [EO];exact HO.out) (by simp) (wk_one _)
    clear hb hN hK hown heq;go_wp2;refine Ix (v:=.tuple #[.agg #[.slice a1 L.length c1,.slice a2 R.length c2],.slice a (lD L k).length cap,.int .i64 0]) ?_ rfl ⟨_,_,_,rfl,aG (aB (aB X1.out Zs _) Zs _) Zs,aG (aB (aB X2.out Zs _) Zs _) Zs,aG (aB (aB X3.out Zs _) Zs _) Zs,(HB.out.setCell Zs _).setCell Zs _⟩;simp [results,Tryz.results69,go_sem, *]
end
end Go.Proofs.YtfliffgmeobclaaGreat
