/- Texts of the row's proof. Conditions: none. -/
import Derived.Test.YtfliffgmeobclaaGreatK27
import Derived.Test.YtfliffgmeobclaaGreatK32
namespace Go.Proofs.YtfliffgmeobclaaGreat
set_option maxRecDepth 100000
set_option maxHeartbeats 8000000
section
open Go.RowKit
theorem Q110 {p:Prop} (h:p:=by
 go_enter Tryz.func136,Tryz.ntmps136;go_wp2_with fail;refine K.out.mono ?_;rintro e w' ⟨rfl,rfl⟩;go_wp2
 all_goals first|(go_ret;exact ⟨rfl,rfl⟩)|exact Zx):p:=h
end
section
open Go.RowKit Go.Shelf
attribute [local go_sem] Oper.semAt_some
theorem Bi (v:Value) (L:List Int) (b:Int) (w:World) (r:aI w 1 v (L.map fun x=>[Value.int .i64 x])):Calls Tryz.prog 158 #[v,.int .i64 b] w fun e w'=>e=.returned (.int .i64 (aQ (fun x=>b == x) L))∧w'=w:=by
 obtain ⟨a,c,rfl,_,m1,_,p1⟩:=aK (0:Int) r;unfold maxLen at m1;have P1:=Hu p1;clear r p1;go_enter Tryz.func158,Tryz.ntmps158;go_wp2
 go_loop [8] (fun i=>∃ k:Nat,k≤L.length∧i=.int .i64 k∧∀ x∈L.take k,(b == x)=false) (fun i=>L.length - (intOf i).toNat)
 case atStart=>exact ⟨0,I4 _,rfl,by simp⟩
 case round=>
  obtain ⟨k,hk,rfl,hall⟩:=hrel;have HA:=Hu hall;clear hall;rcases (show k<L.length∨L.length=k by omega) with hlt|heq
  ·have hlt':(k:Int)<(L.length:Int):=by omega
   have p0:(0:Int)≤(k:Int):=by omega
   obtain ⟨b1,o1,rfl,hb1,q1⟩:=P1.out (by intro h;rw [h] at hlt;simp at hlt);have a0:=q1 k 0 hlt (by omega);obtain ⟨s,hs⟩:∃ s,s=L.getD k 0:=⟨_,rfl⟩;rw [← hs] at a0;simp only [I5,Nat.mul_one,Nat.add_zero] at a0;have HS:=Hu hs;clear hs q1;by_cases hb:b=s
   ·subst hb;go_wp2
    all_goals first|(go_ret;exact ⟨rI (kP (p:=fun x=>b == x) hlt HS.out (by simp) HA.out).symm,rfl⟩)|exact Zx
   ·have hb':(b == s)=false:=by simpa using hb
    have HA2:=Hu (mC (p:=fun x=>b == x) hlt HS.out hb' HA.out);go_wp2
    all_goals
     go_round
     case rel=>exact ⟨k+1,by omega,by go_num,HA2.out⟩
     case measure=>simp [intOf];omega
  ·have hge:¬ (k:Int)<(L.length:Int):=by omega
   have HE:=Hu (jD heq HA.out);clear heq HA;go_wp2
   all_goals first|(go_ret;exact ⟨rI HE.out.symm,rfl⟩)|exact Zx
theorem mS (v:Value) (L:List Int) (b:Int) (w:World) (r:aI w 1 v (L.map fun x=>[Value.int .i64 x])) (q:Bool) (hq:q=decide (b∈L)):Calls Tryz.prog 136 #[v,.int .i64 b] w fun e w'=>e=.returned (.bool q)∧w'=w:=by
 have K:=Hu (Bi v L b w r);have HI:=ir (fun x=>b == x) L
 have hany:L.any (fun x=>b == x)=q:=by
  rw [hq,Bool.eq_iff_iff];simp
 rw [hany] at HI;obtain ⟨i,hi⟩:∃ i,i=aQ (fun x=>b == x) L:=⟨_,rfl⟩;rw [← hi] at K HI;obtain ⟨a,c,rfl,_⟩:=aq (f:=fun x:Int=>[Value.int .i64 x]) r;clear r hi hany hq
 cases q with
 | true=>
  have h0:0≤i:=HI.1.1 rfl;clear HI;exact Q110
 | false=>
  have h0:i<0:=HI.2.1 rfl;clear HI
  have h1:decide (0≤i)=false:=by simp;omega
  exact Q110
theorem tx (v:Value) (a:Int) (w:World) (hv:∃ x n c,v=.slice x n c):Calls Tryz.prog 135 #[v,.int .i64 a] w fun e w'=>e=.returned (.func (.func 156) #[] #[.pointer (some ⟨w.heap.size,0,none⟩),.pointer (some ⟨w.heap.size+1,0,none⟩)])∧w'=(w.alloc (.cells #[v] 53)).alloc (.cells #[.int .i64 a] 3):=by
 obtain ⟨x,n,c,rfl⟩:=hv;go_enter Tryz.func135,Tryz.ntmps135;go_wp2
 all_goals first|(go_ret;exact ⟨rfl,rfl⟩)|exact Zx
theorem nH {W W':World} {B b:Nat} {cs:Array Value} {t:TypeId} {fr:Nat×Nat} {row:Option Nat} (h:W.heap[b]?=some (.cells cs t fr)) (hg:W.grownBy W' row) (hr:∀ r,row=some r→B≤r∧∃ o:Obj,W.heap[r]?=some o∧o.isCells=false):W'.heap[b]?=some (.cells cs t fr):=by
 have hlt:=lt_of_block h;refine (hg.block b hlt (fun e=>?_)).trans h;obtain ⟨_,o,ho,hc⟩:=hr b e.symm;rw [h] at ho
 cases ho
 cases hc
theorem CL {W W':World} {B B' sz n:Nat} {t:TypeId} {v:Value} {cs:List Value} {row:Option Nat} (h:W.ownsRow B' t sz v n cs) (hg:W.grownBy W' row) (hr:∀ r,row=some r→B≤r∧∃ o:Obj,W.heap[r]?=some o∧o.isCells=false):W'.ownsRow B' t sz v n cs:=by
 obtain ⟨h1,h2|⟨g,cap,cur,h3,h4,h5,h6⟩⟩:=h
 ·exact ⟨h1,Or.inl h2⟩
 ·exact ⟨h1,Or.inr ⟨g,cap,cur,h3,h4,nH h5 hg hr,h6⟩⟩
theorem yD {W W' A:World} {B B':Nat} {row:Option Nat} (h:Below B' A W) (hB:B'≤B) (hz:B'≤W.heap.size) (hg:W.grownBy W' row) (hr:∀ r,row=some r→B≤r∧∃ o:Obj,W.heap[r]?=some o∧o.isCells=false):Below B' A W':=
 h.grown hg hz (fun k hk=>Iq hB (hr k hk).1)
theorem Bb (L:List Int):(L.map fun x=>[Value.int .i64 x]).flatten=L.map (Value.int .i64):=by
 exact Q136
theorem rE {w:World} {B e sz n:Nat} {v:Value} {xs:List Value} (h:w.ownsRow B e sz v n xs):∀ (j:Nat) (o:Obj),v.ownBlock=some j→w.heap[j]?=some o→o.isCells=true:=by
 intro j o hv ho;rcases h.2 with ⟨rfl,_⟩|⟨g,cap,cur,rfl,_,hg,_⟩
 ·cases hv
 ·cases hv;rw [hg] at ho;cases ho;rfl
theorem DF {W:World} {D b:Nat} {o o':Obj} {x:Obj} (hK:W.heap[D]?=some o) (ho:o.isCells=false) (h:W.heap[b]?=some x) (hx:x.isCells=true):(W.putObj D o').heap[b]?=some x:=by
 have:b≠D:=by rintro rfl;rw [hK] at h;cases h;rw [ho] at hx;cases hx
 exact (World.putObj_heap_other this).trans h
theorem Fu {W:World} {D:Nat} {o':Obj} {B e sz n:Nat} {v:Value} {xs:List Value} (h:W.ownsRow B e sz v n xs) (hK:W.heap[D]?=some (.deferred (some []))):(W.putObj D o').ownsRow B e sz v n xs:=by
 obtain ⟨h1,h2|⟨g,cap,cur,h3,h4,h5,h6⟩⟩:=h
 ·exact ⟨h1,Or.inl h2⟩
 ·exact ⟨h1,Or.inr ⟨g,cap,cur,h3,h4,DF hK rfl h5 rfl,h6⟩⟩
theorem BD {A W:World} {D B:Nat} {o o':Obj} (h:Below B A W) (_hK:W.heap[D]?=some o) (hD:B≤D):Below B A (W.putObj D o'):=
 h.trans ⟨rfl,rfl,rfl,by simp,fun k hk=>World.putObj_heap_other (by omega)⟩
def WkI (w:World) (n1 bo:Nat) (pre:List Sp) (W:World):Prop:=∃ v,W.heap[bo]?=some (.cells #[v] 117 (0,0))∧W.ownsRow n1 3 1 v (ee pre).length ((ee pre).map (Value.int .i64))∧Below w.heap.size w W∧n1≤W.heap.size
theorem WkI.own {w:World} {n1 bo:Nat} (h:w.heap.size≤n1):OwnFrom n1 (WkI w n1 bo):=by
 intro s W W' row hs hg hr;obtain ⟨v,h1,h2,h3,h4⟩:=hs;exact ⟨v,nH h1 hg hr,CL h2 hg hr,yD h3 h (Iq h h4) hg hr,Iq h4 hg.size⟩
theorem vi (v:Value) (X:List Sp) (w:World) (key:Int) (L:List Int) (c:Int) (r:aI w 2 v (X.map Sp.cells)) (hn:X.length*16≤140737488351232) (ha:zM X key L c):Calls Tryz.prog 96 #[.agg #[v],.int .i64 key] w (WalkPost w L c):=by
 have R:=Hu r;obtain ⟨a,cp,rfl,_⟩:=aq r;have HA:=Hu ha;clear r ha;refine (callsIn_wide (n:=6)).1 ?_;refine callsIn_of_wp_marks Tryz.func96 rfl trivial ?_ rfl;refine wpIn_wide.2 ?_;simp only [Tryz.ntmps96,List.size_toArray,List.length_cons,List.length_nil,Nat.reduceAdd,Nat.reduceSub,Array.replicate_succ,Array.replicate_zero,List.push_toArray,List.append_toArray,List.nil_append,List.cons_append];go_wp2_with fail;refine (jx _ X _ (ai R.out _) hn).mono ?_;rintro e w1 ⟨W,bo,hW,rfl,h1,h2,hb⟩;have HB:=Hu (((Hv w.heap.size w).alloc (I3 _) _).trans (hb.mono (by simp)));have hz1:=hb.size;simp at hz1;have k0:w.heap.size<w1.heap.size:=by omega
 have g0:w1.cell? ⟨w.heap.size,0,none⟩=some (.slice a X.length cp):=by rw [hb.cell (p:=⟨w.heap.size,0,none⟩) Zs];go_simp
 have H1:=Hu h1;have H2:=Hu h2;have HW:=Hu hW;clear hb h1 h2 hW;rcases HA.out with ⟨hm,rfl,rfl⟩|⟨hm,hs,rfl,rfl⟩|⟨K,hm,rfl,hK,rfl,rfl⟩
 ·have:=H2.out hm;subst this;clear hm HA;go_wp2_with (refine bN rfl 226 (.tmp 6) (.tmp 15) rfl w1.heap.size (cQ W) rfl rfl 226 (cQ (List.replicate 12 0)) (az _ rfl) (ci HW.out) (by rw [dp HW.out];rfl) (dU _) ?_;intro W2 hW2 _ hs2 hb2;obtain ⟨hc2,hf2⟩:=aV hb2;have hb2':=Hu ((HB.out.alloc (by omega) _).trans (hb2.mono (by omega)));clear hb2;simp at hs2);exact ⟨_,results_tmp2 rfl _ _ _,WalkPost.nil hb2'.out⟩
 ·obtain ⟨rfl,rfl⟩:=H1.out hm;clear hm HA;go_wp2_with (refine bN rfl 226 (.tmp 6) (.tmp 15) rfl w1.heap.size (cQ (fx X 12)) rfl rfl 226 (cQ (List.replicate 12 0)) (az _ rfl) (ci HW.out) (by rw [dp HW.out];rfl) (dU _) ?_;intro W2 hW2 _ hs2 hb2;obtain ⟨hc2,hf2⟩:=aV hb2;have hb2':=Hu ((HB.out.alloc (by omega) _).trans (hb2.mono (by omega)));clear hb2;simp at hs2);refine (tD key _ (by omega)).mono ?_;rintro e w3 ⟨rfl,hb3⟩;have HB3:=Hu (hb2'.out.trans (hb3.mono (by omega)));clear hb3;go_wp2
  all_goals exact ⟨_,results_tmp2 rfl _ _ _,WalkPost.nil HB3.out⟩
 ·obtain ⟨rfl,rfl⟩:=H1.out hm;have HM:=Hu hm;clear hm HA;go_wp2_with (refine bN rfl 226 (.tmp 6) (.tmp 15) rfl w1.heap.size (cQ (fx X 12)) rfl rfl 226 (cQ (List.replicate 12 0)) (az _ rfl) (ci HW.out) (by rw [dp HW.out];rfl) (dU _) ?_;intro W2 hW2 _ hs2 hb2;obtain ⟨hc2,hf2⟩:=aV hb2;have hb2':=Hu ((HB.out.alloc (by omega) _).trans (hb2.mono (by omega)));clear hb2;simp at hs2);refine (vm K _ hK).mono ?_;rintro e w3 ⟨rfl,hb3⟩;have hz3:=hb3.size;have HB3:=Hu (hb2'.out.trans (hb3.mono (by omega)))
  have g3:w3.cell? ⟨w.heap.size,0,none⟩=some (.slice a X.length cp):=by rw [hb3.cell (p:=⟨w.heap.size,0,none⟩) (by simp;omega),hc2 _ _ k0];go_simp
  have k3:w.heap.size<w3.heap.size:=by omega
  obtain ⟨at_,hat⟩:∃ a:Nat,a=ye (K % 256) (K / 256 % 256) (K / 65536 % 256) (K / 16777216):=⟨_,rfl⟩;rw [← hat];have HAT:=Hu (show AJ K=(at_:Int) by rw [hat];rfl);clear hat hb3 hc2 hf2 hW2 hb2' g0;go_wp2_with (go_at_call 135;refine (tx _ _ _ ⟨_,_,_,rfl⟩).mono ?_;rintro e w' ⟨rfl,rfl⟩);obtain ⟨W0,hW0⟩:∃ W0,W0=((w3.alloc (.cells #[.slice none 0 0] 117)).alloc (.cells #[.slice a X.length cp] 53)).alloc (.cells #[.int .i64 (at_:Int)] 3):=⟨_,rfl⟩
  have hsz:W0.heap.size=w3.heap.size+1+1+1:=by rw [hW0];simp
  have hB0:Below w3.heap.size w3 W0:=by rw [hW0];exact (((Hv _ _).alloc (I3 _) _).alloc (by simp) _).alloc (by simp;omega) _
  have b0:W0.heap[w3.heap.size]?=some (.cells #[.slice none 0 0] 117 (0,0)):=by rw [hW0];exact (Hz _ _ _ (by simp;omega)).trans ((Hz _ _ _ (by simp)).trans (az _ rfl))
  have b1:W0.heap[w3.heap.size+1]?=some (.cells #[.slice a X.length cp] 53 (0,0)):=by rw [hW0];exact (Hz _ _ _ (by simp)).trans (az _ (by simp))
  have b2:W0.heap[w3.heap.size+1+1]?=some (.cells #[.int .i64 (at_:Int)] 3 (0,0)):=by rw [hW0];exact az _ (by simp)
  rw [← hW0];clear hW0;have HB0:=Hu (HB3.out.trans (hB0.mono HB3.out.size));have hrow:aI W0 2 (.slice a X.length cp) (X.map Sp.cells):=au R.out HB0.out;have hlX:=HM.out.len;have c1:W0.cell? ⟨w3.heap.size+1,0,none⟩=some (.slice a X.length cp):=ae b1 0;have c2:W0.cell? ⟨w3.heap.size+1+1,0,none⟩=some (.int .i64 (at_:Int)):=ae b2 0
  have hne:X≠[]→∀ ad,a=some ad→ad.block≠w3.heap.size:=by
   intro hX ad hd;obtain ⟨a',c',e,_,_,_,p⟩:=aK Sp.zero R.out;injection e with e1 _ _;obtain ⟨b,o,e2,hb,_⟩:=p hX;rw [hd] at e1;rw [← e1] at e2;injection e2 with e2;rw [e2];show b≠w3.heap.size
   omega
  have hw3:w.heap.size≤w3.heap.size:=HB3.out.size;refine (wpIn_wide (n:=6)).1 ?_
  refine wpIn_rangeFunc_ownH (P:=Tryz.prog) rfl (by omega) (gf:=156) (lb:=#[.pointer (some ⟨w3.heap.size+1,0,none⟩),.pointer (some ⟨w3.heap.size+1+1,0,none⟩)]) rfl trivial (enters_of Tryz.func156 (by kernel_rfl) rfl)
   (uq 5 (by omega) (w3.heap.size+1) (w3.heap.size+1+1) w3.heap.size cp a at_ X hlX HM.out.ord W0 c1 c2 (by omega) hrow hne) Kw.trans (kw_b (I3 _)) (Hv _ _) (fun _=>rfl)
   (WkI w W0.heap.size w3.heap.size) (fun _ _ _=>False) (WkI.own (by omega)) (fun _ _ _ _ _ hs _ _=>hs)
   ⟨_,b0,Iv _ _ _ _,HB0.out,I3 _⟩
   (fun x a' W=>∃ Bx,W0.heap.size≤Bx∧W.heap[Bx]?=some (.cells #[.int .i64 x.hash,.int .i64 x.backend] 151 (0,0))∧a'={ tmps:=#[.agg #[.slice a X.length cp],.int .i64 (K:Int),.pointer (some ⟨w.heap.size,0,none⟩),undef,.slice none 0 0,.int .i64 0,.pointer (some ⟨w1.heap.size,0,none⟩),.bool true,.int .i64 (at_:Int),.int .i64 0,.pointer (some ⟨w3.heap.size,0,none⟩),.pointer (some ⟨Bx,0,none⟩),.tuple #[.agg (cQ (fx X 12)),.bool true],.agg #[.slice a X.length cp],.tuple #[.agg (cQ (fx X 12)),.bool true],.agg (cQ (fx X 12)),.bool true,.bool true,.bool false,.tuple #[.int .i64 (at_:Int),.int .i64 0],.int .i64 (K:Int),.tuple #[.int .i64 (at_:Int),.int .i64 0],.int .i64 (at_:Int),.int .i64 0,.int .i64 0,.bool false,undef,.pointer (some ⟨w.heap.size,0,none⟩),.slice a X.length cp,.int .i64 (at_:Int),.func (.func 156) #[] #[.pointer (some ⟨w3.heap.size+1,0,none⟩),.pointer (some ⟨w3.heap.size+1+1,0,none⟩)],.agg #[.int .i64 x.hash,.int .i64 x.backend],undef,undef,undef,undef,undef,undef,undef,undef,undef,undef,undef],defers:=[] })
   (fun x a' _ Y Z row hs hg hr=>by obtain ⟨Bx,h1,h2,h3⟩:=hs;exact ⟨Bx,h1,nH h2 hg hr,h3⟩) ?assign ?body ?done ?stop
  case assign=>
   rintro l pre x W K' ⟨v,h1,h2,h3,h4⟩ hK';simp only [zh]
   gi_wp2
   exact hK' _ _ ((KeepsOthers.alloc _ _).from _) (Kw.of_below ((Hv W.heap.size W).alloc (I3 _) _) h4) ⟨v,(Hz _ _ _ (lt_of_block h1)).trans h1,h2.alloc _,h3.alloc h3.size _,by simp;omega⟩ ⟨W.heap.size,h4,az _ rfl,rfl⟩
  case body=>
   rintro l pre x a' W hl ⟨rl,hrl⟩ ⟨v,h1,h2,h3,h4⟩ ⟨Bx,hBx,bX,rfl⟩ hlt;obtain ⟨xh,xb⟩:=x;have hsW:=h3.size;have d0:W.cell? ⟨w3.heap.size,0,none⟩=some v:=ae h1 0;have d1:W.frozen? ⟨w3.heap.size,0,none⟩=false:=ap h1 0;have d2:W.cell? ⟨Bx,1,none⟩=some (.int .i64 xb):=ae bX 1;obtain ⟨av,cv,rfl,_⟩:=aC h2;have hwl:=Ad pre;obtain ⟨q,hq⟩:∃ q,q=decide (xb∈ee pre):=⟨_,rfl⟩
   have hrw:aI W 1 (.slice av (ee pre).length cv) ((ee pre).map fun x=>[Value.int .i64 x]):=by
    refine fL (base:=W0.heap.size) (e:=3) (n:=(ee pre).length) ?_ (by rw [I9]) (by intro c hc;simp only [It] at hc;obtain ⟨x,_,rfl⟩:=hc;rfl);rw [Bb];exact h2
   have HQ:=Hu hq;clear hq
   cases q with
   | true=>
    gi_wp2_with (refine ⟨trivial,?_⟩;gi_at_call 136;refine (CallsIn.inRound l (callsIn_wide.2 (mS _ (ee pre) xb _ hrw true HQ.out))).mono ?_;rintro e w' ⟨rfl,rfl⟩)
    exact ⟨KeepsFrom.refl _ _,Kw.refl _ _ _,⟨_,h1,by rw [iC];unfold jZ;rw [if_pos (by simpa using HQ.out.symm)];exact h2,h3,h4⟩⟩
   | false=>
    have HW:=Hu (show ee (pre++[⟨xh,xb⟩])=ee pre++[xb] by rw [iC];unfold jZ;rw [if_neg (by simpa using HQ.out.symm)]);obtain ⟨i0,hi,hi0,hi1,hi2⟩:=info_parts Bf
    gi_wp2_with (first|(refine ⟨trivial,?_⟩;gi_at_call 136;refine (CallsIn.inRound l (callsIn_wide.2 (mS _ (ee pre) xb _ hrw false HQ.out))).mono ?_;rintro e w' ⟨rfl,rfl⟩)|(gi_at_builtin;go_loud (refine wpListIn_append_own _ rfl _ _ 117 rfl W0.heap.size 3 i0 (.int .i64 0) 1 8 Tryz.underlying117 hi hi0 hi1 hi2 rfl (by decide) _ _ _ rfl (h2.alloc _) ⟨w'.heap.size,0,none⟩ 1 1 [.int .i64 xb] rfl rfl (fG rfl [.int .i64 xb] 3) (by simp [Value.oneCell']) (by unfold maxLen;omega) (by omega) (by simp;omega) ?_);intro v6 w6 hown6 hgrow0 _;have hgrow:(w'.alloc (.cells #[.int .i64 xb] 3)).grownBy w6 (Value.slice av (ee pre).length cv).ownBlock:=hgrow0;have hb6:=cM (B:=W0.heap.size) ((Hv w'.heap.size w').alloc (I3 _) _) h4 h2 hgrow;have HG:=Hu hgrow;have e1:=aj hb6 h1 (by omega);have d6:w6.cell? ⟨w3.heap.size,0,none⟩=some _:=ae e1 0;have f6:=ap e1 0;have HO6:=Hu hown6;have HB6:=Hu hb6;obtain ⟨a6,c6,rfl,_⟩:=aC hown6;clear hgrow hgrow0 hb6 hown6))
    have hz6:=HB6.out.size;refine ⟨((((KeepsOthers.alloc w' _).trans (KeepsOthers.of_grownBy HG.out (rE (h2.alloc _)))).trans (KeepsOthers.setCell _ _ _)).from _),?_,?_⟩
    ·refine ⟨by simp;omega,fun b hb1 hb2=>?_⟩;exact (I2 _ _ _ _ hb2).trans (HB6.out.block b hb1)
    ·refine ⟨_,aP e1 _,?_,(h3.trans (HB6.out.mono (by omega))).setCell (by simp;omega) _,by simp;omega⟩;rw [HW.out,Ic,Ir];exact ql HO6.out (by simp;omega) _
  case done=>
   rintro D ys W hD ⟨k,hcut,rfl⟩ ⟨v,h1,h2,h3,h4⟩ hK;have d0:W.cell? ⟨w3.heap.size,0,none⟩=some v:=ae h1 0;go_wp2;refine ⟨by simp,.inl ⟨_,_,rfl,run_takeDeferred hK,?_⟩⟩;refine ⟨_,results_tmp2 rfl _ _ _,?_⟩;rw [HAT.out]
   have e:gU X at_=ee (xz k X):=by unfold gU;rw [yB HM.out.1 hcut]
   rw [e];exact WalkPost.own (B:=W0.heap.size) (Fu h2 hK) rfl (by omega) (BD h3 hK (by omega))
  case stop=>
   rintro D c pre W _ _ h _;exact h.elim
end
end Go.Proofs.YtfliffgmeobclaaGreat
