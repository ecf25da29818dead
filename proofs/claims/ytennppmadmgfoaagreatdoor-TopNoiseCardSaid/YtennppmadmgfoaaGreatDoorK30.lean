/- Texts of the row's proof. Conditions: none. -/
import Derived.Test.YtennppmadmgfoaaGreatDoorK24
import Derived.Test.YtennppmadmgfoaaGreatDoorK29
namespace Go.Proofs.YtennppmadmgfoaaGreatDoor
open Proofs.Tryz
set_option maxRecDepth 100000
set_option maxHeartbeats 8000000
section
open Go.RowKit
theorem Q98 {p:Prop} (h:p:=by
 go_in;go_wp2_with fail;refine K.out.mono ?_;rintro e w' ⟨rfl,rfl⟩;go_wp2
 all_goals first|(go_ret;exact ⟨rfl,rfl⟩)|exact Zx):p:=h
end
section
open Go.RowKit Go.Shelf
attribute [local go_sem] Oper.semAt_some
theorem Dp (v:Value) (L:List Int) (b:Int) (w:World) (r:aK w 1 v (L.map fun x=>[Value.int .i64 x])):Calls prog 162 #[v,.int .i64 b] w fun e w'=>e=.returned (.int .i64 (aU (fun x=>b == x) L))/\w'=w:=by
 obtain ⟨a,c,rfl,_,m1,_,p1⟩:=aO (0:Int) r;unfold maxLen at m1;have P1:=KL p1;clear r p1;go_in;go_wp2
 go_loop [8] (fun U=>∃ z:Nat,z<=L.length/\U=.int .i64 z/\∀ x∈L.take z,(b == x)=false) (fun U=>L.length - (intOf U).toNat)
 case atStart=>exact ⟨0,La _,rfl,by simp⟩
 case round=>
  obtain ⟨z,hk,rfl,Z⟩:=hrel;have I:=KL Z;clear Z;rcases (show z<L.length\/L.length=z by omega) with E|a1
  ·have a6:(z:Int)<(L.length:Int):=by omega
   have p0:(0:Int)<=(z:Int):=by omega
   obtain ⟨b1,o1,rfl,a4,q1⟩:=P1.out (by intro h;rw [h] at E;simp at E);have Y:=q1 z 0 E (by omega);obtain ⟨J,K⟩:∃ J,J=L.getD z 0:=⟨_,rfl⟩;rw [<- K] at Y;simp only [Lb,Nat.mul_one,Nat.add_zero] at Y;have W:=KL K;clear K q1;by_cases hb:b=J
   ·subst hb;go_wp2
    all_goals first|(go_ret;exact ⟨rI (lD (p:=fun x=>b == x) E W.out (by simp) I.out).symm,rfl⟩)|exact Zx
   ·have a3:(b == J)=false:=by simpa using hb
    have a2:=KL (nt (p:=fun x=>b == x) E W.out a3 I.out);go_wp2
    all_goals
     go_round
     case rel=>exact ⟨z+1,by omega,by go_num,a2.out⟩
     case measure=>simp [intOf];omega
  ·have a5:¬ (z:Int)<(L.length:Int):=by omega
   have HE:=KL (jN a1 I.out);clear a1 I;go_wp2
   all_goals first|(go_ret;exact ⟨rI HE.out.symm,rfl⟩)|exact Zx
theorem nP (v:Value) (L:List Int) (b:Int) (w:World) (r:aK w 1 v (L.map fun x=>[Value.int .i64 x])) (q:Bool) (J:q=decide (b∈L)):Calls prog 140 #[v,.int .i64 b] w fun e w'=>e=.returned (.bool q)/\w'=w:=by
 have K:=KL (Dp v L b w r);have z:=iE (fun x=>b == x) L
 have E:L.any (fun x=>b == x)=q:=by
  rw [J,Bool.eq_iff_iff];simp
 rw [E] at z;obtain ⟨i,I⟩:∃ i,i=aU (fun x=>b == x) L:=⟨_,rfl⟩;rw [<- I] at K z;obtain ⟨W,Y,rfl,_⟩:=ap (f:=fun x:Int=>[Value.int .i64 x]) r;clear r I E J
 cases q with
 | true=>
  have U:0<=i:=z.1.1 rfl;clear z;exact Q98
 | false=>
  have U:i<0:=z.2.1 rfl;clear z
  have Z:decide (0<=i)=false:=by simp;omega
  exact Q98
theorem uI (v:Value) (a:Int) (w:World) (z:∃ x n c,v=.slice x n c):Calls prog 139 #[v,.int .i64 a] w fun e w'=>e=.returned (.func (.func 160) #[] #[.pointer (some ⟨w.heap.size,0,none⟩),.pointer (some ⟨w.heap.size+1,0,none⟩)])/\w'=(w.alloc (.cells #[v] 46)).alloc (.cells #[.int .i64 a] 3):=by
 obtain ⟨x,n,c,rfl⟩:=z;go_in;go_wp2
 all_goals first|(go_ret;exact ⟨rfl,rfl⟩)|exact Zx
theorem oN {W z:World} {B b:Nat} {cs:Array Value} {t:TypeId} {fr:Nat×Nat} {I:Option Nat} (h:W.heap[b]?=some (.cells cs t fr)) (U:W.grownBy z I) (Z:∀ r,I=some r->B<=r/\∃ o:Obj,W.heap[r]?=some o/\o.isCells=false):z.heap[b]?=some (.cells cs t fr):=by
 have Y:=lt_of_block h;refine (U.block b Y (fun J=>?_)).trans h;obtain ⟨_,o,E,K⟩:=Z b J.symm;rw [h] at E
 cases E
 cases K
theorem EW {W h:World} {B B' sz n:Nat} {t:TypeId} {v:Value} {cs:List Value} {E:Option Nat} (U:W.ownsRow B' t sz v n cs) (hg:W.grownBy h E) (hr:∀ r,E=some r->B<=r/\∃ o:Obj,W.heap[r]?=some o/\o.isCells=false):h.ownsRow B' t sz v n cs:=by
 obtain ⟨z,Y|⟨K,I,J,Z,h4,h5,h6⟩⟩:=U
 ·exact ⟨z,Or.inl Y⟩
 ·exact ⟨z,Or.inr ⟨K,I,J,Z,h4,oN h5 hg hr,h6⟩⟩
theorem Ak {W W' A:World} {B B':Nat} {h:Option Nat} (z:Below B' A W) (E:B'<=B) (U:B'<=W.heap.size) (I:W.grownBy W' h) (K:∀ r,h=some r->B<=r/\∃ o:Obj,W.heap[r]?=some o/\o.isCells=false):Below B' A W':=
 z.grown I U (fun Y J=>Lz E (K Y J).1)
theorem Dg (L:List Int):(L.map fun x=>[Value.int .i64 x]).flatten=L.map (Value.int .i64):=by
 exact Q122
theorem sU {w:World} {B e sz n:Nat} {v:Value} {xs:List Value} (E:w.ownsRow B e sz v n xs):∀ (j:Nat) (o:Obj),v.ownBlock=some j->w.heap[j]?=some o->o.isCells=true:=by
 intro j o z h;rcases E.2 with ⟨rfl,_⟩|⟨U,J,K,rfl,_,I,_⟩
 ·cases z
 ·cases z;rw [I] at h;cases h;rfl
theorem Gk {W:World} {D b:Nat} {o J:Obj} {x:Obj} (E:W.heap[D]?=some o) (I:o.isCells=false) (h:W.heap[b]?=some x) (z:x.isCells=true):(W.putObj D J).heap[b]?=some x:=by
 have:b≠D:=by rintro rfl;rw [E] at h;cases h;rw [I] at z;cases z
 exact (World.putObj_heap_other this).trans h
theorem IM {W:World} {D:Nat} {o':Obj} {B e sz n:Nat} {v:Value} {xs:List Value} (J:W.ownsRow B e sz v n xs) (hK:W.heap[D]?=some (.deferred (some []))):(W.putObj D o').ownsRow B e sz v n xs:=by
 obtain ⟨h,K|⟨I,z,E,U,Y,Z,h6⟩⟩:=J
 ·exact ⟨h,Or.inl K⟩
 ·exact ⟨h,Or.inr ⟨I,z,E,U,Y,Gk hK rfl Z rfl,h6⟩⟩
theorem DJ {A W:World} {D B:Nat} {o z:Obj} (h:Below B A W) (_hK:W.heap[D]?=some o) (E:B<=D):Below B A (W.putObj D z):=
 h.trans ⟨rfl,rfl,rfl,by simp,fun J I=>World.putObj_heap_other (by omega)⟩
def WkI (w:World) (h bo:Nat) (z:List Sp) (W:World):Prop:=∃ v,W.heap[bo]?=some (.cells #[v] 124 (0,0))/\W.ownsRow h 3 1 v (ep z).length ((ep z).map (Value.int .i64))/\Below w.heap.size w W/\h<=W.heap.size
theorem WkI.own {w:World} {E bo:Nat} (I:w.heap.size<=E):OwnFrom E (WkI w E bo):=by
 intro s W W' a0 Z h z;obtain ⟨v,K,U,Y,J⟩:=Z;exact ⟨v,oN K h z,EW U h z,Ak Y I (Lz I J) h z,Lz J h.size⟩
theorem xq (v:Value) (X:List Sp) (w:World) (key:Int) (L:List Int) (c:Int) (r:aK w 2 v (X.map Sp.cells)) (hn:X.length*16<=140737488351232) (ha:BK X key L c):Calls prog 100 #[.agg #[v],.int .i64 key] w (WalkPost w L c):=by
 have R:=KL r;obtain ⟨a,cp,rfl,_⟩:=ap r;have HA:=KL ha;clear r ha;refine (callsIn_wide (n:=6)).1 ?_;refine callsIn_of_wp_marks func100 rfl trivial ?_ rfl;refine wpIn_wide.2 ?_;simp only [ntmps100,List.size_toArray,List.length_cons,List.length_nil,Nat.reduceAdd,Nat.reduceSub,Array.replicate_succ,Array.replicate_zero,List.push_toArray,List.append_toArray,List.nil_append,List.cons_append];go_wp2_with fail;refine (jG _ X _ (ai R.out _) hn).mono ?_;rintro e w1 ⟨W,bo,hW,rfl,h1,h2,hb⟩;have HB:=KL (((KM w.heap.size w).alloc (KY _) _).trans (hb.mono (by simp)));have hz1:=hb.size;simp at hz1;have k0:w.heap.size<w1.heap.size:=by omega
 have g0:w1.cell? ⟨w.heap.size,0,none⟩=some (.slice a X.length cp):=by rw [hb.cell (p:=⟨w.heap.size,0,none⟩) Zs];go_simp
 have H1:=KL h1;have H2:=KL h2;have HW:=KL hW;clear hb h1 h2 hW;rcases HA.out with ⟨hm,rfl,rfl⟩|⟨hm,hs,rfl,rfl⟩|⟨K,hm,rfl,hK,rfl,rfl⟩
 ·have:=H2.out hm;subst this;clear hm HA;go_wp2_with (refine bQ rfl 262 (.tmp 6) (.tmp 15) rfl w1.heap.size (cW W) rfl rfl 262 (cW (List.replicate 12 0)) (aB _ rfl) (cz HW.out) (by rw [dx HW.out];rfl) (dX _) ?_;intro W2 hW2 _ hs2 hb2;obtain ⟨hc2,hf2⟩:=aX hb2;have hb2':=KL ((HB.out.alloc (by omega) _).trans (hb2.mono (by omega)));clear hb2;simp at hs2);exact ⟨_,results_tmp2 rfl _ _ _,WalkPost.nil hb2'.out⟩
 ·obtain ⟨rfl,rfl⟩:=H1.out hm;clear hm HA;go_wp2_with (refine bQ rfl 262 (.tmp 6) (.tmp 15) rfl w1.heap.size (cW (fG X 12)) rfl rfl 262 (cW (List.replicate 12 0)) (aB _ rfl) (cz HW.out) (by rw [dx HW.out];rfl) (dX _) ?_;intro W2 hW2 _ hs2 hb2;obtain ⟨hc2,hf2⟩:=aX hb2;have hb2':=KL ((HB.out.alloc (by omega) _).trans (hb2.mono (by omega)));clear hb2;simp at hs2);refine (uM key _ (by omega)).mono ?_;rintro e w3 ⟨rfl,hb3⟩;have HB3:=KL (hb2'.out.trans (hb3.mono (by omega)));clear hb3;go_wp2
  all_goals exact ⟨_,results_tmp2 rfl _ _ _,WalkPost.nil HB3.out⟩
 ·obtain ⟨rfl,rfl⟩:=H1.out hm;have HM:=KL hm;clear hm HA;go_wp2_with (refine bQ rfl 262 (.tmp 6) (.tmp 15) rfl w1.heap.size (cW (fG X 12)) rfl rfl 262 (cW (List.replicate 12 0)) (aB _ rfl) (cz HW.out) (by rw [dx HW.out];rfl) (dX _) ?_;intro W2 hW2 _ hs2 hb2;obtain ⟨hc2,hf2⟩:=aX hb2;have hb2':=KL ((HB.out.alloc (by omega) _).trans (hb2.mono (by omega)));clear hb2;simp at hs2);refine (xu K _ hK).mono ?_;rintro e w3 ⟨rfl,hb3⟩;have hz3:=hb3.size;have HB3:=KL (hb2'.out.trans (hb3.mono (by omega)))
  have g3:w3.cell? ⟨w.heap.size,0,none⟩=some (.slice a X.length cp):=by rw [hb3.cell (p:=⟨w.heap.size,0,none⟩) (by simp;omega),hc2 _ _ k0];go_simp
  have k3:w.heap.size<w3.heap.size:=by omega
  obtain ⟨at_,hat⟩:∃ a:Nat,a=zL (K % 256) (K / 256 % 256) (K / 65536 % 256) (K / 16777216):=⟨_,rfl⟩;rw [<- hat];have HAT:=KL (show CY K=(at_:Int) by rw [hat];rfl);clear hat hb3 hc2 hf2 hW2 hb2' g0;go_wp2_with (go_at_call 139;refine (uI _ _ _ ⟨_,_,_,rfl⟩).mono ?_;rintro e w' ⟨rfl,rfl⟩);obtain ⟨W0,hW0⟩:∃ W0,W0=((w3.alloc (.cells #[.slice none 0 0] 124)).alloc (.cells #[.slice a X.length cp] 46)).alloc (.cells #[.int .i64 (at_:Int)] 3):=⟨_,rfl⟩
  have hsz:W0.heap.size=w3.heap.size+1+1+1:=by rw [hW0];simp
  have hB0:Below w3.heap.size w3 W0:=by rw [hW0];exact (((KM _ _).alloc (KY _) _).alloc (by simp) _).alloc (by simp;omega) _
  have b0:W0.heap[w3.heap.size]?=some (.cells #[.slice none 0 0] 124 (0,0)):=by rw [hW0];exact (KQ _ _ _ (by simp;omega)).trans ((KQ _ _ _ (by simp)).trans (aB _ rfl))
  have b1:W0.heap[w3.heap.size+1]?=some (.cells #[.slice a X.length cp] 46 (0,0)):=by rw [hW0];exact (KQ _ _ _ (by simp)).trans (aB _ (by simp))
  have b2:W0.heap[w3.heap.size+1+1]?=some (.cells #[.int .i64 (at_:Int)] 3 (0,0)):=by rw [hW0];exact aB _ (by simp)
  rw [<- hW0];clear hW0;have HB0:=KL (HB3.out.trans (hB0.mono HB3.out.size));have hrow:aK W0 2 (.slice a X.length cp) (X.map Sp.cells):=aq R.out HB0.out;have hlX:=HM.out.len;have c1:W0.cell? ⟨w3.heap.size+1,0,none⟩=some (.slice a X.length cp):=ae b1 0;have c2:W0.cell? ⟨w3.heap.size+1+1,0,none⟩=some (.int .i64 (at_:Int)):=ae b2 0
  have hne:X≠[]->∀ ad,a=some ad->ad.block≠w3.heap.size:=by
   intro hX ad hd;obtain ⟨a',c',e,_,_,_,p⟩:=aO Sp.zero R.out;injection e with e1 _ _;obtain ⟨b,o,e2,hb,_⟩:=p hX;rw [hd] at e1;rw [<- e1] at e2;injection e2 with e2;rw [e2];show b≠w3.heap.size
   omega
  have hw3:w.heap.size<=w3.heap.size:=HB3.out.size;refine (wpIn_wide (n:=6)).1 ?_
  refine wpIn_rangeFunc_ownH (P:=prog) rfl (by omega) (gf:=160) (lb:=#[.pointer (some ⟨w3.heap.size+1,0,none⟩),.pointer (some ⟨w3.heap.size+1+1,0,none⟩)]) rfl trivial (enters_of func160 (by kernel_rfl) rfl)
   (vO 5 (by omega) (w3.heap.size+1) (w3.heap.size+1+1) w3.heap.size cp a at_ X hlX HM.out.ord W0 c1 c2 (by omega) hrow hne) Kw.trans (kw_b (KY _)) (KM _ _) (fun _=>rfl)
   (WkI w W0.heap.size w3.heap.size) (fun _ _ _=>False) (WkI.own (by omega)) (fun _ _ _ _ _ hs _ _=>hs)
   ⟨_,b0,LJ _ _ _ _,HB0.out,KY _⟩
   (fun x a' W=>∃ Bx,W0.heap.size<=Bx/\W.heap[Bx]?=some (.cells #[.int .i64 x.hash,.int .i64 x.backend] 179 (0,0))/\a'={ tmps:=#[.agg #[.slice a X.length cp],.int .i64 (K:Int),.pointer (some ⟨w.heap.size,0,none⟩),undef,.slice none 0 0,.int .i64 0,.pointer (some ⟨w1.heap.size,0,none⟩),.bool true,.int .i64 (at_:Int),.int .i64 0,.pointer (some ⟨w3.heap.size,0,none⟩),.pointer (some ⟨Bx,0,none⟩),.tuple #[.agg (cW (fG X 12)),.bool true],.agg #[.slice a X.length cp],.tuple #[.agg (cW (fG X 12)),.bool true],.agg (cW (fG X 12)),.bool true,.bool true,.bool false,.tuple #[.int .i64 (at_:Int),.int .i64 0],.int .i64 (K:Int),.tuple #[.int .i64 (at_:Int),.int .i64 0],.int .i64 (at_:Int),.int .i64 0,.int .i64 0,.bool false,undef,.pointer (some ⟨w.heap.size,0,none⟩),.slice a X.length cp,.int .i64 (at_:Int),.func (.func 160) #[] #[.pointer (some ⟨w3.heap.size+1,0,none⟩),.pointer (some ⟨w3.heap.size+1+1,0,none⟩)],.agg #[.int .i64 x.hash,.int .i64 x.backend],undef,undef,undef,undef,undef,undef,undef,undef,undef,undef,undef],defers:=[] })
   (fun x a' _ Y Z row hs hg hr=>by obtain ⟨Bx,h1,h2,h3⟩:=hs;exact ⟨Bx,h1,oN h2 hg hr,h3⟩) ?assign ?body ?done ?stop
  case assign=>
   rintro l pre x W K' ⟨v,h1,h2,h3,h4⟩ hK';simp only [Ba]
   gi_wp2
   exact hK' _ _ ((KeepsOthers.alloc _ _).from _) (Kw.of_below ((KM W.heap.size W).alloc (KY _) _) h4) ⟨v,(KQ _ _ _ (lt_of_block h1)).trans h1,h2.alloc _,h3.alloc h3.size _,by simp;omega⟩ ⟨W.heap.size,h4,aB _ rfl,rfl⟩
  case body=>
   rintro l pre x a' W hl ⟨rl,hrl⟩ ⟨v,h1,h2,h3,h4⟩ ⟨Bx,hBx,bX,rfl⟩ hlt;obtain ⟨xh,xb⟩:=x;have hsW:=h3.size;have d0:W.cell? ⟨w3.heap.size,0,none⟩=some v:=ae h1 0;have d1:W.frozen? ⟨w3.heap.size,0,none⟩=false:=az h1 0;have d2:W.cell? ⟨Bx,1,none⟩=some (.int .i64 xb):=ae bX 1;obtain ⟨av,cv,rfl,_⟩:=aE h2;have hwl:=Ch pre;obtain ⟨q,hq⟩:∃ q,q=decide (xb∈ep pre):=⟨_,rfl⟩
   have hrw:aK W 1 (.slice av (ep pre).length cv) ((ep pre).map fun x=>[Value.int .i64 x]):=by
    refine fS (base:=W0.heap.size) (e:=3) (n:=(ep pre).length) ?_ (by rw [Lh]) (by intro c hc;simp only [LH] at hc;obtain ⟨x,_,rfl⟩:=hc;rfl);rw [Dg];exact h2
   have HQ:=KL hq;clear hq
   cases q with
   | true=>
    gi_wp2_with (refine ⟨trivial,?_⟩;gi_at_call 140;refine (CallsIn.inRound l (callsIn_wide.2 (nP _ (ep pre) xb _ hrw true HQ.out))).mono ?_;rintro e w' ⟨rfl,rfl⟩)
    exact ⟨KeepsFrom.refl _ _,Kw.refl _ _ _,⟨_,h1,by rw [iK];unfold ku;rw [if_pos (by simpa using HQ.out.symm)];exact h2,h3,h4⟩⟩
   | false=>
    have HW:=KL (show ep (pre++[⟨xh,xb⟩])=ep pre++[xb] by rw [iK];unfold ku;rw [if_neg (by simpa using HQ.out.symm)]);obtain ⟨i0,hi,hi0,hi1,hi2⟩:=info_parts Dk
    gi_wp2_with (first|(refine ⟨trivial,?_⟩;gi_at_call 140;refine (CallsIn.inRound l (callsIn_wide.2 (nP _ (ep pre) xb _ hrw false HQ.out))).mono ?_;rintro e w' ⟨rfl,rfl⟩)|(gi_at_builtin;go_loud (refine wpListIn_append_own _ rfl _ _ 124 rfl W0.heap.size 3 i0 (.int .i64 0) 1 8 underlying124 hi hi0 hi1 hi2 rfl (by decide) _ _ _ rfl (h2.alloc _) ⟨w'.heap.size,0,none⟩ 1 1 [.int .i64 xb] rfl rfl (fO rfl [.int .i64 xb] 3) (by simp [Value.oneCell']) (by unfold maxLen;omega) (by omega) (by simp;omega) ?_);intro v6 w6 hown6 hgrow0 _;have hgrow:(w'.alloc (.cells #[.int .i64 xb] 3)).grownBy w6 (Value.slice av (ep pre).length cv).ownBlock:=hgrow0;have hb6:=cP (B:=W0.heap.size) ((KM w'.heap.size w').alloc (KY _) _) h4 h2 hgrow;have HG:=KL hgrow;have e1:=aj hb6 h1 (by omega);have d6:w6.cell? ⟨w3.heap.size,0,none⟩=some _:=ae e1 0;have f6:=az e1 0;have HO6:=KL hown6;have HB6:=KL hb6;obtain ⟨a6,c6,rfl,_⟩:=aE hown6;clear hgrow hgrow0 hb6 hown6))
    have hz6:=HB6.out.size;refine ⟨((((KeepsOthers.alloc w' _).trans (KeepsOthers.of_grownBy HG.out (sU (h2.alloc _)))).trans (KeepsOthers.setCell _ _ _)).from _),?_,?_⟩
    ·refine ⟨by simp;omega,fun b hb1 hb2=>?_⟩;exact (KV _ _ _ _ hb2).trans (HB6.out.block b hb1)
    ·refine ⟨_,aR e1 _,?_,(h3.trans (HB6.out.mono (by omega))).setCell (by simp;omega) _,by simp;omega⟩;rw [HW.out,Ll,LG];exact rv HO6.out (by simp;omega) _
  case done=>
   rintro D ys W hD ⟨k,hcut,rfl⟩ ⟨v,h1,h2,h3,h4⟩ hK;have d0:W.cell? ⟨w3.heap.size,0,none⟩=some v:=ae h1 0;go_wp2;refine ⟨by simp,.inl ⟨_,_,rfl,run_takeDeferred hK,?_⟩⟩;refine ⟨_,results_tmp2 rfl _ _ _,?_⟩;rw [HAT.out]
   have e:gZ X at_=ep (zb k X):=by unfold gZ;rw [Ai HM.out.1 hcut]
   rw [e];exact WalkPost.own (B:=W0.heap.size) (IM h2 hK) rfl (by omega) (DJ h3 hK (by omega))
  case stop=>
   rintro D c pre W _ _ h _;exact h.elim
end
end Go.Proofs.YtennppmadmgfoaaGreatDoor
