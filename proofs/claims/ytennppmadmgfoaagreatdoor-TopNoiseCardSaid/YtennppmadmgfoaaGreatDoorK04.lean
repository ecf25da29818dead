/- Texts of the row's proof. Conditions: none. -/
import Derived.Deep.RegionHeld3
import Derived.Test.YtennppmadmgfoaaGreatDoorK02
namespace Go.Proofs.YtennppmadmgfoaaGreatDoor
open Proofs.Tryz
set_option maxRecDepth 100000
set_option maxHeartbeats 8000000
section
open Go.RowKit
theorem Q129 {p:Prop} (h:p:=by
 go_roundw
 case rel=>exact ⟨k+1,by omega,by go_num,B1.out,HA2.out⟩
 case measure=>simp [intOf];omega):p:=h
theorem Q11 {p:Prop} (h:p:=by
 go_wp2_with fail;refine (HC.out).mono ?_;rintro e w1 ⟨rfl,hb1⟩;have B1:=KL (HB.out.trans (hb1.mono HB.out.size));clear hb1 HB HC;by_cases hp:p o=true
 ·have HP:=KL hp;simp only [hp];clear hp;go_wp2;go_ret;exact ⟨rI (lD hlt HO.out HP.out HA.out).symm,B1.out⟩
 ·have hp':p o=false:=by simpa using hp
  have HA2:=KL (nt hlt HO.out hp' HA.out);simp only [hp'];clear hp hp' HA;go_wp2;exact Q129):p:=h
theorem Q18 {p:Prop} (h:p:=by
 go_in;go_wp2_with (first|(go_at_call 32;refine (iQ _ _ _ _ H.out).mono ?_;rintro e w1 ⟨rfl,hb1⟩;obtain ⟨hc1,hf1⟩:=aX hb1;have hz1:=fX hb1;have hy1:=hb1.size;(try simp at hy1)))
 all_goals exact Zf):p:=h
theorem Q120 {p:Prop} (h:p:=by
 have HB:=KL hbel;clear heq hbel HA;go_wp2
 all_goals first|(go_ret;exact ⟨rI HE.out.symm,HB.out⟩)|exact Zx):p:=h
theorem Q22 {p:Prop} (h:p:=by
 have hge:¬ (k:Int)<(X.length:Int):=by omega
 have HE:=KL (jN heq HA.out);exact Q120):p:=h
theorem Q24 {p:Prop} (h:p:=by
 go_wp2;refine wp_loop_rounds 1 ?_;rw [rounds_succ];go_wp2
 all_goals first|(go_ret;exact ⟨rfl,KM _ _⟩)|exact Zx):p:=h
theorem Q27 {p:Prop} (h:p:=by
 go_wp2;exact Q129):p:=h
theorem Q28 {p:Prop} (h:p:=by
 intro c hc;simp only [LH] at hc;obtain ⟨x,_,rfl⟩:=hc
 rfl):p:=h
theorem Q112 {p:Prop} (h:p:=by
 clear hr h1;go_in;go_wp2
 all_goals exact Zf):p:=h
theorem Q30 {p:Prop} (h:p:=by
 by_cases h1:un=0
 ·subst h1
  ·by_cases h1:rq=0
   ·subst h1
    ·obtain rfl:r=true:=by rcases hr with ⟨_,h⟩|⟨h,_⟩;exact h;(refine absurd ?_ h;simp only [eG];first|omega|(simp;done)|(simp;omega))
     clear hr;go_in;go_wp2
     all_goals exact Zf
   ·obtain rfl:r=false:=by rcases hr with ⟨h,_⟩|⟨_,h⟩;(simp only [eG] at h;omega);exact h
    have e1:(rq == 0)=false:=by simpa using h1
    exact Q112
 ·obtain rfl:r=false:=by rcases hr with ⟨h,_⟩|⟨_,h⟩;(simp only [eG] at h;omega);exact h
  have e1:(un == 0)=false:=by simpa using h1
  exact Q112):p:=h
theorem Q34 {p:Prop} (h:p:=by
 go_in;go_wp2_with fail;refine (fp _ X _ (ai (ai (ai R.out _) _) _) H.out).mono ?_;rintro e w1 ⟨rfl,hb1⟩;obtain ⟨hc1,hf1⟩:=aX hb1;have hz1:=fX hb1;have hy1:=hb1.size;simp at hy1;have hb2:b0<w.heap.size+1:=by omega
 have hb3:b0<w.heap.size+1+1:=by omega
 have hb4:b0<w.heap.size+1+1+1:=by omega
 go_wp2;refine LN (v:=.tuple #[.agg #[.int .i64 0,.bool false,.int .i64 0,.int .i64 0],.int .i64 10]) ?_ rfl ?_;(focus (first|(simp [results,results80,go_sem];done)|(simp [results,results80,go_sem, *];done)));exact ⟨rfl,Zb⟩):p:=h
theorem Q35 {p:Prop} (h:p:=by
 obtain rfl:r=true:=by rcases hr with ⟨_,h⟩|⟨h,_⟩;exact h;(refine absurd ?_ h;simp only [eG];first|omega|(simp;done)|(simp;omega))
 clear hr;go_in;go_wp2
 all_goals exact Zf):p:=h
theorem Q36 {p:Prop} (h:p:=by
 go_wp2_with fail;refine K.out.mono ?_;rintro e w1 ⟨rfl,hb1⟩;have B1:=KL hb1;clear hb1 K;go_wp2
 all_goals first|(go_ret;exact ⟨rfl,B1.out⟩)|exact Zx):p:=h
theorem Q40 {p:Prop} (h:p:=by
 clear ht HBad HC;go_wp2_with (go_at_call 87;refine (wZ _ _ _ _ _ _ _ _ HT.out).mono ?_;rintro e w1 ⟨rfl,hb1⟩;obtain ⟨hc1,hf1⟩:=aX hb1;have hz1:=fX hb1;have hy1:=hb1.size;(try simp at hy1))
 all_goals first|(go_ret;exact ⟨rI hrf.out.symm,(by refine KS ?_ (Below.mono hb1 Zs);repeat (first|(with_reducible exact HB.out)|(with_reducible refine KN ?_)|(with_reducible refine aM ?_)|(with_reducible refine KU ?_ Zs _)|(with_reducible refine KO ?_ Zs _)))⟩)|exact Zx):p:=h
theorem Q43 {p:Prop} (h:p:=by
 refine Below.grown ?_ hgrow ?_ ?_
 ·(repeat (first|(with_reducible exact KM _ _)|(with_reducible assumption)|(with_reducible refine KN ?_)|(with_reducible refine aM ?_)|(with_reducible refine KU ?_ (by first|omega|(simp;done)|(simp;omega)) _)|(with_reducible refine KO ?_ (by first|omega|(simp;done)|(simp;omega)) _)))
 ·first|omega|(simp;omega)
 ·intro r hr;simp [Value.ownBlock] at hr;omega):p:=h
theorem Q67 {p:Prop} (h:p:=by
 obtain ⟨k,hk,rfl,hbel,hall⟩:=hrel;have HA:=KL hall;clear hall;rcases (show k<X.length\/X.length=k by omega) with hlt|heq
 ·have hlt':(k:Int)<(X.length:Int):=by omega
  obtain ⟨o,ho⟩:∃ o,o=X.getD k Ld.zero:=⟨_,rfl⟩;have HO:=KL ho
  have hm:o∈X:=by rw [ho];simp only [List.getD,Lj hlt,LI];exact Lp _
  have HC:=KL (HF.out o hm _ hbel)
  have hold:∀ j,j<3->wr.cell? ⟨b0,o0+k*3+j,none⟩=o.cells[j]?:=fun j hj=>by
   rw [hbel.cell (p:=⟨b0,o0+k*3+j,none⟩) hb0,ho];exact H1.out k j hlt hj
  have a0:=hold 0 (by omega);have a1:=hold 1 (by omega);have a2:=hold 2 (by omega);clear hold ho hm;have HB:=KL hbel;clear hbel;simp only [Ld.cells,Lb,Lc,Nat.add_zero] at a0 a1 a2;exact Q11
 ·exact Q22):p:=h
theorem Q78 {p:Prop} (h:p:=by
 obtain rfl:r=true:=by rcases hr with ⟨_,h⟩|⟨h,_⟩;exact h;(refine absurd ?_ h;simp only [fR];first|omega|(simp;done)|(simp;omega))
 clear hr;go_in;go_wp2
 all_goals exact Zf):p:=h
theorem Q91 {p:Prop} (h:p:=by
 clear hown' hgrow;have B1':=B1.out;go_wp2;refine LN (v:=.tuple #[.slice a' 3 cap',.bool true]) ?_ rfl ⟨_,rfl,O1.out,B1'⟩;simp [results,results13,go_sem, *]):p:=h
theorem Q111 {p:Prop} (h:p:=by
 rw [hbel.cell (p:=⟨b0,o0+k*4+j,none⟩) hb0,ho];exact H1.out k j hlt hj):p:=h
theorem Q125 {p:Prop} (h:p:=by
 go_in;go_wp2_with fail
 all_goals first|(go_ret;exact ⟨rfl,Zb⟩)|exact Zx):p:=h
theorem Q130 {p:Prop} (h:p:=by
 go_wp2;go_roundw
 case rel=>exact ⟨k+1,by omega,by go_num,HS.out⟩
 case measure=>simp [intOf];omega):p:=h
theorem Q133 {p:Prop} (h:p:=by
 rintro e w1 ⟨rfl,rfl⟩;go_wp2
 all_goals first|(go_ret2;exact ⟨rII rfl rfl,Zb⟩)|exact Zx):p:=h
theorem Q155 {p:Prop} (h:p:=by
 rw [hbel.cell (p:=⟨b0,o0+k*2+j,none⟩) hb0,ho];exact H1.out k j hlt hj):p:=h
theorem Q157 {p:Prop} (h:p:=by
 rw [hb.cell (p:=⟨b0,o0+k*4+j,none⟩) hb0,hs];exact H1.out k j hlt hj):p:=h
theorem Zh {p:Prop} (h:p:=by simp only [Le,Lb,Lc];exact rfl):p:=h
theorem Zy {p:Prop} (h:p:=by first|exact Or.inr ⟨by rfl,rfl⟩|(refine Or.inl ⟨by rfl,?_⟩;intro w hSw;(try dsimp only at hSw);go_simp;(try with_reducible rfl))):p:=h
theorem Zv {p:Prop} (h:p:=by first|(simp only [Act.put,List.setIfInBounds_toArray,List.set_cons_zero,List.set_cons_succ];done)|(simp only [Act.put,List.setIfInBounds_toArray,List.set_cons_zero,List.set_cons_succ];rfl)|rfl):p:=h
section
variable {P:Program} {md:Region.Mode} {ops:Array Oper} {Q:Exit->Act->World->Prop} {S:World->Prop} {fuel:Nat} {listed:Array Bool} {a a':Act} {w:World}
theorem Zt (i:Nat) {oi:Oper} {v:Value} (h:wpAnyH P md ops (NoPanic Q) S fuel (listed.setIfInBounds i true) a' w) (hi:ops[i]?=some oi:=by exact Zh)
  (hs:Region.noSelect ops=true:=by kernel_rfl) (hf:Region.free md ops listed i=true:=by kernel_rfl) (hr:(Region.ready md ops listed).contains i=true:=by kernel_rfl)
  (hy:YieldsIf P ops S oi v a:=by exact Zy)
  (hS:S w:=by assumption) (ha:a.put oi.dst v=a':=by exact Zv):wpAnyH P md ops (NoPanic Q) S (fuel+1) listed a w:=by
 subst ha;exact wpAnyH_take hi hs hf hr (fun _ _ _ h=>h) hy hS h
theorem dl (i:Nat) {o0 o1:Oper} {v0 v1:Value} {b0 b1:Act}
  (h:wpAnyH P md ops (NoPanic Q) S fuel ((listed.setIfInBounds i true).setIfInBounds (i+1) true) b1 w) (hs:Region.noSelect ops=true:=by kernel_rfl) (hS:S w:=by assumption)
  (e0:ops[i]?=some o0:=by exact Zh) (f0:Region.free md ops listed i=true:=by kernel_rfl) (r0:(Region.ready md ops listed).contains i=true:=by kernel_rfl) (y0:YieldsIf P ops S o0 v0 a:=by exact Zy) (p0:a.put o0.dst v0=b0:=by exact Zv)
  (e1:ops[i+1]?=some o1:=by exact Zh) (f1:Region.free md ops (listed.setIfInBounds i true) (i+1)=true:=by kernel_rfl) (r1:(Region.ready md ops (listed.setIfInBounds i true)).contains (i+1)=true:=by kernel_rfl) (y1:YieldsIf P ops S o1 v1 b0:=by exact Zy) (p1:b0.put o1.dst v1=b1:=by exact Zv):wpAnyH P md ops (NoPanic Q) S (fuel+1+1) listed a w:=
 Zt i (Zt (i+1) (h) e1 hs f1 r1 y1 hS p1) e0 hs f0 r0 y0 hS p0
theorem eY (i:Nat) {o0 o1 o2 o3:Oper} {v0 v1 v2 v3:Value} {b0 b1 b2 b3:Act}
  (h:wpAnyH P md ops (NoPanic Q) S fuel ((((listed.setIfInBounds i true).setIfInBounds (i+1) true).setIfInBounds (i+2) true).setIfInBounds (i+3) true) b3 w) (hs:Region.noSelect ops=true:=by kernel_rfl) (hS:S w:=by assumption)
  (e0:ops[i]?=some o0:=by exact Zh) (f0:Region.free md ops listed i=true:=by kernel_rfl) (r0:(Region.ready md ops listed).contains i=true:=by kernel_rfl) (y0:YieldsIf P ops S o0 v0 a:=by exact Zy) (p0:a.put o0.dst v0=b0:=by exact Zv)
  (e1:ops[i+1]?=some o1:=by exact Zh) (f1:Region.free md ops (listed.setIfInBounds i true) (i+1)=true:=by kernel_rfl) (r1:(Region.ready md ops (listed.setIfInBounds i true)).contains (i+1)=true:=by kernel_rfl) (y1:YieldsIf P ops S o1 v1 b0:=by exact Zy) (p1:b0.put o1.dst v1=b1:=by exact Zv)
  (e2:ops[i+2]?=some o2:=by exact Zh) (f2:Region.free md ops ((listed.setIfInBounds i true).setIfInBounds (i+1) true) (i+2)=true:=by kernel_rfl) (r2:(Region.ready md ops ((listed.setIfInBounds i true).setIfInBounds (i+1) true)).contains (i+2)=true:=by kernel_rfl) (y2:YieldsIf P ops S o2 v2 b1:=by exact Zy) (p2:b1.put o2.dst v2=b2:=by exact Zv)
  (e3:ops[i+3]?=some o3:=by exact Zh) (f3:Region.free md ops (((listed.setIfInBounds i true).setIfInBounds (i+1) true).setIfInBounds (i+2) true) (i+3)=true:=by kernel_rfl) (r3:(Region.ready md ops (((listed.setIfInBounds i true).setIfInBounds (i+1) true).setIfInBounds (i+2) true)).contains (i+3)=true:=by kernel_rfl) (y3:YieldsIf P ops S o3 v3 b2:=by exact Zy) (p3:b2.put o3.dst v3=b3:=by exact Zv):wpAnyH P md ops (NoPanic Q) S (fuel+1+1+1+1) listed a w:=
 Zt i (Zt (i+1) (Zt (i+2) (Zt (i+3) (h) e3 hs f3 r3 y3 hS p3) e2 hs f2 r2 y2 hS p2) e1 hs f1 r1 y1 hS p1) e0 hs f0 r0 y0 hS p0
theorem eD (i:Nat) {o0 o1 o2 o3 o4 o5 o6 o7:Oper} {v0 v1 v2 v3 v4 v5 v6 v7:Value} {b0 b1 b2 b3 b4 b5 b6 b7:Act}
  (h:wpAnyH P md ops (NoPanic Q) S fuel ((((((((listed.setIfInBounds i true).setIfInBounds (i+1) true).setIfInBounds (i+2) true).setIfInBounds (i+3) true).setIfInBounds (i+4) true).setIfInBounds (i+5) true).setIfInBounds (i+6) true).setIfInBounds (i+7) true) b7 w) (hs:Region.noSelect ops=true:=by kernel_rfl) (hS:S w:=by assumption)
  (e0:ops[i]?=some o0:=by exact Zh) (f0:Region.free md ops listed i=true:=by kernel_rfl) (r0:(Region.ready md ops listed).contains i=true:=by kernel_rfl) (y0:YieldsIf P ops S o0 v0 a:=by exact Zy) (p0:a.put o0.dst v0=b0:=by exact Zv)
  (e1:ops[i+1]?=some o1:=by exact Zh) (f1:Region.free md ops (listed.setIfInBounds i true) (i+1)=true:=by kernel_rfl) (r1:(Region.ready md ops (listed.setIfInBounds i true)).contains (i+1)=true:=by kernel_rfl) (y1:YieldsIf P ops S o1 v1 b0:=by exact Zy) (p1:b0.put o1.dst v1=b1:=by exact Zv)
  (e2:ops[i+2]?=some o2:=by exact Zh) (f2:Region.free md ops ((listed.setIfInBounds i true).setIfInBounds (i+1) true) (i+2)=true:=by kernel_rfl) (r2:(Region.ready md ops ((listed.setIfInBounds i true).setIfInBounds (i+1) true)).contains (i+2)=true:=by kernel_rfl) (y2:YieldsIf P ops S o2 v2 b1:=by exact Zy) (p2:b1.put o2.dst v2=b2:=by exact Zv)
  (e3:ops[i+3]?=some o3:=by exact Zh) (f3:Region.free md ops (((listed.setIfInBounds i true).setIfInBounds (i+1) true).setIfInBounds (i+2) true) (i+3)=true:=by kernel_rfl) (r3:(Region.ready md ops (((listed.setIfInBounds i true).setIfInBounds (i+1) true).setIfInBounds (i+2) true)).contains (i+3)=true:=by kernel_rfl) (y3:YieldsIf P ops S o3 v3 b2:=by exact Zy) (p3:b2.put o3.dst v3=b3:=by exact Zv)
  (e4:ops[i+4]?=some o4:=by exact Zh) (f4:Region.free md ops ((((listed.setIfInBounds i true).setIfInBounds (i+1) true).setIfInBounds (i+2) true).setIfInBounds (i+3) true) (i+4)=true:=by kernel_rfl) (r4:(Region.ready md ops ((((listed.setIfInBounds i true).setIfInBounds (i+1) true).setIfInBounds (i+2) true).setIfInBounds (i+3) true)).contains (i+4)=true:=by kernel_rfl) (y4:YieldsIf P ops S o4 v4 b3:=by exact Zy) (p4:b3.put o4.dst v4=b4:=by exact Zv)
  (e5:ops[i+5]?=some o5:=by exact Zh) (f5:Region.free md ops (((((listed.setIfInBounds i true).setIfInBounds (i+1) true).setIfInBounds (i+2) true).setIfInBounds (i+3) true).setIfInBounds (i+4) true) (i+5)=true:=by kernel_rfl) (r5:(Region.ready md ops (((((listed.setIfInBounds i true).setIfInBounds (i+1) true).setIfInBounds (i+2) true).setIfInBounds (i+3) true).setIfInBounds (i+4) true)).contains (i+5)=true:=by kernel_rfl) (y5:YieldsIf P ops S o5 v5 b4:=by exact Zy) (p5:b4.put o5.dst v5=b5:=by exact Zv)
  (e6:ops[i+6]?=some o6:=by exact Zh) (f6:Region.free md ops ((((((listed.setIfInBounds i true).setIfInBounds (i+1) true).setIfInBounds (i+2) true).setIfInBounds (i+3) true).setIfInBounds (i+4) true).setIfInBounds (i+5) true) (i+6)=true:=by kernel_rfl) (r6:(Region.ready md ops ((((((listed.setIfInBounds i true).setIfInBounds (i+1) true).setIfInBounds (i+2) true).setIfInBounds (i+3) true).setIfInBounds (i+4) true).setIfInBounds (i+5) true)).contains (i+6)=true:=by kernel_rfl) (y6:YieldsIf P ops S o6 v6 b5:=by exact Zy) (p6:b5.put o6.dst v6=b6:=by exact Zv)
  (e7:ops[i+7]?=some o7:=by exact Zh) (f7:Region.free md ops (((((((listed.setIfInBounds i true).setIfInBounds (i+1) true).setIfInBounds (i+2) true).setIfInBounds (i+3) true).setIfInBounds (i+4) true).setIfInBounds (i+5) true).setIfInBounds (i+6) true) (i+7)=true:=by kernel_rfl) (r7:(Region.ready md ops (((((((listed.setIfInBounds i true).setIfInBounds (i+1) true).setIfInBounds (i+2) true).setIfInBounds (i+3) true).setIfInBounds (i+4) true).setIfInBounds (i+5) true).setIfInBounds (i+6) true)).contains (i+7)=true:=by kernel_rfl) (y7:YieldsIf P ops S o7 v7 b6:=by exact Zy) (p7:b6.put o7.dst v7=b7:=by exact Zv):wpAnyH P md ops (NoPanic Q) S (fuel+1+1+1+1+1+1+1+1) listed a w:=
 Zt i (Zt (i+1) (Zt (i+2) (Zt (i+3) (Zt (i+4) (Zt (i+5) (Zt (i+6) (Zt (i+7) (h) e7 hs f7 r7 y7 hS p7) e6 hs f6 r6 y6 hS p6) e5 hs f5 r5 y5 hS p5) e4 hs f4 r4 y4 hS p4) e3 hs f3 r3 y3 hS p3) e2 hs f2 r2 y2 hS p2) e1 hs f1 r1 y1 hS p1) e0 hs f0 r0 y0 hS p0
theorem Zw (i:Nat) {oi:Oper} {v:Value} (h:wpAnyH P md ops (NoPanic Q) S fuel (listed.setIfInBounds i true) a' w) (hi:ops[i]?=some oi:=by exact Zh)
  (hs:Region.noSelect ops=true:=by kernel_rfl) (hf:Region.free md ops listed i=true:=by kernel_rfl) (hr:(Region.ready md ops listed).contains i=true:=by kernel_rfl)
  (hy:YieldsIf P ops S oi v a)
  (hS:S w:=by assumption) (ha:a.put oi.dst v=a':=by exact Zv):wpAnyH P md ops (NoPanic Q) S (fuel+1) listed a w:=by
 subst ha;exact wpAnyH_take hi hs hf hr (fun _ _ _ h=>h) hy hS h
theorem Z1 (i:Nat) {o:Oper} (h:∀ K':Act->World->Prop,Shut (∀ a w,S w->(S w->wpAnyH P md ops Q S fuel (listed.setIfInBounds i true) a w)->K' a w)->if Region.wanted o (yielded ops a.tmps)=true then Oper.wp P o a w K' Q else K' (a.put o.dst undef) w)
  (hr:Region.ready md ops listed=[i]:=by kernel_rfl) (ho:ops[i]?=some o:=by exact Zh):wpAnyH P md ops Q S (fuel+1) listed a w:=
 wpAnyH_ready hr (by simp) (AllReadyH.cons ho h AllReadyH.nil)
theorem Z2 (k0 k1:Nat) {o0 o1:Oper} 
  (h0:∀ K':Act->World->Prop,Shut (∀ a w,S w->(S w->wpAnyH P md ops Q S fuel (listed.setIfInBounds k0 true) a w)->K' a w)->if Region.wanted o0 (yielded ops a.tmps)=true then Oper.wp P o0 a w K' Q else K' (a.put o0.dst undef) w)
  (h1:∀ K':Act->World->Prop,Shut (∀ a w,S w->(S w->wpAnyH P md ops Q S fuel (listed.setIfInBounds k1 true) a w)->K' a w)->if Region.wanted o1 (yielded ops a.tmps)=true then Oper.wp P o1 a w K' Q else K' (a.put o1.dst undef) w)
  (hr:Region.ready md ops listed=[k0,k1]:=by kernel_rfl) (e0:ops[k0]?=some o0:=by exact Zh) (e1:ops[k1]?=some o1:=by exact Zh):wpAnyH P md ops Q S (fuel+1) listed a w:=
 wpAnyH_ready hr (by simp) (AllReadyH.cons e0 h0 (AllReadyH.cons e1 h1 AllReadyH.nil))
theorem Zk {K:Act->World->Prop} (hK:Shut (∀ a w,S w->(S w->wpAnyH P md ops Q S fuel listed a w)->K a w)) (h:S w->wpAnyH P md ops Q S fuel listed a' w)
  (hS:S w:=by ((try dsimp only);go_split_ands;(try dsimp only);(repeat' apply And.intro);all_goals (repeat (first|with_reducible assumption|(with_reducible refine (aW ?_).trans ?_;omega)|(with_reducible refine (iz ?_).trans ?_;omega)|(with_reducible refine aI _ ?_)|(with_reducible refine cq ?_)|(with_reducible refine dn _ ?_)|(with_reducible refine aC hb1 ?_)|(with_reducible refine aC hb2 ?_)|(with_reducible refine aC hb3 ?_)|(with_reducible refine aC hb4 ?_)|(with_reducible refine aC hb5 ?_)|(with_reducible refine aC hb6 ?_)|(with_reducible refine aC hb7 ?_)|(with_reducible refine aC hb9 ?_))))) (ha:a=a':=by exact Zv):K a w:=by
 subst ha;exact hK.out _ _ hS h
theorem Zd (h:Q .normal a w) (hr:Region.ready md ops listed=[]:=by kernel_rfl):wpAnyH P md ops (NoPanic Q) S fuel listed a w:=wpAnyH_done hr (NoPanic.normal h) _
theorem Zr (S:World->Prop) {id:Nat} (h:S w.drew->wpAnyH P .any ops (NoPanic Q) S ops.size (Array.replicate ops.size false) a w.drew) (hS:S w.drew:=by ((try dsimp only);go_split_ands;(try dsimp only);(repeat' apply And.intro);all_goals (repeat (first|with_reducible assumption|(with_reducible refine (aW ?_).trans ?_;omega)|(with_reducible refine (iz ?_).trans ?_;omega)|(with_reducible refine aI _ ?_)|(with_reducible refine cq ?_)|(with_reducible refine dn _ ?_)|(with_reducible refine aC hb1 ?_)|(with_reducible refine aC hb2 ?_)|(with_reducible refine aC hb3 ?_)|(with_reducible refine aC hb4 ?_)|(with_reducible refine aC hb5 ?_)|(with_reducible refine aC hb6 ?_)|(with_reducible refine aC hb7 ?_)|(with_reducible refine aC hb9 ?_))))) (hm:P.follows .mixedOrders=true:=by kernel_rfl) :
  (Code.region id ops true).wp P Q a w:=wp_region_noPanic (wp_region_held_drew (S:=S) hm hS h)
end
theorem Zp {p:Prop} (h:p:=by ((try dsimp only);go_split_ands;(try dsimp only);(repeat' apply And.intro);all_goals (repeat (first|with_reducible assumption|(with_reducible refine (aW ?_).trans ?_;omega)|(with_reducible refine (iz ?_).trans ?_;omega)|(with_reducible refine aI _ ?_)|(with_reducible refine cq ?_)|(with_reducible refine dn _ ?_)|(with_reducible refine aC hb1 ?_)|(with_reducible refine aC hb2 ?_)|(with_reducible refine aC hb3 ?_)|(with_reducible refine aC hb4 ?_)|(with_reducible refine aC hb5 ?_)|(with_reducible refine aC hb6 ?_)|(with_reducible refine aC hb7 ?_)|(with_reducible refine aC hb9 ?_))))):p:=h
theorem Zb {B:Nat} {w w':World} (h:Below B w w':=by repeat (first|(with_reducible exact KM _ _)|(with_reducible assumption)|(with_reducible refine KN ?_)|(with_reducible refine aM ?_)|(with_reducible refine KU ?_ (by first|omega|(simp;done)|(simp;omega)) _)|(with_reducible refine KO ?_ (by first|omega|(simp;done)|(simp;omega)) _)|(with_reducible refine KS ?_ (Below.mono (by assumption) (by first|omega|(simp;done)|(simp;omega)))))):Below B w w':=h
theorem Zs {p:Prop} (h:p:=by first|omega|(simp;done)|(simp;omega)):p:=h
theorem Zx {p:Prop} (h:False:=by first|omega|(simp at *;omega)|(simp at *;done)):p:=h.elim
theorem Zf {p:Prop} (h:p:=by first|(go_ret;exact ⟨rfl,Zb⟩)|(exfalso;first|omega|(simp at *;omega)|(simp at *;done))):p:=h
def GQ (num den flows h total:Int):Int:=(num*(flows+1)*h+den*total - 1) / (den*total)
def I5 (num den flows h total:Int):Prop:=1<=den/\den<=num/\num<=20/\0<=flows/\flows<=40/\1<=h/\h<=total/\total<=96
theorem EE (num den flows weight total:Int) (w:World) (h:I5 num den flows weight total) :
  Calls prog 46 #[.int .i64 num,.int .i64 den,.int .i64 flows,.int .i64 weight,.int .i64 total] w fun e w'=>e=.returned (.tuple #[.int .i64 (GQ num den flows weight total),.int .i64 0])/\w=w':=by
 obtain ⟨Y,Z,h3,h4,h5,h6,h7,h8⟩:=h
 obtain ⟨z,E⟩:=jb (a:=num) (d:=flows+1) (A:=20) (D:=41) (by omega) (by omega) (by omega) (by omega)
 obtain ⟨I,J⟩:=jb (a:=num*(flows+1)) (d:=weight) (A:=820) (D:=96) (by omega) (by omega) (by omega) (by omega)
 obtain ⟨K,U⟩:=jb (a:=den) (d:=total) (A:=20) (D:=96) (by omega) (by omega) (by omega) (by omega)
 have hU:1<=num*(flows+1)*weight:=Int.mul_pos (Int.mul_pos (by omega) (by omega)) (by omega)
 have hD:1<=den*total:=Int.mul_pos (by omega) (by omega)
 go_in
 go_wp2
 all_goals first|(go_ret2;exact ⟨rII rfl rfl,rfl⟩)|exact Zx
def io (a b c:Int):Prop:=0<=a/\a<=20/\1<=b/\b<=20/\0<=c/\c<=20
theorem jf (a b c:Int) (w:World) (h:io a b c):Calls prog 31 #[.agg #[.int .i64 a,.int .i64 b,.int .i64 c]] w fun e w'=>e=.returned (.int .i64 0)/\Below w.heap.size w w':=by
 obtain ⟨z,E,I,J,K,U⟩:=h;go_in;go_wp2
 all_goals exact Zf
theorem uN (a b c:Int) (w:World) (h:io a b c):Calls prog 23 #[.agg #[.int .i64 a,.int .i64 b,.int .i64 c]] w fun e w'=>e=.returned (.tuple #[.agg #[.int .i64 (c*b)],.int .i64 0])/\Below w.heap.size w w':=by
 have E:=h;obtain ⟨U,Y,Z,h4,h5,h6⟩:=h;obtain ⟨J,K⟩:=jb (a:=c) (d:=b) (A:=20) (D:=20) (by omega) (by omega) (by omega) (by omega);go_in;go_wp2_with (first|(go_at_call 31;refine (jf _ _ _ _ E).mono ?_;rintro e w1 ⟨rfl,z⟩;obtain ⟨a0,a1⟩:=aX z;have a2:=fX z;have I:=z.size;(try simp at I))|go_in);refine LN (v:=.tuple #[.agg #[.int .i64 (c*b)],.int .i64 0]) ?_ rfl ?_;(focus (first|(simp [results,results23,go_sem];done)|(simp [results,results23,go_sem, *];done)));exact ⟨rfl,Zb⟩
def im (a b c:Int):Prop:=1<=a/\a<=16/\1<=b/\b<=a/\1<=c/\c<=500
theorem zH {a b c:Int} (h:¬ im a b c):a<1\/(1<=a/\16<a)\/(1<=a/\a<=16/\b<1)\/(1<=a/\a<=16/\1<=b/\a<b)\/(1<=a/\a<=16/\1<=b/\b<=a/\c<1)\/(1<=a/\a<=16/\1<=b/\b<=a/\1<=c/\500<c):=by
 unfold im at h;omega
theorem iQ (a b c:Int) (w:World) (h:im a b c):Calls prog 32 #[.agg #[.int .i64 a,.int .i64 b,.int .i64 c]] w fun e w'=>e=.returned (.int .i64 0)/\Below w.heap.size w w':=by
 obtain ⟨z,E,I,J,K,U⟩:=h;go_in;go_wp2
 all_goals exact Zf
theorem pP (a b c:Int) (w:World) (h:¬ im a b c):Calls prog 32 #[.agg #[.int .i64 a,.int .i64 b,.int .i64 c]] w fun e w'=>e=.returned (.int .i64 2)/\Below w.heap.size w w':=by
 rcases zH h with z|⟨z,E⟩|⟨z,E,I⟩|⟨z,E,I,J⟩|⟨z,E,I,J,K⟩|⟨z,E,I,J,K,U⟩
 all_goals
  clear h
  go_in
  go_wp2
  all_goals exact Zf
end
section
open Go.ChangeShapes Go.WideShapes Go.ChangeAt Go.RowKit
def cN (M:List Bool):List (List Value):=M.map fun b=>[Value.bool b]
section
variable {H:Type} {enc:TypeId×Value->H} {W:World} {base:Nat} {v:Value} {d:DataW H} {p:List MemPlace}
end
def sZ (a:Int) (n:Nat) (h:Bool) (u t:Int):Prop:=(n:Int)<=a/\0<=t/\t<=10/\0<=u/\u<=1099511628276/\(h=false->u=0)
theorem Ff {a:Int} {n:Nat} {z:Bool} {u t:Int} (h:¬ sZ a n z u t):a<(n:Int)\/((n:Int)<=a/\t<0)\/((n:Int)<=a/\0<=t/\10<t)\/((n:Int)<=a/\0<=t/\t<=10/\u<0)\/((n:Int)<=a/\0<=t/\t<=10/\0<=u/\1099511628276<u)\/((n:Int)<=a/\0<=t/\t<=10/\0<u/\u<=1099511628276/\z=false):=by
 unfold sZ at h
 cases z with
 | true=>simp at h ⊢;omega
 | false=>simp at h ⊢;omega
def gv (a b c:Int) (n:Nat) (h:Bool) (u t now:Int) (code:Int):Prop:=(¬ im a b c/\code=2)\/(im a b c/\(now<0\/(0<=now/\1099511627776<now))/\code=2)\/(im a b c/\0<=now/\now<=1099511627776/\¬ sZ a n h u t/\code=6)\/(im a b c/\0<=now/\now<=1099511627776/\sZ a n h u t/\code=0)
theorem iO (a b c:Int) (m:Option Addr) (n a0:Nat) (Z:Bool) (u t now code:Int) (w:World) (h:gv a b c n Z u t now code):Calls prog 93 #[.agg #[.int .i64 a,.int .i64 b,.int .i64 c],.agg #[.slice m n a0,.bool Z,.int .i64 u,.int .i64 t],.int .i64 now] w fun e w'=>e=.returned (.int .i64 code)/\Below w.heap.size w w':=by
 rcases h with ⟨h,rfl⟩|⟨h,I,rfl⟩|⟨h,I,h3,z,rfl⟩|⟨h,I,h3,z,rfl⟩
 ·have H:=KL h;clear h;go_in;go_wp2_with (go_at_call 32;refine (pP _ _ _ _ H.out).mono ?_;rintro e w1 ⟨rfl,hb1⟩;obtain ⟨hc1,hf1⟩:=aX hb1;have hz1:=fX hb1;have hy1:=hb1.size;(try simp at hy1))
  all_goals exact Zf
 ·have H:=KL h;clear h;rcases I with I|⟨I,h3⟩
  all_goals
   go_in
   go_wp2_with (first|(go_at_call 32;refine (iQ _ _ _ _ H.out).mono ?_;rintro e w1 ⟨rfl,hb1⟩;obtain ⟨hc1,hf1⟩:=aX hb1;have hz1:=fX hb1;have hy1:=hb1.size;(try simp at hy1)))
   all_goals exact Zf
 ·have H:=KL h;clear h;rcases Ff z with E|⟨E,J⟩|⟨E,J,K⟩|⟨E,J,K,U⟩|⟨E,J,K,U,k5⟩|⟨E,J,K,U,k5,rfl⟩
  ·clear z;exact Q18
  ·clear z;exact Q18
  ·clear z;exact Q18
  ·clear z;exact Q18
  ·clear z;exact Q18
  ·clear z
   have e1:(u == 0)=false:=by simp;omega
   have e2:(u != 0)=true:=by simp;omega
   have e3:0<=u:=by omega
   exact Q18
 ·have H:=KL h;obtain ⟨E,J,K,U,k5,Y⟩:=z;clear h
  cases Z with
  | true=>
   clear Y;exact Q18
  | false=>
   obtain rfl:u=0:=Y rfl;clear Y;exact Q18
end
section
open Go.RowKit
def eG (x:Lf):Prop:=0<=x.backend/\x.backend<=11/\1<=x.weight/\x.weight<=8/\0<=x.since/\x.since<=1099511627776/\0<=x.until_/\x.until_<=1099511628276/\0<=x.request/\x.request<=1048576/\
 ((x.state=1/\x.since=0/\x.until_=0/\x.request=0)\/(x.state=2/\x.until_=0/\x.request=0)\/x.state=3\/x.state=4)
def fR (x:Rq):Prop:=0<=x.id/\x.id<=1048576/\(x.kind=1\/x.kind=2)
theorem wZ (b s z E un rq:Int) (r:Bool) (w:World) (hr:(eG ⟨b,s,z,E,un,rq⟩/\r=true)\/(¬ eG ⟨b,s,z,E,un,rq⟩/\r=false)) :
  Calls prog 87 #[.agg #[.int .i64 b,.int .i64 s,.int .i64 z,.int .i64 E,.int .i64 un,.int .i64 rq]] w fun e w'=>e=.returned (.bool r)/\Below w.heap.size w w':=by
 rcases (show ((b<0))\/((0<=b)/\(12<=b))\/((0<=b)/\(b<12)/\(z<1))\/((0<=b)/\(b<12)/\(1<=z)/\(8<z))\/((0<=b)/\(b<12)/\(1<=z)/\(z<=8)/\(E<0))\/((0<=b)/\(b<12)/\(1<=z)/\(z<=8)/\(0<=E)/\(1099511627776<E))\/((0<=b)/\(b<12)/\(1<=z)/\(z<=8)/\(0<=E)/\(E<=1099511627776)/\(un<0))\/((0<=b)/\(b<12)/\(1<=z)/\(z<=8)/\(0<=E)/\(E<=1099511627776)/\(0<=un)/\(1099511628276<un))\/((0<=b)/\(b<12)/\(1<=z)/\(z<=8)/\(0<=E)/\(E<=1099511627776)/\(0<=un)/\(un<=1099511628276)/\(rq<0))\/((0<=b)/\(b<12)/\(1<=z)/\(z<=8)/\(0<=E)/\(E<=1099511627776)/\(0<=un)/\(un<=1099511628276)/\(0<=rq)/\(1048576<rq))\/((0<=b)/\(b<12)/\(1<=z)/\(z<=8)/\(0<=E)/\(E<=1099511627776)/\(0<=un)/\(un<=1099511628276)/\(0<=rq)/\(rq<=1048576)) by (rcases (show (b<0)\/(0<=b) by omega) with I|I;exact Or.inl I;(rcases (show (12<=b)\/(b<12) by omega) with J|J;exact Or.inr (Or.inl ⟨I,J⟩);(rcases (show (z<1)\/(1<=z) by omega) with K|K;exact Or.inr (Or.inr (Or.inl ⟨I,J,K⟩));(rcases (show (8<z)\/(z<=8) by omega) with U|U;exact Or.inr (Or.inr (Or.inr (Or.inl ⟨I,J,K,U⟩)));(rcases (show (E<0)\/(0<=E) by omega) with Y|Y;exact Or.inr (Or.inr (Or.inr (Or.inr (Or.inl ⟨I,J,K,U,Y⟩))));(rcases (show (1099511627776<E)\/(E<=1099511627776) by omega) with Z|Z;exact Or.inr (Or.inr (Or.inr (Or.inr (Or.inr (Or.inl ⟨I,J,K,U,Y,Z⟩)))));(rcases (show (un<0)\/(0<=un) by omega) with a0|a0;exact Or.inr (Or.inr (Or.inr (Or.inr (Or.inr (Or.inr (Or.inl ⟨I,J,K,U,Y,Z,a0⟩))))));(rcases (show (1099511628276<un)\/(un<=1099511628276) by omega) with a1|a1;exact Or.inr (Or.inr (Or.inr (Or.inr (Or.inr (Or.inr (Or.inr (Or.inl ⟨I,J,K,U,Y,Z,a0,a1⟩)))))));(rcases (show (rq<0)\/(0<=rq) by omega) with a2|a2;exact Or.inr (Or.inr (Or.inr (Or.inr (Or.inr (Or.inr (Or.inr (Or.inr (Or.inl ⟨I,J,K,U,Y,Z,a0,a1,a2⟩))))))));(rcases (show (1048576<rq)\/(rq<=1048576) by omega) with a3|a3;exact Or.inr (Or.inr (Or.inr (Or.inr (Or.inr (Or.inr (Or.inr (Or.inr (Or.inr (Or.inl ⟨I,J,K,U,Y,Z,a0,a1,a2,a3⟩)))))))));exact Or.inr (Or.inr (Or.inr (Or.inr (Or.inr (Or.inr (Or.inr (Or.inr (Or.inr (Or.inr (⟨I,J,K,U,Y,Z,a0,a1,a2,a3⟩))))))))))))))))))))) with hs0|⟨hs0,hs1⟩|⟨hs0,hs1,hs2⟩|⟨hs0,hs1,hs2,hs3⟩|⟨hs0,hs1,hs2,hs3,hs4⟩|⟨hs0,hs1,hs2,hs3,hs4,hs5⟩|⟨hs0,hs1,hs2,hs3,hs4,hs5,hs6⟩|⟨hs0,hs1,hs2,hs3,hs4,hs5,hs6,hs7⟩|⟨hs0,hs1,hs2,hs3,hs4,hs5,hs6,hs7,hs8⟩|⟨hs0,hs1,hs2,hs3,hs4,hs5,hs6,hs7,hs8,hs9⟩|⟨hs0,hs1,hs2,hs3,hs4,hs5,hs6,hs7,hs8,hs9⟩
 rotate_right
 ·rcases (show s=1\/s=2\/s=3\/s=4\/(s≠1/\s≠2/\s≠3/\s≠4) by omega) with rfl|rfl|rfl|rfl|⟨h1,h2,h3,h4⟩
  ·by_cases h1:E=0
   ·subst h1
    ·exact Q30
   ·obtain rfl:r=false:=by rcases hr with ⟨h,_⟩|⟨_,h⟩;(simp only [eG] at h;omega);exact h
    have e1:(E == 0)=false:=by simpa using h1
    exact Q112
  ·exact Q30
  ·exact Q35
  ·exact Q35
  ·obtain rfl:r=false:=by rcases hr with ⟨h,_⟩|⟨_,h⟩;(simp only [eG] at h;omega);exact h
   have e1:(s == 1)=false:=by simpa using h1
   have e2:(s == 2)=false:=by simpa using h2
   have e3:(s == 3)=false:=by simpa using h3
   have e4:(s == 4)=false:=by simpa using h4
   clear hr h1 h2 h3 h4;go_in;go_wp2
   all_goals exact Zf
 all_goals
  obtain rfl:r=false:=by rcases hr with ⟨h,_⟩|⟨_,h⟩;(simp only [eG] at h;omega);exact h
  clear hr
  go_in
  go_wp2
  all_goals exact Zf
theorem eR (id kd b J E:Int) (r:Bool) (w:World) (hr:(fR ⟨id,kd,b,J,E⟩/\r=true)\/(¬ fR ⟨id,kd,b,J,E⟩/\r=false)) :
  Calls prog 88 #[.agg #[.int .i64 id,.int .i64 kd,.int .i64 b,.int .i64 J,.int .i64 E]] w fun e w'=>e=.returned (.bool r)/\Below w.heap.size w w':=by
 rcases (show id<0\/(0<=id/\1048576<id)\/(0<=id/\id<=1048576/\kd=1)\/(0<=id/\id<=1048576/\kd=2)\/(0<=id/\id<=1048576/\kd≠1/\kd≠2) by omega) with z|⟨z,I⟩|⟨z,I,rfl⟩|⟨z,I,rfl⟩|⟨z,I,K,U⟩
 ·obtain rfl:r=false:=by rcases hr with ⟨h,_⟩|⟨_,h⟩;(simp only [fR] at h;omega);exact h
  clear hr
  have Y:decide (0<=id)=false:=by simp;omega
  go_in;go_wp2
  all_goals exact Zf
 ·obtain rfl:r=false:=by rcases hr with ⟨h,_⟩|⟨_,h⟩;(simp only [fR] at h;omega);exact h
  clear hr
  have Y:decide (id<=1048576)=false:=by simp;omega
  go_in;go_wp2
  all_goals exact Zf
 ·exact Q78
 ·exact Q78
 ·obtain rfl:r=false:=by rcases hr with ⟨h,_⟩|⟨_,h⟩;(simp only [fR] at h;omega);exact h
  have Z:(kd == 1)=false:=by simpa using K
  have e3:(kd == 2)=false:=by simpa using U
  clear hr K U;go_in;go_wp2
  all_goals exact Zf
def nk (L:List Lf) (i:Nat):Int:=if i=0 then -1 else (L.getD (i - 1) Lf.zero).backend
def K9 (L:List Lf) (i:Nat):Prop:=eG (L.getD i Lf.zero)/\nk L i<(L.getD i Lf.zero).backend
def gU (R:List Rq):List Int:=R.map Rq.id
def bJ (L:List Lf) (R:List Rq):Prop:=L.length<=12/\R.length<=100/\(∀ i,i<L.length->K9 L i)/\(∀ x∈R,fR x)/\(gU R).Nodup
def AD (L:List Lf) (R:List Rq) (r:Int):Prop:=(bJ L R/\r=0)\/(¬ bJ L R/\r=6)
def LfIs (x:Lf) (r:Bool):Prop:=(eG x/\r=true)\/(¬ eG x/\r=false)
def RqIs (x:Rq) (r:Bool):Prop:=(fR x/\r=true)\/(¬ fR x/\r=false)
theorem DV (x:Lf):∃ r,LfIs x r:=by
 by_cases h:eG x
 ·exact ⟨_,Or.inl ⟨h,rfl⟩⟩
 ·exact ⟨_,Or.inr ⟨h,rfl⟩⟩
theorem DT (x:Rq):∃ r,RqIs x r:=by
 by_cases h:fR x
 ·exact ⟨_,Or.inl ⟨h,rfl⟩⟩
 ·exact ⟨_,Or.inr ⟨h,rfl⟩⟩
theorem Gg {R:List Rq} {k:Nat} {o:Rq} (h:k<R.length) (E:o=R.getD k Rq.zero):gU (R.take (k+1))=gU (R.take k)++[o.id]:=by
 have z:R.take (k+1)=R.take k++[o]:=by rw [Li h,E];simp [List.getD,h]
 rw [gU,gU,z,LG]
 rfl
theorem ID {R:List Rq} {k:Nat} {o:Rq} (z:k<R.length) (J:o=R.getD k Rq.zero) (I:∀ x∈R.take k,fR x) (E:fR o):∀ x∈R.take (k+1),fR x:=by
 rw [Li z];intro x K;rcases List.mem_append.1 K with h|h
 ·exact I x h
 ·simp at h;rw [h];rw [J] at E;simpa [List.getD,z] using E
def CkRel (w wr:World) (L:List Lf) (h:Value) (k:Nat):Prop:=k<=L.length/\Below w.heap.size w wr/\w.heap.size<wr.heap.size/\wr.cell? ⟨w.heap.size,1,none⟩=some h/\∀ j,j<k->K9 L j
def CsRel (w wr:World) (R:List Rq) (h:Value) (m k:Nat):Prop:=k<=R.length/\Below w.heap.size w wr/\w.heap.size<m/\m<wr.heap.size/\wr.cell? ⟨w.heap.size,1,none⟩=some h/\pZ wr m (gU (R.take k))/\∀ x∈R.take k,fR x
theorem kD (vl vr:Value) (L:List Lf) (R:List Rq) (r:Int) (w:World) (hl:aK w 6 vl (L.map Lf.cells)) (hr:aK w 5 vr (R.map Rq.cells)) (h:AD L R r) :
  Calls prog 48 #[.agg #[vl,vr]] w fun e w'=>e=.returned (.int .i64 r)/\Below w.heap.size w w':=by
 have HC:=KL h
 have aw:¬ bJ L R->r=6:=fun hn=>by rcases h with ⟨h,_⟩|⟨_,h⟩;exact absurd h hn;exact h
 have HBad:=KL aw
 obtain ⟨a,c,rfl,l,m,n,p⟩:=aO Lf.zero hl
 obtain ⟨a',c',rfl,l',m',n',p'⟩:=aO Rq.zero hr
 have P:=KL p
 have P':=KL p'
 clear hl hr p p' l m n l' m' n' h aw
 by_cases h12:L.length<=12
 rotate_left
 ·have g1:(12:Int)<(L.length:Int):=by omega
  obtain rfl:r=6:=HBad.out fun h=>h12 h.1;clear HBad HC h12;go_in;go_wp2
  all_goals exact Zf
 have g1:(L.length:Int)<=12:=by omega
 by_cases h100:R.length<=100
 rotate_left
 ·have g2:(100:Int)<(R.length:Int):=by omega
  obtain rfl:r=6:=HBad.out fun h=>h100 h.2.1;clear HBad HC h100;go_in;go_wp2
  all_goals exact Zf
 have g2:(R.length:Int)<=100:=by omega
 have bb:=@run_makeMap prog
 go_in
 go_wp2
 go_loopw [3,22] (fun la I wr=>∃ k:Nat,I=.int .i64 k/\la=.int .i64 (nk L k)/\CkRel w wr L (.slice a' R.length c') k) (fun _ I _=>L.length - (intOf I).toNat)
 case atStart=>exact ⟨0,rfl,rfl,La _,(KM _ _).alloc (KY _) _,by simp,by go_simp,fun z hj=>by omega⟩
 case round=>
  obtain ⟨k,rfl,rfl,hk,hb,bd,c1,au⟩:=hrel;have HA:=KL au;have HB:=KL hb;clear au;rcases (show k<L.length\/L.length=k by omega) with K|b6
  ·have b2:(k:Int)<(L.length:Int):=by omega
   obtain ⟨Y,o0,rfl,ak,q⟩:=P.out (by intro h;rw [h] at K;simp at K);obtain ⟨J,U⟩:∃ J,J=L.getD k Lf.zero:=⟨_,rfl⟩
   have hold:∀ z,z<6->wr.cell? ⟨Y,o0+k*6+z,none⟩=J.cells[z]?:=fun z hj=>by
    rw [hb.cell (p:=⟨Y,o0+k*6+z,none⟩) ak,U];exact q k z K hj
   have a0:=hold 0 (by omega);have a1:=hold 1 (by omega);have a2:=hold 2 (by omega);have a3:=hold 3 (by omega);have a4:=hold 4 (by omega);have a5:=hold 5 (by omega)
   have ag:K9 L k↔(eG J/\nk L k<J.backend):=by rw [U];exact Iff.rfl
   have aA:nk L (k+1)=J.backend:=by simp only [nk,Nat.add_sub_cancel,if_neg (by omega:¬ k+1=0)];rw [U]
   obtain ⟨la,ac⟩:∃ la,la=nk L k:=⟨_,rfl⟩;rw [<- ac] at ag;have HX:=KL (And.intro ag aA);have b5:=KL ac;rw [<- ac];clear hold U q ag aA ac hb;obtain ⟨t,ht⟩:=DV J;have HT:=KL ht;obtain ⟨bk,st,wt,si,un,rq⟩:=J;simp only [Lf.cells,Lb,Lc,Nat.add_zero] at a0 a1 a2 a3 a4 a5;have lb:Y<wr.heap.size:=bV a0
   cases t with
   | false=>
    have hrf:Hid (r=6):=HBad.out fun h=>by
     rcases ht with ⟨_,E⟩|⟨E,_⟩
     ·cases E
     ·exact E (HX.out.1.1 (h.2.2.1 k K)).1
    exact Q40
   | true=>
    rcases (show bk<=la\/la<bk by omega) with ad|ad
    ·have hrf:Hid (r=6):=HBad.out fun h=>by
      have:=(HX.out.1.1 (h.2.2.1 k K)).2;simp only at this;omega
     exact Q40
    ·have HN:Hid (∀ z,z<k+1->K9 L z):=fun z hj=>by
      rcases (show z<k\/z=k by omega) with h|rfl
      ·exact HA.out z h
      ·refine HX.out.1.2 ⟨?_,ad⟩;rcases ht with ⟨E,_⟩|⟨_,E⟩
       ·exact E
       ·cases E
     clear ht;go_wp2_with (go_at_call 87;refine (wZ _ _ _ _ _ _ _ _ HT.out).mono ?_;rintro e w1 ⟨rfl,hb1⟩;obtain ⟨hc1,hf1⟩:=aX hb1;have hz1:=fX hb1;have hy1:=hb1.size;(try simp at hy1));go_roundw
     case rel=>exact ⟨k+1,by go_num,by rw [HX.out.2],by omega,(by refine KS ?_ (Below.mono hb1 Zs);repeat (first|(with_reducible exact HB.out)|(with_reducible refine KN ?_)|(with_reducible refine aM ?_)|(with_reducible refine KU ?_ Zs _)|(with_reducible refine KO ?_ Zs _))),by omega,(hc1 _ _ (by simp;omega)).trans (aI _ c1),HN.out⟩
     case measure=>simp [intOf];omega
  ·have b8:¬ (k:Int)<(L.length:Int):=by omega
   clear hb;go_wp2_with fail;obtain ⟨M,hM⟩:∃ M,M=wr.heap.size:=⟨_,rfl⟩;have b1:w.heap.size<M:=by omega
   rw [<- hM];have ao:=KL hM;clear hM;go_loopw [42] (fun I wr=>∃ z:Nat,I=.int .i64 z/\CsRel w wr R (.slice a' R.length c') M z) (fun I _=>R.length - (intOf I).toNat)
   case atStart=>exact ⟨0,rfl,La _,HB.out.alloc HB.out.size _,b1,by rw [ao.out];simp,aI _ c1,by rw [ao.out];simpa [gU] using ui wr,fun x hx=>by simp at hx⟩
   case round=>
    obtain ⟨z,rfl,hj,a9,b3,ba,aS,af,av⟩:=hrel;have a7:=KL a9;have am:=KL av;clear av;rcases (show z<R.length\/R.length=z by omega) with K|b7
    ·have b2:(z:Int)<(R.length:Int):=by omega
     obtain ⟨Y,o0,rfl,ak,q⟩:=P'.out (by intro h;rw [h] at K;simp at K);obtain ⟨J,U⟩:∃ J,J=R.getD z Rq.zero:=⟨_,rfl⟩
     have hold:∀ I,I<5->wr.cell? ⟨Y,o0+z*5+I,none⟩=J.cells[I]?:=fun I hi=>by
      rw [a9.cell (p:=⟨Y,o0+z*5+I,none⟩) ak,U];exact q z I K hi
     have a0:=hold 0 (by omega);have a1:=hold 1 (by omega);have a2:=hold 2 (by omega);have a3:=hold 3 (by omega);have a4:=hold 4 (by omega);have aL:=KL (Gg K U);have HS:=KL U
     have ay:J∈R:=by rw [U];simp only [List.getD,Lj K,LI];exact Lp _
     have HM:=KL ay;have ar:=KL af;clear hold U q a9 ay af;obtain ⟨t,ht⟩:=DT J;have HT:=KL ht;obtain ⟨id,kd,bk,wt,an⟩:=J;simp only [Rq.cells,Lb,Lc,Nat.add_zero] at a0 a1 a2 a3 a4;have lb:Y<wr.heap.size:=bV a0;have lw:w.heap.size<wr.heap.size:=by omega
     cases t with
     | false=>
      have hrf:Hid (r=6):=HBad.out fun h=>by
       rcases ht with ⟨_,E⟩|⟨E,_⟩
       ·cases E
       ·exact E (h.2.2.2.1 _ HM.out)
      clear ht HBad HC;go_wp2_with (go_at_call 88;refine (eR _ _ _ _ _ _ _ HT.out).mono ?_;rintro e w1 ⟨rfl,hb1⟩;obtain ⟨hc1,hf1⟩:=aX hb1;have hz1:=fX hb1;have hy1:=hb1.size;(try simp at hy1))
      all_goals first|(go_ret;exact ⟨rI hrf.out.symm,(by refine KS ?_ (Below.mono hb1 Zs);repeat (first|(with_reducible exact a7.out)|(with_reducible refine KN ?_)|(with_reducible refine aM ?_)|(with_reducible refine KU ?_ Zs _)|(with_reducible refine KO ?_ Zs _)))⟩)|exact Zx
     | true=>
      have al:fR ⟨id,kd,bk,wt,an⟩:=by
       rcases ht with ⟨E,_⟩|⟨_,E⟩
       ·exact E
       ·cases E
      have HN:=KL (ID K HS.out am.out al);have ax:keyOf prog 3 (.int .i64 id)=some (kI id):=Go.Maps.keyOf_int_mk underlying3 (by obtain ⟨h1,h2,_⟩:=al;simp only at h1 h2;simp [Lit.wf,IntKind.min,IntKind.max,IntKind.signed,IntKind.bits];omega);have HK:=KL ax;obtain ⟨es,aF,h3,h4,h5,h6⟩:=ar.out;have HO:=KL aF;have HE:=KL (And.intro h3 (And.intro h4 (And.intro h5 h6)))
      have Z:(gU (R.take z)).length<maxLen:=by unfold maxLen;simp [gU];omega
      have HL:=KL Z;clear ht al ax aF h3 h4 h5 h6 Z;go_wp2_with (first|(go_at_call 88;refine (eR _ _ _ _ _ _ _ HT.out).mono ?_;rintro e w1 ⟨rfl,hb1⟩;obtain ⟨hc1,hf1⟩:=aX hb1;have hz1:=fX hb1;have hy1:=hb1.size;(try simp at hy1))|(at_mapUpdate;refine wpList_mapUpdate_own _ rfl _ _ _ 228 rfl 3 230 Bo underlying228 tr M (gU (R.take z)).length (DataW.map es) rfl (kK (kK HO.out ((KM _ _).alloc (KY _) _)) hb1) HL.out _ _ (kI id) rfl rfl HK.out .nil [] rfl ?_));intro w2 aH aa
      have aT:Hid (Below w.heap.size w w2):=by
       have h1:Below w.heap.size w w1:=(by refine KS ?_ (Below.mono hb1 Zs);repeat (first|(with_reducible exact a7.out)|(with_reducible refine KN ?_)|(with_reducible refine aM ?_)|(with_reducible refine KU ?_ Zs _)|(with_reducible refine KO ?_ Zs _)));exact tJ h1 aa h1.size (by omega)
      have S2:Hid (pZ w2 M (gU (R.take (z+1)))):=by
       have:=HE.out;show pZ w2 M (gU (R.take (z+1)))
       rw [aL.out];exact yQ this.1 this.2.1 this.2.2.1 this.2.2.2 aH
      have s1:=hb1.size;have s2:=xJ aa;simp at s1;have c2:Hid (w2.cell? ⟨w.heap.size,1,none⟩=some (.slice (some ⟨Y,o0,none⟩) R.length c')):=Fh aa (by omega) ((hc1 _ _ (by simp;omega)).trans (aI _ aS));clear aH aa HO HE hc1 hf1 hb1 ar;go_wp2;go_roundw
      case rel=>exact ⟨z+1,by go_num,by omega,aT.out,b3,by omega,c2.out,S2.out,HN.out⟩
      case measure=>simp [intOf];omega
    ·have b9:¬ (z:Int)<(R.length:Int):=by omega
     obtain ⟨n,a8,cl,hh,hn,ad,a6⟩:=yR af;have ab:gU (R.take z)=gU R:=by rw [Lo (by omega)]
     have Z:(gU (R.take z)).length=R.length:=by rw [ab];simp [gU]
     rw [Z,ab] at a6;rw [Z] at ad;subst hn;have bc:=Bi hh 3;clear af a9 hh;rcases (show a8.size<R.length\/a8.size=R.length by omega) with h|h
     ·have E:(a8.size:Int)<(R.length:Int):=by omega
      have hrf:Hid (r=6):=HBad.out fun hm=>by have:=a6.2 hm.2.2.2.2;omega
      clear HBad HC a6 Z ab;go_wp2
      all_goals first|(go_ret;exact ⟨rI hrf.out.symm,a7.out⟩)|exact Zx
     ·have E:¬ (a8.size:Int)<(R.length:Int):=by omega
      have b4:Hid (r=0):=by
       rcases HC.out with ⟨_,hr⟩|⟨hr,_⟩
       ·exact hr
       ·exact absurd ⟨h12,h100,fun I hi=>HA.out I (by omega),fun x hx=>am.out x (by rw [Lo (by omega)];exact hx),a6.1 h⟩ hr
      clear HBad HC a6 Z ab;go_wp2
      all_goals first|(go_ret;exact ⟨rI b4.out.symm,a7.out⟩)|exact Zx
def Lf.agg (x:Lf):Value:=.agg #[.int .i64 x.backend,.int .i64 x.state,.int .i64 x.weight,.int .i64 x.since,.int .i64 x.until_,.int .i64 x.request]
theorem D7 (N:Nat) (J:Addr) (hN:∀ args w,(callFunc N args).run prog w=.ok (.enter N args) w) (p:Lf->Bool) (z I c0:Nat) (X:List Lf) (w:World) (a6:z<w.heap.size) (hn:X.length<=4611686018427387903) (K:∀ i j,i<X.length->j<6->w.cell? ⟨z,I+i*6+j,none⟩=(X.getD i Lf.zero).cells[j]?)
  (Y:∀ x∈X,∀ w',Below w.heap.size w w'->Calls prog N #[Lf.agg x,.pointer (some J)] w' fun e a7=>e=.returned (.bool (p x))/\Below w'.heap.size w' a7) :
  Calls prog 151 #[.slice (some ⟨z,I,none⟩) X.length c0,.func (.func N) #[] #[.pointer (some J)]] w fun e w'=>e=.returned (.int .i64 (aU p X))/\Below w.heap.size w w':=by
 have H1:=KL K
 have HF:=KL Y
 have a9:X.length<=9223372036854775807:=by omega
 clear K Y
 go_in
 go_wp2
 go_loopw [8] (fun i wr=>∃ k:Nat,k<=X.length/\i=.int .i64 k/\Below w.heap.size w wr/\∀ x∈X.take k,p x=false) (fun i _=>X.length - (intOf i).toNat)
 case atStart=>exact ⟨0,La _,rfl,KM _ _,fun x hx=>by simp at hx⟩
 case round=>
  obtain ⟨k,hk,rfl,hbel,U⟩:=hrel;have HA:=KL U;clear U;rcases (show k<X.length\/X.length=k by omega) with hlt|heq
  ·have a8:(k:Int)<(X.length:Int):=by omega
   obtain ⟨o,E⟩:∃ o,o=X.getD k Lf.zero:=⟨_,rfl⟩;have HO:=KL E
   have Z:o∈X:=by rw [E];simp only [List.getD,Lj hlt,LI];exact Lp _
   have HC:=KL (HF.out o Z _ hbel)
   have hold:∀ j,j<6->wr.cell? ⟨z,I+k*6+j,none⟩=o.cells[j]?:=fun j hj=>by
    rw [hbel.cell (p:=⟨z,I+k*6+j,none⟩) a6,E];exact H1.out k j hlt hj
   have a0:=hold 0 (by omega);have a1:=hold 1 (by omega);have a2:=hold 2 (by omega);have a3:=hold 3 (by omega);have a4:=hold 4 (by omega);have a5:=hold 5 (by omega);clear hold E Z;have HB:=KL hbel;clear hbel;simp only [Lf.cells,Lb,Lc,Nat.add_zero] at a0 a1 a2 a3 a4 a5;exact Q11
  ·exact Q22
theorem D8 (N:Nat) (z:Addr) (a:Option Addr) (c:Nat) (w:World):Calls prog 151 #[.slice a 0 c,.func (.func N) #[] #[.pointer (some z)]] w fun e w'=>e=.returned (.int .i64 (-1))/\Below w.heap.size w w':=by
 go_in;exact Q24
theorem tN (N:Nat) (h:Addr) (J:∀ args w,(callFunc N args).run prog w=.ok (.enter N args) w) (p:Lf->Bool) (v:Value) (X:List Lf) (w:World) (r:aK w 6 v (X.map Lf.cells)) (Y:X.length<=4611686018427387903)
  (U:∀ x∈X,∀ w',Below w.heap.size w w'->Calls prog N #[Lf.agg x,.pointer (some h)] w' fun e a0=>e=.returned (.bool (p x))/\Below w'.heap.size w' a0) :
  Calls prog 151 #[v,.func (.func N) #[] #[.pointer (some h)]] w fun e w'=>e=.returned (.int .i64 (aU p X))/\Below w.heap.size w w':=by
 obtain ⟨a,E,rfl,l,m,n,z⟩:=aO Lf.zero r
 by_cases hX:X=[]
 ·subst hX;exact D8 N h a E w
 ·obtain ⟨I,Z,rfl,K,z⟩:=z hX;exact D7 N h J p I Z E X w K Y z U
def dB (x:Sl):Prop:=if x.used=true then 0<=x.gen/\x.gen<=1048575/\0<=x.key/\x.key<=4294967295/\0<=x.backend/\x.backend<=11 else 0<=x.gen/\x.gen<=1048576/\x.key=0/\x.backend=0
theorem El (g:Int) (u:Bool) (k b:Int) (w:World) (h:dB ⟨g,u,k,b⟩):Calls prog 86 #[.agg #[.int .i64 g,.bool u,.int .i64 k,.int .i64 b]] w fun e w'=>e=.returned (.bool true)/\Below w.heap.size w w':=by
 cases u with
 | true=>
  obtain ⟨z,E,I,J,K,U⟩:0<=g/\g<=1048575/\0<=k/\k<=4294967295/\0<=b/\b<=11:=by simpa [dB] using h
  clear h
  have Y:decide (b<12)=true:=by simp;omega
  go_in;go_wp2
  all_goals exact Zf
 | false=>
  obtain ⟨z,E,rfl,rfl⟩:0<=g/\g<=1048576/\k=0/\b=0:=by simpa [dB] using h
  clear h;go_in;go_wp2
  all_goals exact Zf
theorem rD {g k b:Int} (h:¬ dB ⟨g,true,k,b⟩):g<0\/(0<=g/\1048576<g)\/(0<=g/\g=1048576)\/(0<=g/\g<1048576/\k<0)\/(0<=g/\g<1048576/\0<=k/\4294967295<k)\/(0<=g/\g<1048576/\0<=k/\k<=4294967295/\b<0)\/(0<=g/\g<1048576/\0<=k/\k<=4294967295/\0<=b/\11<b):=by
 have:¬ (0<=g/\g<=1048575/\0<=k/\k<=4294967295/\0<=b/\b<=11):=by simpa [dB] using h
 omega
theorem rE {g k b:Int} (h:¬ dB ⟨g,false,k,b⟩):g<0\/(0<=g/\1048576<g)\/(0<=g/\g<=1048576/\k≠0)\/(0<=g/\g<=1048576/\k=0/\b≠0):=by
 have:¬ (0<=g/\g<=1048576/\k=0/\b=0):=by simpa [dB] using h
 omega
theorem Iz (g:Int) (u:Bool) (k b:Int) (w:World) (h:¬ dB ⟨g,u,k,b⟩):Calls prog 86 #[.agg #[.int .i64 g,.bool u,.int .i64 k,.int .i64 b]] w fun e w'=>e=.returned (.bool false)/\Below w.heap.size w w':=by
 cases u with
 | true=>
  rcases rD h with z|⟨z,E⟩|⟨z,rfl⟩|⟨z,E,I⟩|⟨z,E,I,J⟩|⟨z,E,I,J,U⟩|⟨z,E,I,J,U,Y⟩
  ·clear h;go_in;go_wp2
   all_goals exact Zf
  ·clear h;go_in;go_wp2
   all_goals exact Zf
  ·clear h;go_in;go_wp2
   all_goals exact Zf
  ·clear h
   have K:decide (0<=k)=false:=by simp;omega
   go_in;go_wp2
   all_goals exact Zf
  ·clear h
   have K:decide (k<=4294967295)=false:=by simp;omega
   go_in;go_wp2
   all_goals exact Zf
  ·clear h
   have K:decide (0<=b)=false:=by simp;omega
   go_in;go_wp2
   all_goals exact Zf
  ·clear h
   have K:decide (b<12)=false:=by simp;omega
   go_in;go_wp2
   all_goals exact Zf
 | false=>
  rcases rE h with z|⟨z,E⟩|⟨z,E,I⟩|⟨z,E,rfl,J⟩
  ·clear h;go_in;go_wp2
   all_goals exact Zf
  ·clear h;go_in;go_wp2
   all_goals exact Zf
  ·clear h;have K:(k == 0)=false:=by simpa using I
   clear I;go_in;go_wp2
   all_goals exact Zf
  ·clear h;have K:(b == 0)=false:=by simpa using J
   clear J;go_in;go_wp2
   all_goals exact Zf
theorem sy (g:Int) (u:Bool) (k b:Int) (w:World) (h:dB ⟨g,u,k,b⟩):Calls prog 85 #[.agg #[.int .i64 g,.bool u,.int .i64 k,.int .i64 b]] w fun e w'=>e=.returned (.bool false)/\Below w.heap.size w w':=by
 have H:=KL h;clear h;go_in;go_wp2_with (go_at_call 86;refine (El _ _ _ _ _ H.out).mono ?_;rintro e U ⟨rfl,z⟩;obtain ⟨I,J⟩:=aX z;have K:=fX z;have E:=z.size;(try simp at E))
 all_goals exact Zf
theorem DW (g:Int) (u:Bool) (k b:Int) (w:World) (h:¬ dB ⟨g,u,k,b⟩):Calls prog 85 #[.agg #[.int .i64 g,.bool u,.int .i64 k,.int .i64 b]] w fun e w'=>e=.returned (.bool true)/\Below w.heap.size w w':=by
 have H:=KL h;clear h;go_in;go_wp2_with (go_at_call 86;refine (Iz _ _ _ _ _ H.out).mono ?_;rintro e U ⟨rfl,z⟩;obtain ⟨I,J⟩:=aX z;have K:=fX z;have E:=z.size;(try simp at E))
 all_goals exact Zf
def C8 (w:World) (e:Ending) (w':World):Prop:=∃ k:Nat,k<=40/\e=.returned (.int .i64 k)/\Below w.heap.size w w'
theorem su (b0 o0 c0:Nat) (X:List Sl) (w:World) (hb0:b0<w.heap.size) (hn:X.length<=40) (E:∀ i j,i<X.length->j<4->w.cell? ⟨b0,o0+i*4+j,none⟩=(X.getD i Sl.zero).cells[j]?) (J:∀ x∈X,dB x) :
  Calls prog 99 #[.slice (some ⟨b0,o0,none⟩) X.length c0,(.func (.func 85) #[] #[])] w fun e w'=>e=.returned (.int .i64 (-1))/\Below w.heap.size w w':=by
 have H1:=KL E
 have Y:=KL J
 have a7:X.length<=9223372036854775807:=by omega
 clear E J
 go_in
 go_wp2
 go_loopw [8] (fun i wr=>∃ k:Nat,k<=X.length/\i=.int .i64 k/\Below w.heap.size w wr) (fun i _=>X.length - (intOf i).toNat)
 case atStart=>exact ⟨0,La _,rfl,KM _ _⟩
 case round=>
  obtain ⟨k,hk,rfl,hbel⟩:=hrel;rcases (show k<X.length\/X.length=k by omega) with hlt|a4
  ·have a6:(k:Int)<(X.length:Int):=by omega
   obtain ⟨o,ho⟩:∃ o,o=X.getD k Sl.zero:=⟨_,rfl⟩;have K:dB o:=Y.out o (by rw [ho];simp only [List.getD,Lj hlt,LI];exact Lp _)
   have hold:∀ j,j<4->wr.cell? ⟨b0,o0+k*4+j,none⟩=o.cells[j]?:=fun j hj=>by
    exact Q111
   clear ho;have a0:=hold 0 (by omega);have a1:=hold 1 (by omega);have a2:=hold 2 (by omega);have a3:=hold 3 (by omega);clear hold;have Z:=KL K;clear K;obtain ⟨g,u,ky,b⟩:=o;simp only [Sl.cells,Lb,Lc,Nat.add_zero] at a0 a1 a2 a3;have z:=KL hbel;clear hbel;go_wp2_with fail;refine (sy _ _ _ _ _ Z.out).mono ?_;rintro e w1 ⟨rfl,I⟩;have U:=KL (z.out.trans (I.mono z.out.size));clear I z;go_wp2;go_roundw
   case rel=>exact ⟨k+1,by omega,by go_num,U.out⟩
   case measure=>simp [intOf];omega
  ·have a5:¬ (k:Int)<(X.length:Int):=by omega
   go_wp2
   all_goals first|(go_ret;exact ⟨rfl,hbel⟩)|exact Zx
theorem nS (b0 o0 c0:Nat) (X:List Sl) (w:World) (hb0:b0<w.heap.size) (hn:X.length<=40) (h1:∀ i j,i<X.length->j<4->w.cell? ⟨b0,o0+i*4+j,none⟩=(X.getD i Sl.zero).cells[j]?) (hf:∃ x∈X,¬ dB x) :
  Calls prog 99 #[.slice (some ⟨b0,o0,none⟩) X.length c0,(.func (.func 85) #[] #[])] w (C8 w):=by
 have H1:=KL h1
 have HF:=KL hf
 have aa:X.length<=9223372036854775807:=by omega
 clear h1 hf
 go_in
 go_wp2
 go_loopw [8] (fun i wr=>∃ k:Nat,k<=X.length/\i=.int .i64 k/\Below w.heap.size w wr/\∀ x∈X.take k,dB x) (fun i _=>X.length - (intOf i).toNat)
 case atStart=>exact ⟨0,La _,rfl,KM _ _,fun x J=>by simp at J⟩
 case round=>
  obtain ⟨k,hk,rfl,hbel,a4⟩:=hrel;have K:=KL a4;clear a4;rcases (show k<X.length\/X.length=k by omega) with hlt|a8
  ·have a9:(k:Int)<(X.length:Int):=by omega
   obtain ⟨z,ho⟩:∃ z,z=X.getD k Sl.zero:=⟨_,rfl⟩
   have a6:X.take (k+1)=X.take k++[z]:=by rw [ho,Li hlt];simp [List.getD,hlt]
   have Y:=KL a6
   have hold:∀ j,j<4->wr.cell? ⟨b0,o0+k*4+j,none⟩=z.cells[j]?:=fun j hj=>by
    exact Q111
   clear ho a6;have Z:=hold 0 (by omega);have a1:=hold 1 (by omega);have a2:=hold 2 (by omega);have a3:=hold 3 (by omega);clear hold;have E:=KL hbel;clear hbel;by_cases hfo:dB z
   ·have a5:∀ x∈X.take (k+1),dB x:=by rw [Y.out];intro x J;rcases List.mem_append.1 J with h|h;exact K.out x h;simp at h;rw [h];exact hfo
    have HA2:=KL a5;have U:=KL hfo;clear a5 hfo K Y;obtain ⟨g,u,ky,b⟩:=z;simp only [Sl.cells,Lb,Lc,Nat.add_zero] at Z a1 a2 a3;go_wp2_with fail;refine (sy _ _ _ _ _ U.out).mono ?_;rintro e w1 ⟨rfl,I⟩;have B1:=KL (E.out.trans (I.mono E.out.size));clear I E;exact Q27
   ·have U:=KL hfo;clear hfo K Y;obtain ⟨g,u,ky,b⟩:=z;simp only [Sl.cells,Lb,Lc,Nat.add_zero] at Z a1 a2 a3;go_wp2_with fail;refine (DW _ _ _ _ _ U.out).mono ?_;rintro e w1 ⟨rfl,I⟩;have B1:=KL (E.out.trans (I.mono E.out.size));clear I E;go_wp2;go_ret;exact ⟨k,by omega,rfl,B1.out⟩
  ·exfalso;obtain ⟨x,J,a7⟩:=HF.out;exact a7 (K.out x (by rw [Lo (by omega)];exact J))
theorem sw (a:Option Addr) (c:Nat) (w:World):Calls prog 99 #[.slice a 0 c,(.func (.func 85) #[] #[])] w fun e w'=>e=.returned (.int .i64 (-1))/\Below w.heap.size w w':=by
 go_in;exact Q24
theorem p8 (v:Value) (X:List Sl) (w:World) (r:aK w 4 v (X.map Sl.cells)) (hn:X.length<=40) (J:∀ x∈X,dB x) :
  Calls prog 61 #[v,(.func (.func 85) #[] #[])] w fun e w'=>e=.returned (.bool false)/\Below w.heap.size w w':=by
 have K:Calls prog 99 #[v,(.func (.func 85) #[] #[])] w fun e w'=>e=.returned (.int .i64 (-1))/\Below w.heap.size w w':=by
  obtain ⟨a,z,rfl,l,m,n,p⟩:=aO Sl.zero r;by_cases hX:X=[]
  ·subst hX;exact sw a z w
  ·obtain ⟨Y,o,rfl,Z,q⟩:=p hX;exact su Y o z X w Z hn q J
 have E:=KL K
 obtain ⟨a,z,rfl,_⟩:=ap r
 clear K r J
 go_in
 go_wp2_with fail
 refine E.out.mono ?_
 rintro e w1 ⟨rfl,I⟩
 have U:=KL I
 clear I E
 go_wp2
 all_goals first|(go_ret;exact ⟨rfl,U.out⟩)|exact Zx
theorem nU (v:Value) (X:List Sl) (w:World) (r:aK w 4 v (X.map Sl.cells)) (hn:X.length<=40) (z:∃ x∈X,¬ dB x) :
  Calls prog 61 #[v,(.func (.func 85) #[] #[])] w fun e w'=>e=.returned (.bool true)/\Below w.heap.size w w':=by
 have K:Calls prog 99 #[v,(.func (.func 85) #[] #[])] w (C8 w):=by
  obtain ⟨a,I,rfl,l,m,n,p⟩:=aO Sl.zero r;by_cases hX:X=[]
  ·subst hX;obtain ⟨x,hx,_⟩:=z
   cases hx
  ·obtain ⟨Y,o,rfl,Z,q⟩:=p hX;exact nS Y o I X w Z hn q z
 have E:=KL K
 obtain ⟨a,I,rfl,_⟩:=ap r
 clear K r z
 go_in
 go_wp2_with fail
 refine E.out.mono ?_
 rintro e w1 ⟨k,hk,rfl,J⟩
 have U:=KL J
 clear J E
 go_wp2
 all_goals first|(go_ret;exact ⟨rfl,U.out⟩)|exact Zx
def dR (X:List Sl):Prop:=1<=X.length/\X.length<=40/\∀ x∈X,dB x
theorem zI {X:List Sl} (h:¬ dR X):X.length<1\/(1<=X.length/\40<X.length)\/(1<=X.length/\X.length<=40/\∃ x∈X,¬ dB x):=by
 by_cases h1:X.length<1
 ·exact Or.inl h1
 by_cases h2:40<X.length
 ·exact Or.inr (Or.inl ⟨by omega,h2⟩)
 refine Or.inr (Or.inr ⟨by omega,by omega,?_⟩);by_cases h3:∀ x∈X,dB x
 ·exact absurd ⟨by omega,by omega,h3⟩ h
 ·simpa using h3
theorem fp (v:Value) (X:List Sl) (w:World) (r:aK w 4 v (X.map Sl.cells)) (h:dR X) :
  Calls prog 47 #[.agg #[v]] w fun e w'=>e=.returned (.int .i64 0)/\Below w.heap.size w w':=by
 obtain ⟨Z,z,E⟩:=h
 have Y:=KL r
 obtain ⟨a,c,rfl,_⟩:=ap r
 have U:=KL E
 have K:=KL z
 have g1:(1:Int)<=(X.length:Int):=by omega
 have g2:(X.length:Int)<=40:=by omega
 clear r E Z z
 go_in
 go_wp2_with fail
 refine (p8 _ X _ (ai Y.out _) K.out U.out).mono ?_
 rintro e w1 ⟨rfl,I⟩
 have J:=KL (((KM w.heap.size w).alloc (KY _) _).trans (I.mono (by simp)))
 clear I
 go_wp2
 all_goals first|(go_ret;exact ⟨rfl,J.out⟩)|exact Zx
theorem uC (v:Value) (X:List Sl) (w:World) (r:aK w 4 v (X.map Sl.cells)) (h:¬ dR X) :
  Calls prog 47 #[.agg #[v]] w fun e w'=>e=.returned (.int .i64 6)/\Below w.heap.size w w':=by
 have R:=KL r
 obtain ⟨a,c,rfl,_⟩:=ap r
 clear r
 rcases zI h with z|⟨z,E⟩|⟨z,E,J⟩
 ·have I:(X.length:Int)<1:=by omega
  clear h z;exact Q125
 ·have I:(1:Int)<=(X.length:Int):=by omega
  have g2:(40:Int)<(X.length:Int):=by omega
  clear h z E;exact Q125
 ·have Z:=KL J;have Y:=KL E;have I:(1:Int)<=(X.length:Int):=by omega
  have g2:(X.length:Int)<=40:=by omega
  clear h J z E;go_in;go_wp2_with fail;refine (nU _ X _ (ai R.out _) Y.out Z.out).mono ?_;rintro e w1 ⟨rfl,K⟩;have U:=KL (((KM w.heap.size w).alloc (KY _) _).trans (K.mono (by simp)));clear K;go_wp2
  all_goals first|(go_ret;exact ⟨rfl,U.out⟩)|exact Zx
theorem Jg:(prog.info? 111).map (fun i=>(i.zero,i.size,i.bytes))=some (some (.agg #[.int .i64 0,.int .i64 0]),2,16):=by kernel_rfl
def j8 (X:List Sl) (b:Int):Nat->List Hd
 | 0=>[]
 | n+1=>j8 X b n++(if (X.getD n Sl.zero).used=true/\(X.getD n Sl.zero).backend=b then [⟨n,(X.getD n Sl.zero).gen⟩] else [])
theorem lc (X:List Sl) (b:Int):∀ n,(j8 X b n).length<=n
 | 0=>KY _
 | n+1=>by
  have:=lc X b n;simp only [j8,Ll]
  split<;>simp<;>omega
theorem ve {X:List Sl} {b:Int} {n:Nat} {s:Sl} (E:s=X.getD n Sl.zero) (h:s.used=true) (z:s.backend=b):j8 X b (n+1)=j8 X b n++[⟨n,s.gen⟩]:=by
 subst E;simp only [j8];rw [if_pos ⟨h,z⟩]
theorem vi {X:List Sl} {b:Int} {n:Nat} {s:Sl} (z:s=X.getD n Sl.zero) (h:¬ (s.used=true/\s.backend=b)):j8 X b (n+1)=j8 X b n:=by
 subst z;simp only [j8];rw [if_neg h,List.append_nil]
theorem hd_len (L:List Hd):∀ c∈L.map Hd.cells,c.length=2:=by
 exact Q28
theorem Jj (L:List Hd) (x:Hd):((L++[x]).map Hd.cells).flatten=(L.map Hd.cells).flatten++x.cells:=by
 rw [LG,Lv];simp
theorem tD {wr w1:World} {B sz n h:Nat} {t:TypeId} {a:Option Addr} {cs:List Value} {o:Obj} (I:B<=wr.heap.size) (U:wr.ownsRow B t sz (.slice a n h) n cs) (K:(wr.alloc o).grownBy w1 (Value.slice a n h).ownBlock):Below B wr w1:=
 ((KM _ _).alloc I _).trans ((KM _ _).grown K (by simp;omega) (by
  intro Y E;obtain ⟨_,_,z,_,J⟩:=aE U
  cases a with
  | none=>cases E
  | some ad=>
   simp only [Value.slice.injEq] at z;have:=(J ad z.1.symm).1;simp only [Value.ownBlock,Option.some.injEq] at E
   omega))
def Hv (w:World) (X:List Sl) (b:Int) (e:Ending) (w':World):Prop:=∃ v,e=.returned (.tuple #[v,.int .i64 0])/\aN w.heap.size w' 2 v ((j8 X b X.length).map Hd.cells)/\Below w.heap.size w w'
def Hu (w wr:World) (s:Value) (X:List Sl) (b:Int) (k:Nat) (l:Value):Prop:=Below w.heap.size w wr/\w.heap.size<wr.heap.size/\wr.cell? ⟨w.heap.size,0,none⟩=some s/\
 ∃ (a:Option Addr) (h:Nat),l=.slice a (j8 X b k).length h/\wr.ownsRow (w.heap.size+1) 111 2 (.slice a (j8 X b k).length h) (j8 X b k).length ((j8 X b k).map Hd.cells).flatten
end
end Go.Proofs.YtennppmadmgfoaaGreatDoor
