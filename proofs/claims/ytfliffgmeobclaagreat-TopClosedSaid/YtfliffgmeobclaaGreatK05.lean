/- Texts of the row's proof. Conditions: none. -/
import Derived.Deep.RegionHeld3
import Derived.Test.YtfliffgmeobclaaGreatK02
namespace Go.Proofs.YtfliffgmeobclaaGreat
set_option maxRecDepth 100000
set_option maxHeartbeats 8000000
section
open Go.RowKit
theorem Q143 {p:Prop} (h:p:=by
 go_roundw
 case rel=>exact ⟨k+1,by omega,by go_num,B1.out,HA2.out⟩
 case measure=>simp [intOf];omega):p:=h
theorem Q11 {p:Prop} (h:p:=by
 go_wp2_with fail;refine (HC.out).mono ?_;rintro e w1 ⟨rfl,hb1⟩;have B1:=Hu (HB.out.trans (hb1.mono HB.out.size));clear hb1 HB HC;by_cases hp:p o=true
 ·have HP:=Hu hp;simp only [hp];clear hp;go_wp2;go_ret;exact ⟨rI (kP hlt HO.out HP.out HA.out).symm,B1.out⟩
 ·have hp':p o=false:=by simpa using hp
  have HA2:=Hu (mC hlt HO.out hp' HA.out);simp only [hp'];clear hp hp' HA;go_wp2;exact Q143):p:=h
theorem Q113 {p:Prop} (h:p:=by
 have l0:=lt_of_block h2;clear h1 h2 h3 h4 h5;go_wp2;go_roundw
 case rel=>exact Or.inr (Or.inl ⟨by go_num,iO HR.out⟩)
 case measure=>simp [intOf]):p:=h
theorem Q107 {p:Prop} (h:p:=by
 simp at t0;have l0:=lt_of_block h2;clear h1 h2 h3 h4 h5;go_wp2;go_roundw
 case rel=>exact Or.inr (Or.inr (⟨by go_num,iO HR.out⟩))
 case measure=>simp [intOf]):p:=h
theorem Q18 {p:Prop} (h:p:=by
 clear HR0;rcases hrel with ⟨rfl,hrel⟩|⟨rfl,hrel⟩|⟨rfl,hrel⟩
 ·have HR:=Hu hrel;obtain ⟨h1,h2,h3,h4,h5,h6,h7⟩:=hrel;have r0:=(h5 _).trans q00;have r1:=(h5 _).trans q01;have r2:=(h5 _).trans q02;have t0:=ae h2 2;have t1:=ap h2 2;simp at t0;exact Q113
 ·have HR:=Hu hrel;obtain ⟨h1,h2,h3,h4,h5,h6,h7⟩:=hrel;have r0:=(h5 _).trans q10;have r1:=(h5 _).trans q11;have r2:=(h5 _).trans q12;have t0:=ae h2 3;have t1:=ap h2 3;exact Q107
 ·obtain ⟨h1,h2,h3,h4,h5,h6,h7⟩:=hrel;have g0:=ap h2 0;have d0:=ae h2 0;have d1:=ae h2 1;have d2:=ae h2 2;have d3:=ae h2 3;have d4:=ae h2 4;have d5:=ae h2 5;have d6:=ae h2 6;have d7:=ae h2 7;have y0:=ae h3 0;have z0:=ap h3 0;have y1:=ae h3 1;have z1:=ap h3 1;have y2:=ae h3 2;have z2:=ap h3 2;have y3:=ae h3 3;have z3:=ap h3 3;have y4:=ae h3 4;have z4:=ap h3 4;have y5:=ae h3 5;have z5:=ap h3 5;have y6:=ae h3 6;have z6:=ap h3 6;have y7:=ae h3 7;have z7:=ap h3 7;simp at d0 d1 d2 d3 d4 d5 d6 d7 y0 y1 y2 y3 y4 y5 y6 y7;have m1:w.heap.size<wr.heap.size:=by omega
  have m2:w.heap.size+1<wr.heap.size:=by omega
  clear h2 h3 h4 h5;go_wp2;refine Ix (v:=.agg #[.int .i64 0,.int .i64 ky,.int .i64 0,.int .i64 0,.bool gd,.int .i64 rq,.int .i64 bk,.int .i64 wt]) ?_ rfl ⟨rfl,Zb⟩;simp [results,Tryz.results49,go_sem, *]):p:=h
theorem Q19 {p:Prop} (h:p:=by
 go_enter Tryz.func89,Tryz.ntmps89;go_wp2_with (first|(go_at_call 39;refine (iH _ _ _ _ H.out).mono ?_;rintro e w1 ⟨rfl,hb1⟩;obtain ⟨hc1,hf1⟩:=aV hb1;have hz1:=fQ hb1;have hy1:=hb1.size;(try simp at hy1)))
 all_goals exact Zf):p:=h
theorem Q134 {p:Prop} (h:p:=by
 have HB:=Hu hbel;clear heq hbel HA;go_wp2
 all_goals first|(go_ret;exact ⟨rI HE.out.symm,HB.out⟩)|exact Zx):p:=h
theorem Q23 {p:Prop} (h:p:=by
 have hge:¬ (k:Int)<(X.length:Int):=by omega
 have HE:=Hu (jD heq HA.out);exact Q134):p:=h
theorem Q25 {p:Prop} (h:p:=by
 go_wp2;refine wp_loop_rounds 1 ?_;rw [rounds_succ];go_wp2
 all_goals first|(go_ret;exact ⟨rfl,Hv _ _⟩)|exact Zx):p:=h
theorem Q28 {p:Prop} (h:p:=by
 go_wp2;exact Q143):p:=h
theorem Q29 {p:Prop} (h:p:=by
 intro c hc;simp only [It] at hc;obtain ⟨x,_,rfl⟩:=hc
 rfl):p:=h
theorem Q125 {p:Prop} (h:p:=by
 clear hr h1;go_enter Tryz.func83,Tryz.ntmps83;go_wp2
 all_goals exact Zf):p:=h
theorem Q31 {p:Prop} (h:p:=by
 by_cases h1:un=0
 ·subst h1
  ·by_cases h1:rq=0
   ·subst h1
    ·obtain rfl:r=true:=by rcases hr with ⟨_,h⟩|⟨h,_⟩;exact h;(refine absurd ?_ h;simp only [ex];first|omega|(simp;done)|(simp;omega))
     clear hr;go_enter Tryz.func83,Tryz.ntmps83;go_wp2
     all_goals exact Zf
   ·obtain rfl:r=false:=by rcases hr with ⟨h,_⟩|⟨_,h⟩;(simp only [ex] at h;omega);exact h
    have e1:(rq == 0)=false:=by simpa using h1
    exact Q125
 ·obtain rfl:r=false:=by rcases hr with ⟨h,_⟩|⟨_,h⟩;(simp only [ex] at h;omega);exact h
  have e1:(un == 0)=false:=by simpa using h1
  exact Q125):p:=h
theorem Q34 {p:Prop} (h:p:=by
 simp at t0;exact Q113):p:=h
theorem Q36 {p:Prop} (h:p:=by
 go_enter Tryz.func76,Tryz.ntmps76;go_wp2_with fail;refine (fc _ X _ (ai (ai (ai R.out _) _) _) H.out).mono ?_;rintro e w1 ⟨rfl,hb1⟩;obtain ⟨hc1,hf1⟩:=aV hb1;have hz1:=fQ hb1;have hy1:=hb1.size;simp at hy1;have hb2:b0<w.heap.size+1:=by omega
 have hb3:b0<w.heap.size+1+1:=by omega
 have hb4:b0<w.heap.size+1+1+1:=by omega
 go_wp2;refine Ix (v:=.tuple #[.agg #[.int .i64 0,.bool false,.int .i64 0,.int .i64 0],.int .i64 10]) ?_ rfl ?_;(focus (first|(simp [results,Tryz.results76,go_sem];done)|(simp [results,Tryz.results76,go_sem, *];done)));exact ⟨rfl,Zb⟩):p:=h
theorem Q37 {p:Prop} (h:p:=by
 obtain rfl:r=true:=by rcases hr with ⟨_,h⟩|⟨h,_⟩;exact h;(refine absurd ?_ h;simp only [ex];first|omega|(simp;done)|(simp;omega))
 clear hr;go_enter Tryz.func83,Tryz.ntmps83;go_wp2
 all_goals exact Zf):p:=h
theorem Q38 {p:Prop} (h:p:=by
 go_wp2_with fail;refine K.out.mono ?_;rintro e w1 ⟨rfl,hb1⟩;have B1:=Hu hb1;clear hb1 K;go_wp2
 all_goals first|(go_ret;exact ⟨rfl,B1.out⟩)|exact Zx):p:=h
theorem Q42 {p:Prop} (h:p:=by
 clear ht HBad HC;go_wp2_with (go_at_call 83;refine (uX _ _ _ _ _ _ _ _ HT.out).mono ?_;rintro e w1 ⟨rfl,hb1⟩;obtain ⟨hc1,hf1⟩:=aV hb1;have hz1:=fQ hb1;have hy1:=hb1.size;(try simp at hy1))
 all_goals first|(go_ret;exact ⟨rI hrf.out.symm,(by refine I0 ?_ (Below.mono hb1 Zs);repeat (first|(with_reducible exact HB.out)|(with_reducible refine Hx ?_)|(with_reducible refine aJ ?_)|(with_reducible refine I1 ?_ Zs _)|(with_reducible refine Hy ?_ Zs _)))⟩)|exact Zx):p:=h
theorem Q45 {p:Prop} (h:p:=by
 refine Below.grown ?_ hgrow ?_ ?_
 ·(repeat (first|(with_reducible exact Hv _ _)|(with_reducible assumption)|(with_reducible refine Hx ?_)|(with_reducible refine aJ ?_)|(with_reducible refine I1 ?_ (by first|omega|(simp;done)|(simp;omega)) _)|(with_reducible refine Hy ?_ (by first|omega|(simp;done)|(simp;omega)) _)))
 ·first|omega|(simp;omega)
 ·intro r hr;simp [Value.ownBlock] at hr;omega):p:=h
theorem Q67 {p:Prop} (h:p:=by
 obtain ⟨k,hk,rfl,hbel,hall⟩:=hrel;have HA:=Hu hall;clear hall;rcases (show k<X.length∨X.length=k by omega) with hlt|heq
 ·have hlt':(k:Int)<(X.length:Int):=by omega
  obtain ⟨o,ho⟩:∃ o,o=X.getD k Ld.zero:=⟨_,rfl⟩;have HO:=Hu ho
  have hm:o∈X:=by rw [ho];simp only [List.getD,Ib hlt,Iu];exact If _
  have HC:=Hu (HF.out o hm _ hbel)
  have hold:∀ j,j<3→wr.cell? ⟨b0,o0+k*3+j,none⟩=o.cells[j]?:=fun j hj=>by
   rw [hbel.cell (p:=⟨b0,o0+k*3+j,none⟩) hb0,ho];exact H1.out k j hlt hj
  have a0:=hold 0 (by omega);have a1:=hold 1 (by omega);have a2:=hold 2 (by omega);clear hold ho hm;have HB:=Hu hbel;clear hbel;simp only [Ld.cells,I5,I6,Nat.add_zero] at a0 a1 a2;exact Q11
 ·exact Q23):p:=h
theorem Q84 {p:Prop} (h:p:=by
 obtain rfl:r=true:=by rcases hr with ⟨_,h⟩|⟨h,_⟩;exact h;(refine absurd ?_ h;simp only [fJ];first|omega|(simp;done)|(simp;omega))
 clear hr;go_enter Tryz.func84,Tryz.ntmps84;go_wp2
 all_goals exact Zf):p:=h
theorem Q93 {p:Prop} (h:p:=by
 have HR:=Hu hrel;obtain ⟨h1,h2,h3,h4,h5,h6,h7⟩:=hrel;have r0:=(h5 _).trans q00;have r1:=(h5 _).trans q01;have r2:=(h5 _).trans q02;have t0:=ae h2 5;have t1:=ap h2 5;exact Q34):p:=h
theorem Q101 {p:Prop} (h:p:=by
 clear hown' hgrow;have B1':=B1.out;go_wp2;refine Ix (v:=.tuple #[.slice a' 3 cap',.bool true]) ?_ rfl ⟨_,rfl,O1.out,B1'⟩;simp [results,Tryz.results48,go_sem, *]):p:=h
theorem Q102 {p:Prop} (h:p:=by
 simp at t0;have l0:=lt_of_block h2;clear h1 h2 h3 h4 h5;go_wp2;go_roundw
 case rel=>exact Or.inr (Or.inr (Or.inl ⟨by go_num,iO HR.out⟩))
 case measure=>simp [intOf]):p:=h
theorem Q124 {p:Prop} (h:p:=by
 rw [hbel.cell (p:=⟨b0,o0+k*4+j,none⟩) hb0,ho];exact H1.out k j hlt hj):p:=h
theorem Q126 {p:Prop} (h:p:=by
 rw [((Hv _ _).alloc (I3 _) X).cell (p:=⟨b0,o,none⟩) (by simpa using h7),aR (by omega)];exact h5 o):p:=h
theorem Q139 {p:Prop} (h:p:=by
 go_enter Tryz.func41,Tryz.ntmps41;go_wp2_with fail
 all_goals first|(go_ret;exact ⟨rfl,Zb⟩)|exact Zx):p:=h
theorem Q146 {p:Prop} (h:p:=by
 rintro e w1 ⟨rfl,rfl⟩;go_wp2
 all_goals first|(go_ret2;exact ⟨rII rfl rfl,Zb⟩)|exact Zx):p:=h
theorem Q168 {p:Prop} (h:p:=by
 rw [hbel.cell (p:=⟨b0,o0+k*2+j,none⟩) hb0,ho];exact H1.out k j hlt hj):p:=h
theorem Q170 {p:Prop} (h:p:=by
 rw [hb.cell (p:=⟨b0,o0+k*4+j,none⟩) hb0,hs];exact H1.out k j hlt hj):p:=h
theorem Zh {p:Prop} (h:p:=by simp only [I7,I5,I6];exact rfl):p:=h
theorem Zy {p:Prop} (h:p:=by first|exact Or.inr ⟨by rfl,rfl⟩|(refine Or.inl ⟨by rfl,?_⟩;intro w hSw;(try dsimp only at hSw);go_simp;(try with_reducible rfl))):p:=h
theorem Zv {p:Prop} (h:p:=by first|(simp only [Act.put,List.setIfInBounds_toArray,List.set_cons_zero,List.set_cons_succ];done)|(simp only [Act.put,List.setIfInBounds_toArray,List.set_cons_zero,List.set_cons_succ];rfl)|rfl):p:=h
section
variable {P:Program} {md:Region.Mode} {ops:Array Oper} {Q:Exit→Act→World→Prop} {S:World→Prop} {fuel:Nat} {listed:Array Bool} {a a':Act} {w:World}
theorem Zt (i:Nat) {oi:Oper} {v:Value} (h:wpAnyH P md ops (NoPanic Q) S fuel (listed.setIfInBounds i true) a' w) (hi:ops[i]?=some oi:=by exact Zh)
  (hs:Region.noSelect ops=true:=by kernel_rfl) (hf:Region.free md ops listed i=true:=by kernel_rfl) (hr:(Region.ready md ops listed).contains i=true:=by kernel_rfl)
  (hy:YieldsIf P ops S oi v a:=by exact Zy)
  (hS:S w:=by assumption) (ha:a.put oi.dst v=a':=by exact Zv):wpAnyH P md ops (NoPanic Q) S (fuel+1) listed a w:=by
 subst ha;exact wpAnyH_take hi hs hf hr (fun _ _ _ h=>h) hy hS h
theorem df (i:Nat) {o0 o1:Oper} {v0 v1:Value} {b0 b1:Act}
  (h:wpAnyH P md ops (NoPanic Q) S fuel ((listed.setIfInBounds i true).setIfInBounds (i+1) true) b1 w) (hs:Region.noSelect ops=true:=by kernel_rfl) (hS:S w:=by assumption)
  (e0:ops[i]?=some o0:=by exact Zh) (f0:Region.free md ops listed i=true:=by kernel_rfl) (r0:(Region.ready md ops listed).contains i=true:=by kernel_rfl) (y0:YieldsIf P ops S o0 v0 a:=by exact Zy) (p0:a.put o0.dst v0=b0:=by exact Zv)
  (e1:ops[i+1]?=some o1:=by exact Zh) (f1:Region.free md ops (listed.setIfInBounds i true) (i+1)=true:=by kernel_rfl) (r1:(Region.ready md ops (listed.setIfInBounds i true)).contains (i+1)=true:=by kernel_rfl) (y1:YieldsIf P ops S o1 v1 b0:=by exact Zy) (p1:b0.put o1.dst v1=b1:=by exact Zv):wpAnyH P md ops (NoPanic Q) S (fuel+1+1) listed a w:=
 Zt i (Zt (i+1) (h) e1 hs f1 r1 y1 hS p1) e0 hs f0 r0 y0 hS p0
theorem eP (i:Nat) {o0 o1 o2 o3:Oper} {v0 v1 v2 v3:Value} {b0 b1 b2 b3:Act}
  (h:wpAnyH P md ops (NoPanic Q) S fuel ((((listed.setIfInBounds i true).setIfInBounds (i+1) true).setIfInBounds (i+2) true).setIfInBounds (i+3) true) b3 w) (hs:Region.noSelect ops=true:=by kernel_rfl) (hS:S w:=by assumption)
  (e0:ops[i]?=some o0:=by exact Zh) (f0:Region.free md ops listed i=true:=by kernel_rfl) (r0:(Region.ready md ops listed).contains i=true:=by kernel_rfl) (y0:YieldsIf P ops S o0 v0 a:=by exact Zy) (p0:a.put o0.dst v0=b0:=by exact Zv)
  (e1:ops[i+1]?=some o1:=by exact Zh) (f1:Region.free md ops (listed.setIfInBounds i true) (i+1)=true:=by kernel_rfl) (r1:(Region.ready md ops (listed.setIfInBounds i true)).contains (i+1)=true:=by kernel_rfl) (y1:YieldsIf P ops S o1 v1 b0:=by exact Zy) (p1:b0.put o1.dst v1=b1:=by exact Zv)
  (e2:ops[i+2]?=some o2:=by exact Zh) (f2:Region.free md ops ((listed.setIfInBounds i true).setIfInBounds (i+1) true) (i+2)=true:=by kernel_rfl) (r2:(Region.ready md ops ((listed.setIfInBounds i true).setIfInBounds (i+1) true)).contains (i+2)=true:=by kernel_rfl) (y2:YieldsIf P ops S o2 v2 b1:=by exact Zy) (p2:b1.put o2.dst v2=b2:=by exact Zv)
  (e3:ops[i+3]?=some o3:=by exact Zh) (f3:Region.free md ops (((listed.setIfInBounds i true).setIfInBounds (i+1) true).setIfInBounds (i+2) true) (i+3)=true:=by kernel_rfl) (r3:(Region.ready md ops (((listed.setIfInBounds i true).setIfInBounds (i+1) true).setIfInBounds (i+2) true)).contains (i+3)=true:=by kernel_rfl) (y3:YieldsIf P ops S o3 v3 b2:=by exact Zy) (p3:b2.put o3.dst v3=b3:=by exact Zv):wpAnyH P md ops (NoPanic Q) S (fuel+1+1+1+1) listed a w:=
 Zt i (Zt (i+1) (Zt (i+2) (Zt (i+3) (h) e3 hs f3 r3 y3 hS p3) e2 hs f2 r2 y2 hS p2) e1 hs f1 r1 y1 hS p1) e0 hs f0 r0 y0 hS p0
theorem ep (i:Nat) {o0 o1 o2 o3 o4 o5 o6 o7:Oper} {v0 v1 v2 v3 v4 v5 v6 v7:Value} {b0 b1 b2 b3 b4 b5 b6 b7:Act}
  (h:wpAnyH P md ops (NoPanic Q) S fuel ((((((((listed.setIfInBounds i true).setIfInBounds (i+1) true).setIfInBounds (i+2) true).setIfInBounds (i+3) true).setIfInBounds (i+4) true).setIfInBounds (i+5) true).setIfInBounds (i+6) true).setIfInBounds (i+7) true) b7 w) (hs:Region.noSelect ops=true:=by kernel_rfl) (hS:S w:=by assumption)
  (e0:ops[i]?=some o0:=by exact Zh) (f0:Region.free md ops listed i=true:=by kernel_rfl) (r0:(Region.ready md ops listed).contains i=true:=by kernel_rfl) (y0:YieldsIf P ops S o0 v0 a:=by exact Zy) (p0:a.put o0.dst v0=b0:=by exact Zv)
  (e1:ops[i+1]?=some o1:=by exact Zh) (f1:Region.free md ops (listed.setIfInBounds i true) (i+1)=true:=by kernel_rfl) (r1:(Region.ready md ops (listed.setIfInBounds i true)).contains (i+1)=true:=by kernel_rfl) (y1:YieldsIf P ops S o1 v1 b0:=by exact Zy) (p1:b0.put o1.dst v1=b1:=by exact Zv)
  (e2:ops[i+2]?=some o2:=by exact Zh) (f2:Region.free md ops ((listed.setIfInBounds i true).setIfInBounds (i+1) true) (i+2)=true:=by kernel_rfl) (r2:(Region.ready md ops ((listed.setIfInBounds i true).setIfInBounds (i+1) true)).contains (i+2)=true:=by kernel_rfl) (y2:YieldsIf P ops S o2 v2 b1:=by exact Zy) (p2:b1.put o2.dst v2=b2:=by exact Zv)
  (e3:ops[i+3]?=some o3:=by exact Zh) (f3:Region.free md ops (((listed.setIfInBounds i true).setIfInBounds (i+1) true).setIfInBounds (i+2) true) (i+3)=true:=by kernel_rfl) (r3:(Region.ready md ops (((listed.setIfInBounds i true).setIfInBounds (i+1) true).setIfInBounds (i+2) true)).contains (i+3)=true:=by kernel_rfl) (y3:YieldsIf P ops S o3 v3 b2:=by exact Zy) (p3:b2.put o3.dst v3=b3:=by exact Zv)
  (e4:ops[i+4]?=some o4:=by exact Zh) (f4:Region.free md ops ((((listed.setIfInBounds i true).setIfInBounds (i+1) true).setIfInBounds (i+2) true).setIfInBounds (i+3) true) (i+4)=true:=by kernel_rfl) (r4:(Region.ready md ops ((((listed.setIfInBounds i true).setIfInBounds (i+1) true).setIfInBounds (i+2) true).setIfInBounds (i+3) true)).contains (i+4)=true:=by kernel_rfl) (y4:YieldsIf P ops S o4 v4 b3:=by exact Zy) (p4:b3.put o4.dst v4=b4:=by exact Zv)
  (e5:ops[i+5]?=some o5:=by exact Zh) (f5:Region.free md ops (((((listed.setIfInBounds i true).setIfInBounds (i+1) true).setIfInBounds (i+2) true).setIfInBounds (i+3) true).setIfInBounds (i+4) true) (i+5)=true:=by kernel_rfl) (r5:(Region.ready md ops (((((listed.setIfInBounds i true).setIfInBounds (i+1) true).setIfInBounds (i+2) true).setIfInBounds (i+3) true).setIfInBounds (i+4) true)).contains (i+5)=true:=by kernel_rfl) (y5:YieldsIf P ops S o5 v5 b4:=by exact Zy) (p5:b4.put o5.dst v5=b5:=by exact Zv)
  (e6:ops[i+6]?=some o6:=by exact Zh) (f6:Region.free md ops ((((((listed.setIfInBounds i true).setIfInBounds (i+1) true).setIfInBounds (i+2) true).setIfInBounds (i+3) true).setIfInBounds (i+4) true).setIfInBounds (i+5) true) (i+6)=true:=by kernel_rfl) (r6:(Region.ready md ops ((((((listed.setIfInBounds i true).setIfInBounds (i+1) true).setIfInBounds (i+2) true).setIfInBounds (i+3) true).setIfInBounds (i+4) true).setIfInBounds (i+5) true)).contains (i+6)=true:=by kernel_rfl) (y6:YieldsIf P ops S o6 v6 b5:=by exact Zy) (p6:b5.put o6.dst v6=b6:=by exact Zv)
  (e7:ops[i+7]?=some o7:=by exact Zh) (f7:Region.free md ops (((((((listed.setIfInBounds i true).setIfInBounds (i+1) true).setIfInBounds (i+2) true).setIfInBounds (i+3) true).setIfInBounds (i+4) true).setIfInBounds (i+5) true).setIfInBounds (i+6) true) (i+7)=true:=by kernel_rfl) (r7:(Region.ready md ops (((((((listed.setIfInBounds i true).setIfInBounds (i+1) true).setIfInBounds (i+2) true).setIfInBounds (i+3) true).setIfInBounds (i+4) true).setIfInBounds (i+5) true).setIfInBounds (i+6) true)).contains (i+7)=true:=by kernel_rfl) (y7:YieldsIf P ops S o7 v7 b6:=by exact Zy) (p7:b6.put o7.dst v7=b7:=by exact Zv):wpAnyH P md ops (NoPanic Q) S (fuel+1+1+1+1+1+1+1+1) listed a w:=
 Zt i (Zt (i+1) (Zt (i+2) (Zt (i+3) (Zt (i+4) (Zt (i+5) (Zt (i+6) (Zt (i+7) (h) e7 hs f7 r7 y7 hS p7) e6 hs f6 r6 y6 hS p6) e5 hs f5 r5 y5 hS p5) e4 hs f4 r4 y4 hS p4) e3 hs f3 r3 y3 hS p3) e2 hs f2 r2 y2 hS p2) e1 hs f1 r1 y1 hS p1) e0 hs f0 r0 y0 hS p0
theorem Zw (i:Nat) {oi:Oper} {v:Value} (h:wpAnyH P md ops (NoPanic Q) S fuel (listed.setIfInBounds i true) a' w) (hi:ops[i]?=some oi:=by exact Zh)
  (hs:Region.noSelect ops=true:=by kernel_rfl) (hf:Region.free md ops listed i=true:=by kernel_rfl) (hr:(Region.ready md ops listed).contains i=true:=by kernel_rfl)
  (hy:YieldsIf P ops S oi v a)
  (hS:S w:=by assumption) (ha:a.put oi.dst v=a':=by exact Zv):wpAnyH P md ops (NoPanic Q) S (fuel+1) listed a w:=by
 subst ha;exact wpAnyH_take hi hs hf hr (fun _ _ _ h=>h) hy hS h
theorem Z1 (i:Nat) {o:Oper} (h:∀ K':Act→World→Prop,Shut (∀ a w,S w→(S w→wpAnyH P md ops Q S fuel (listed.setIfInBounds i true) a w)→K' a w)→if Region.wanted o (yielded ops a.tmps)=true then Oper.wp P o a w K' Q else K' (a.put o.dst undef) w)
  (hr:Region.ready md ops listed=[i]:=by kernel_rfl) (ho:ops[i]?=some o:=by exact Zh):wpAnyH P md ops Q S (fuel+1) listed a w:=
 wpAnyH_ready hr (by simp) (AllReadyH.cons ho h AllReadyH.nil)
theorem Z2 (k0 k1:Nat) {o0 o1:Oper} 
  (h0:∀ K':Act→World→Prop,Shut (∀ a w,S w→(S w→wpAnyH P md ops Q S fuel (listed.setIfInBounds k0 true) a w)→K' a w)→if Region.wanted o0 (yielded ops a.tmps)=true then Oper.wp P o0 a w K' Q else K' (a.put o0.dst undef) w)
  (h1:∀ K':Act→World→Prop,Shut (∀ a w,S w→(S w→wpAnyH P md ops Q S fuel (listed.setIfInBounds k1 true) a w)→K' a w)→if Region.wanted o1 (yielded ops a.tmps)=true then Oper.wp P o1 a w K' Q else K' (a.put o1.dst undef) w)
  (hr:Region.ready md ops listed=[k0,k1]:=by kernel_rfl) (e0:ops[k0]?=some o0:=by exact Zh) (e1:ops[k1]?=some o1:=by exact Zh):wpAnyH P md ops Q S (fuel+1) listed a w:=
 wpAnyH_ready hr (by simp) (AllReadyH.cons e0 h0 (AllReadyH.cons e1 h1 AllReadyH.nil))
theorem Zk {K:Act→World→Prop} (hK:Shut (∀ a w,S w→(S w→wpAnyH P md ops Q S fuel listed a w)→K a w)) (h:S w→wpAnyH P md ops Q S fuel listed a' w)
  (hS:S w:=by ((try dsimp only);go_split_ands;(try dsimp only);(repeat' apply And.intro);all_goals (repeat (first|with_reducible assumption|(with_reducible refine (aR ?_).trans ?_;omega)|(with_reducible refine (im ?_).trans ?_;omega)|(with_reducible refine aE _ ?_)|(with_reducible refine ce ?_)|(with_reducible refine dh _ ?_)|(with_reducible refine aA hb1 ?_)|(with_reducible refine aA hb2 ?_)|(with_reducible refine aA hb3 ?_)|(with_reducible refine aA hb4 ?_)|(with_reducible refine aA hb5 ?_)|(with_reducible refine aA hb6 ?_)|(with_reducible refine aA hb7 ?_)|(with_reducible refine aA hb9 ?_))))) (ha:a=a':=by exact Zv):K a w:=by
 subst ha;exact hK.out _ _ hS h
theorem Zd (h:Q .normal a w) (hr:Region.ready md ops listed=[]:=by kernel_rfl):wpAnyH P md ops (NoPanic Q) S fuel listed a w:=wpAnyH_done hr (NoPanic.normal h) _
theorem Zr (S:World→Prop) {id:Nat} (h:S w.drew→wpAnyH P .any ops (NoPanic Q) S ops.size (Array.replicate ops.size false) a w.drew) (hS:S w.drew:=by ((try dsimp only);go_split_ands;(try dsimp only);(repeat' apply And.intro);all_goals (repeat (first|with_reducible assumption|(with_reducible refine (aR ?_).trans ?_;omega)|(with_reducible refine (im ?_).trans ?_;omega)|(with_reducible refine aE _ ?_)|(with_reducible refine ce ?_)|(with_reducible refine dh _ ?_)|(with_reducible refine aA hb1 ?_)|(with_reducible refine aA hb2 ?_)|(with_reducible refine aA hb3 ?_)|(with_reducible refine aA hb4 ?_)|(with_reducible refine aA hb5 ?_)|(with_reducible refine aA hb6 ?_)|(with_reducible refine aA hb7 ?_)|(with_reducible refine aA hb9 ?_))))) (hm:P.follows .mixedOrders=true:=by kernel_rfl) :
  (Code.region id ops true).wp P Q a w:=wp_region_noPanic (wp_region_held_drew (S:=S) hm hS h)
end
theorem Zp {p:Prop} (h:p:=by ((try dsimp only);go_split_ands;(try dsimp only);(repeat' apply And.intro);all_goals (repeat (first|with_reducible assumption|(with_reducible refine (aR ?_).trans ?_;omega)|(with_reducible refine (im ?_).trans ?_;omega)|(with_reducible refine aE _ ?_)|(with_reducible refine ce ?_)|(with_reducible refine dh _ ?_)|(with_reducible refine aA hb1 ?_)|(with_reducible refine aA hb2 ?_)|(with_reducible refine aA hb3 ?_)|(with_reducible refine aA hb4 ?_)|(with_reducible refine aA hb5 ?_)|(with_reducible refine aA hb6 ?_)|(with_reducible refine aA hb7 ?_)|(with_reducible refine aA hb9 ?_))))):p:=h
theorem Zb {B:Nat} {w w':World} (h:Below B w w':=by repeat (first|(with_reducible exact Hv _ _)|(with_reducible assumption)|(with_reducible refine Hx ?_)|(with_reducible refine aJ ?_)|(with_reducible refine I1 ?_ (by first|omega|(simp;done)|(simp;omega)) _)|(with_reducible refine Hy ?_ (by first|omega|(simp;done)|(simp;omega)) _)|(with_reducible refine I0 ?_ (Below.mono (by assumption) (by first|omega|(simp;done)|(simp;omega)))))):Below B w w':=h
theorem Zs {p:Prop} (h:p:=by first|omega|(simp;done)|(simp;omega)):p:=h
theorem Zx {p:Prop} (h:False:=by first|omega|(simp at *;omega)|(simp at *;done)):p:=h.elim
theorem Zf {p:Prop} (h:p:=by first|(go_ret;exact ⟨rfl,Zb⟩)|(exfalso;first|omega|(simp at *;omega)|(simp at *;done))):p:=h
def E4 (num den flows weight total:Int):Int:=(num*(flows+1)*weight+den*total - 1) / (den*total)
def EC (num den flows weight total:Int):Prop:=1≤den∧den≤num∧num≤20∧0≤flows∧flows≤40∧1≤weight∧weight≤total∧total≤96
theorem Cz (num den flows weight total:Int) (w:World) (h:EC num den flows weight total) :
  Calls Tryz.prog 80 #[.int .i64 num,.int .i64 den,.int .i64 flows,.int .i64 weight,.int .i64 total] w fun e w'=>e=.returned (.tuple #[.int .i64 (E4 num den flows weight total),.int .i64 0])∧w=w':=by
 obtain ⟨h1,h2,h3,h4,h5,h6,h7,h8⟩:=h
 obtain ⟨a1,a2⟩:=j3 (a:=num) (d:=flows+1) (A:=20) (D:=41) (by omega) (by omega) (by omega) (by omega)
 obtain ⟨b1,b2⟩:=j3 (a:=num*(flows+1)) (d:=weight) (A:=820) (D:=96) (by omega) (by omega) (by omega) (by omega)
 obtain ⟨c1,c2⟩:=j3 (a:=den) (d:=total) (A:=20) (D:=96) (by omega) (by omega) (by omega) (by omega)
 have hU:1≤num*(flows+1)*weight:=Int.mul_pos (Int.mul_pos (by omega) (by omega)) (by omega)
 have hD:1≤den*total:=Int.mul_pos (by omega) (by omega)
 go_enter Tryz.func80,Tryz.ntmps80
 go_wp2
 all_goals first|(go_ret2;exact ⟨rII rfl rfl,rfl⟩)|exact Zx
def i8 (a b c:Int):Prop:=0≤a∧a≤20∧1≤b∧b≤20∧0≤c∧c≤20
theorem j8 (a b c:Int) (w:World) (h:i8 a b c):Calls Tryz.prog 38 #[.agg #[.int .i64 a,.int .i64 b,.int .i64 c]] w fun e w'=>e=.returned (.int .i64 0)∧Below w.heap.size w w':=by
 obtain ⟨h1,h2,h3,h4,h5,h6⟩:=h;go_enter Tryz.func38,Tryz.ntmps38;go_wp2
 all_goals exact Zf
theorem tE (a b c:Int) (w:World) (h:i8 a b c):Calls Tryz.prog 27 #[.agg #[.int .i64 a,.int .i64 b,.int .i64 c]] w fun e w'=>e=.returned (.tuple #[.agg #[.int .i64 (c*b)],.int .i64 0])∧Below w.heap.size w w':=by
 have h':=h;obtain ⟨h1,h2,h3,h4,h5,h6⟩:=h;obtain ⟨c1,c2⟩:=j3 (a:=c) (d:=b) (A:=20) (D:=20) (by omega) (by omega) (by omega) (by omega);go_enter Tryz.func27,Tryz.ntmps27;go_wp2_with (first|(go_at_call 38;refine (j8 _ _ _ _ h').mono ?_;rintro e w1 ⟨rfl,hb1⟩;obtain ⟨hc1,hf1⟩:=aV hb1;have hz1:=fQ hb1;have hy1:=hb1.size;(try simp at hy1))|go_in);refine Ix (v:=.tuple #[.agg #[.int .i64 (c*b)],.int .i64 0]) ?_ rfl ?_;(focus (first|(simp [results,Tryz.results27,go_sem];done)|(simp [results,Tryz.results27,go_sem, *];done)));exact ⟨rfl,Zb⟩
def i7 (a b c:Int):Prop:=1≤a∧a≤16∧1≤b∧b≤a∧1≤c∧c≤500
theorem ya {a b c:Int} (h:¬ i7 a b c):a<1∨(1≤a∧16<a)∨(1≤a∧a≤16∧b<1)∨(1≤a∧a≤16∧1≤b∧a<b)∨(1≤a∧a≤16∧1≤b∧b≤a∧c<1)∨(1≤a∧a≤16∧1≤b∧b≤a∧1≤c∧500<c):=by
 unfold i7 at h;omega
theorem iH (a b c:Int) (w:World) (h:i7 a b c):Calls Tryz.prog 39 #[.agg #[.int .i64 a,.int .i64 b,.int .i64 c]] w fun e w'=>e=.returned (.int .i64 0)∧Below w.heap.size w w':=by
 obtain ⟨h1,h2,h3,h4,h5,h6⟩:=h;go_enter Tryz.func39,Tryz.ntmps39;go_wp2
 all_goals exact Zf
theorem oL (a b c:Int) (w:World) (h:¬ i7 a b c):Calls Tryz.prog 39 #[.agg #[.int .i64 a,.int .i64 b,.int .i64 c]] w fun e w'=>e=.returned (.int .i64 2)∧Below w.heap.size w w':=by
 rcases ya h with h1|⟨h1,h2⟩|⟨h1,h2,h3⟩|⟨h1,h2,h3,h4⟩|⟨h1,h2,h3,h4,h5⟩|⟨h1,h2,h3,h4,h5,h6⟩
 all_goals
  clear h
  go_enter Tryz.func39,Tryz.ntmps39
  go_wp2
  all_goals exact Zf
end
section
open Go.ChangeShapes Go.WideShapes Go.ChangeAt Go.RowKit
def cI (M:List Bool):List (List Value):=M.map fun b=>[Value.bool b]
section
variable {H:Type} {enc:TypeId×Value→H} {W:World} {base:Nat} {v:Value} {d:DataW H} {p:List MemPlace}
end
def rK (a:Int) (n:Nat) (out:Bool) (u t:Int):Prop:=(n:Int)≤a∧0≤t∧t≤10∧0≤u∧u≤1099511628276∧(out=false→u=0)
theorem CW {a:Int} {n:Nat} {out:Bool} {u t:Int} (h:¬ rK a n out u t):a<(n:Int)∨((n:Int)≤a∧t<0)∨((n:Int)≤a∧0≤t∧10<t)∨((n:Int)≤a∧0≤t∧t≤10∧u<0)∨((n:Int)≤a∧0≤t∧t≤10∧0≤u∧1099511628276<u)∨((n:Int)≤a∧0≤t∧t≤10∧0<u∧u≤1099511628276∧out=false):=by
 unfold rK at h
 cases out with
 | true=>simp at h ⊢;omega
 | false=>simp at h ⊢;omega
def ge (a b c:Int) (n:Nat) (out:Bool) (u t now:Int) (code:Int):Prop:=(¬ i7 a b c∧code=2)∨(i7 a b c∧(now<0∨(0≤now∧1099511627776<now))∧code=2)∨(i7 a b c∧0≤now∧now≤1099511627776∧¬ rK a n out u t∧code=6)∨(i7 a b c∧0≤now∧now≤1099511627776∧rK a n out u t∧code=0)
theorem iF (a b c:Int) (m:Option Addr) (n cap:Nat) (out:Bool) (u t now code:Int) (w:World) (h:ge a b c n out u t now code):Calls Tryz.prog 89 #[.agg #[.int .i64 a,.int .i64 b,.int .i64 c],.agg #[.slice m n cap,.bool out,.int .i64 u,.int .i64 t],.int .i64 now] w fun e w'=>e=.returned (.int .i64 code)∧Below w.heap.size w w':=by
 rcases h with ⟨h,rfl⟩|⟨h,h2,rfl⟩|⟨h,h2,h3,h4,rfl⟩|⟨h,h2,h3,h4,rfl⟩
 ·have H:=Hu h;clear h;go_enter Tryz.func89,Tryz.ntmps89;go_wp2_with (go_at_call 39;refine (oL _ _ _ _ H.out).mono ?_;rintro e w1 ⟨rfl,hb1⟩;obtain ⟨hc1,hf1⟩:=aV hb1;have hz1:=fQ hb1;have hy1:=hb1.size;(try simp at hy1))
  all_goals exact Zf
 ·have H:=Hu h;clear h;rcases h2 with h2|⟨h2,h3⟩
  all_goals
   go_enter Tryz.func89,Tryz.ntmps89
   go_wp2_with (first|(go_at_call 39;refine (iH _ _ _ _ H.out).mono ?_;rintro e w1 ⟨rfl,hb1⟩;obtain ⟨hc1,hf1⟩:=aV hb1;have hz1:=fQ hb1;have hy1:=hb1.size;(try simp at hy1)))
   all_goals exact Zf
 ·have H:=Hu h;clear h;rcases CW h4 with k1|⟨k1,k2⟩|⟨k1,k2,k3⟩|⟨k1,k2,k3,k4⟩|⟨k1,k2,k3,k4,k5⟩|⟨k1,k2,k3,k4,k5,rfl⟩
  ·clear h4;exact Q19
  ·clear h4;exact Q19
  ·clear h4;exact Q19
  ·clear h4;exact Q19
  ·clear h4;exact Q19
  ·clear h4
   have e1:(u == 0)=false:=by simp;omega
   have e2:(u != 0)=true:=by simp;omega
   have e3:0≤u:=by omega
   exact Q19
 ·have H:=Hu h;obtain ⟨k1,k2,k3,k4,k5,k6⟩:=h4;clear h
  cases out with
  | true=>
   clear k6;exact Q19
  | false=>
   obtain rfl:u=0:=k6 rfl;clear k6;exact Q19
end
section
open Go.RowKit
def ex (x:Lf):Prop:=0≤x.backend∧x.backend≤11∧1≤x.weight∧x.weight≤8∧0≤x.since∧x.since≤1099511627776∧0≤x.until_∧x.until_≤1099511628276∧0≤x.request∧x.request≤1048576∧
 ((x.state=1∧x.since=0∧x.until_=0∧x.request=0)∨(x.state=2∧x.until_=0∧x.request=0)∨x.state=3∨x.state=4)
def fJ (x:Rq):Prop:=0≤x.id∧x.id≤1048576∧(x.kind=1∨x.kind=2)
theorem uX (b s wt si un rq:Int) (r:Bool) (w:World) (hr:(ex ⟨b,s,wt,si,un,rq⟩∧r=true)∨(¬ ex ⟨b,s,wt,si,un,rq⟩∧r=false)) :
  Calls Tryz.prog 83 #[.agg #[.int .i64 b,.int .i64 s,.int .i64 wt,.int .i64 si,.int .i64 un,.int .i64 rq]] w fun e w'=>e=.returned (.bool r)∧Below w.heap.size w w':=by
 rcases (show ((b<0))∨((0≤b)∧(12≤b))∨((0≤b)∧(b<12)∧(wt<1))∨((0≤b)∧(b<12)∧(1≤wt)∧(8<wt))∨((0≤b)∧(b<12)∧(1≤wt)∧(wt≤8)∧(si<0))∨((0≤b)∧(b<12)∧(1≤wt)∧(wt≤8)∧(0≤si)∧(1099511627776<si))∨((0≤b)∧(b<12)∧(1≤wt)∧(wt≤8)∧(0≤si)∧(si≤1099511627776)∧(un<0))∨((0≤b)∧(b<12)∧(1≤wt)∧(wt≤8)∧(0≤si)∧(si≤1099511627776)∧(0≤un)∧(1099511628276<un))∨((0≤b)∧(b<12)∧(1≤wt)∧(wt≤8)∧(0≤si)∧(si≤1099511627776)∧(0≤un)∧(un≤1099511628276)∧(rq<0))∨((0≤b)∧(b<12)∧(1≤wt)∧(wt≤8)∧(0≤si)∧(si≤1099511627776)∧(0≤un)∧(un≤1099511628276)∧(0≤rq)∧(1048576<rq))∨((0≤b)∧(b<12)∧(1≤wt)∧(wt≤8)∧(0≤si)∧(si≤1099511627776)∧(0≤un)∧(un≤1099511628276)∧(0≤rq)∧(rq≤1048576)) by (rcases (show (b<0)∨(0≤b) by omega) with hx0|hx0;exact Or.inl hx0;(rcases (show (12≤b)∨(b<12) by omega) with hx1|hx1;exact Or.inr (Or.inl ⟨hx0,hx1⟩);(rcases (show (wt<1)∨(1≤wt) by omega) with hx2|hx2;exact Or.inr (Or.inr (Or.inl ⟨hx0,hx1,hx2⟩));(rcases (show (8<wt)∨(wt≤8) by omega) with hx3|hx3;exact Or.inr (Or.inr (Or.inr (Or.inl ⟨hx0,hx1,hx2,hx3⟩)));(rcases (show (si<0)∨(0≤si) by omega) with hx4|hx4;exact Or.inr (Or.inr (Or.inr (Or.inr (Or.inl ⟨hx0,hx1,hx2,hx3,hx4⟩))));(rcases (show (1099511627776<si)∨(si≤1099511627776) by omega) with hx5|hx5;exact Or.inr (Or.inr (Or.inr (Or.inr (Or.inr (Or.inl ⟨hx0,hx1,hx2,hx3,hx4,hx5⟩)))));(rcases (show (un<0)∨(0≤un) by omega) with hx6|hx6;exact Or.inr (Or.inr (Or.inr (Or.inr (Or.inr (Or.inr (Or.inl ⟨hx0,hx1,hx2,hx3,hx4,hx5,hx6⟩))))));(rcases (show (1099511628276<un)∨(un≤1099511628276) by omega) with hx7|hx7;exact Or.inr (Or.inr (Or.inr (Or.inr (Or.inr (Or.inr (Or.inr (Or.inl ⟨hx0,hx1,hx2,hx3,hx4,hx5,hx6,hx7⟩)))))));(rcases (show (rq<0)∨(0≤rq) by omega) with hx8|hx8;exact Or.inr (Or.inr (Or.inr (Or.inr (Or.inr (Or.inr (Or.inr (Or.inr (Or.inl ⟨hx0,hx1,hx2,hx3,hx4,hx5,hx6,hx7,hx8⟩))))))));(rcases (show (1048576<rq)∨(rq≤1048576) by omega) with hx9|hx9;exact Or.inr (Or.inr (Or.inr (Or.inr (Or.inr (Or.inr (Or.inr (Or.inr (Or.inr (Or.inl ⟨hx0,hx1,hx2,hx3,hx4,hx5,hx6,hx7,hx8,hx9⟩)))))))));exact Or.inr (Or.inr (Or.inr (Or.inr (Or.inr (Or.inr (Or.inr (Or.inr (Or.inr (Or.inr (⟨hx0,hx1,hx2,hx3,hx4,hx5,hx6,hx7,hx8,hx9⟩))))))))))))))))))))) with hs0|⟨hs0,hs1⟩|⟨hs0,hs1,hs2⟩|⟨hs0,hs1,hs2,hs3⟩|⟨hs0,hs1,hs2,hs3,hs4⟩|⟨hs0,hs1,hs2,hs3,hs4,hs5⟩|⟨hs0,hs1,hs2,hs3,hs4,hs5,hs6⟩|⟨hs0,hs1,hs2,hs3,hs4,hs5,hs6,hs7⟩|⟨hs0,hs1,hs2,hs3,hs4,hs5,hs6,hs7,hs8⟩|⟨hs0,hs1,hs2,hs3,hs4,hs5,hs6,hs7,hs8,hs9⟩|⟨hs0,hs1,hs2,hs3,hs4,hs5,hs6,hs7,hs8,hs9⟩
 rotate_right
 ·rcases (show s=1∨s=2∨s=3∨s=4∨(s≠1∧s≠2∧s≠3∧s≠4) by omega) with rfl|rfl|rfl|rfl|⟨h1,h2,h3,h4⟩
  ·by_cases h1:si=0
   ·subst h1
    ·exact Q31
   ·obtain rfl:r=false:=by rcases hr with ⟨h,_⟩|⟨_,h⟩;(simp only [ex] at h;omega);exact h
    have e1:(si == 0)=false:=by simpa using h1
    exact Q125
  ·exact Q31
  ·exact Q37
  ·exact Q37
  ·obtain rfl:r=false:=by rcases hr with ⟨h,_⟩|⟨_,h⟩;(simp only [ex] at h;omega);exact h
   have e1:(s == 1)=false:=by simpa using h1
   have e2:(s == 2)=false:=by simpa using h2
   have e3:(s == 3)=false:=by simpa using h3
   have e4:(s == 4)=false:=by simpa using h4
   clear hr h1 h2 h3 h4;go_enter Tryz.func83,Tryz.ntmps83;go_wp2
   all_goals exact Zf
 all_goals
  obtain rfl:r=false:=by rcases hr with ⟨h,_⟩|⟨_,h⟩;(simp only [ex] at h;omega);exact h
  clear hr
  go_enter Tryz.func83,Tryz.ntmps83
  go_wp2
  all_goals exact Zf
theorem eM (id kd b wt an:Int) (r:Bool) (w:World) (hr:(fJ ⟨id,kd,b,wt,an⟩∧r=true)∨(¬ fJ ⟨id,kd,b,wt,an⟩∧r=false)) :
  Calls Tryz.prog 84 #[.agg #[.int .i64 id,.int .i64 kd,.int .i64 b,.int .i64 wt,.int .i64 an]] w fun e w'=>e=.returned (.bool r)∧Below w.heap.size w w':=by
 rcases (show id<0∨(0≤id∧1048576<id)∨(0≤id∧id≤1048576∧kd=1)∨(0≤id∧id≤1048576∧kd=2)∨(0≤id∧id≤1048576∧kd≠1∧kd≠2) by omega) with h0|⟨h0,h1⟩|⟨h0,h1,rfl⟩|⟨h0,h1,rfl⟩|⟨h0,h1,h2,h3⟩
 ·obtain rfl:r=false:=by rcases hr with ⟨h,_⟩|⟨_,h⟩;(simp only [fJ] at h;omega);exact h
  clear hr
  have e0:decide (0≤id)=false:=by simp;omega
  go_enter Tryz.func84,Tryz.ntmps84;go_wp2
  all_goals exact Zf
 ·obtain rfl:r=false:=by rcases hr with ⟨h,_⟩|⟨_,h⟩;(simp only [fJ] at h;omega);exact h
  clear hr
  have e0:decide (id≤1048576)=false:=by simp;omega
  go_enter Tryz.func84,Tryz.ntmps84;go_wp2
  all_goals exact Zf
 ·exact Q84
 ·exact Q84
 ·obtain rfl:r=false:=by rcases hr with ⟨h,_⟩|⟨_,h⟩;(simp only [fJ] at h;omega);exact h
  have e2:(kd == 1)=false:=by simpa using h2
  have e3:(kd == 2)=false:=by simpa using h3
  clear hr h2 h3;go_enter Tryz.func84,Tryz.ntmps84;go_wp2
  all_goals exact Zf
def mB (L:List Lf) (i:Nat):Int:=if i=0 then -1 else (L.getD (i - 1) Lf.zero).backend
def GP (L:List Lf) (i:Nat):Prop:=ex (L.getD i Lf.zero)∧mB L i<(L.getD i Lf.zero).backend
def gP (R:List Rq):List Int:=R.map Rq.id
def bF (L:List Lf) (R:List Rq):Prop:=L.length≤12∧R.length≤100∧(∀ i,i<L.length→GP L i)∧(∀ x∈R,fJ x)∧(gP R).Nodup
def yQ (L:List Lf) (R:List Rq) (r:Int):Prop:=(bF L R∧r=0)∨(¬ bF L R∧r=6)
def LfIs (x:Lf) (r:Bool):Prop:=(ex x∧r=true)∨(¬ ex x∧r=false)
def RqIs (x:Rq) (r:Bool):Prop:=(fJ x∧r=true)∨(¬ fJ x∧r=false)
theorem BU (x:Lf):∃ r,LfIs x r:=by
 by_cases h:ex x
 ·exact ⟨_,Or.inl ⟨h,rfl⟩⟩
 ·exact ⟨_,Or.inr ⟨h,rfl⟩⟩
theorem BP (x:Rq):∃ r,RqIs x r:=by
 by_cases h:fJ x
 ·exact ⟨_,Or.inl ⟨h,rfl⟩⟩
 ·exact ⟨_,Or.inr ⟨h,rfl⟩⟩
theorem DA {R:List Rq} {k:Nat} {o:Rq} (hk:k<R.length) (ho:o=R.getD k Rq.zero):gP (R.take (k+1))=gP (R.take k)++[o.id]:=by
 have e:R.take (k+1)=R.take k++[o]:=by rw [Ia hk,ho];simp [List.getD,hk]
 rw [gP,gP,e,Ir]
 rfl
theorem Fk {R:List Rq} {k:Nat} {o:Rq} (hk:k<R.length) (ho:o=R.getD k Rq.zero) (hall:∀ x∈R.take k,fJ x) (hm:fJ o):∀ x∈R.take (k+1),fJ x:=by
 rw [Ia hk];intro x hx;rcases List.mem_append.1 hx with h|h
 ·exact hall x h
 ·simp at h;rw [h];rw [ho] at hm;simpa [List.getD,hk] using hm
def CkRel (w wr:World) (L:List Lf) (vr:Value) (k:Nat):Prop:=k≤L.length∧Below w.heap.size w wr∧w.heap.size<wr.heap.size∧wr.cell? ⟨w.heap.size,1,none⟩=some vr∧∀ j,j<k→GP L j
def CsRel (w wr:World) (R:List Rq) (vr:Value) (m k:Nat):Prop:=k≤R.length∧Below w.heap.size w wr∧w.heap.size<m∧m<wr.heap.size∧wr.cell? ⟨w.heap.size,1,none⟩=some vr∧oS wr m (gP (R.take k))∧∀ x∈R.take k,fJ x
theorem kh (vl vr:Value) (L:List Lf) (R:List Rq) (r:Int) (w:World) (hl:aI w 6 vl (L.map Lf.cells)) (hr:aI w 5 vr (R.map Rq.cells)) (h:yQ L R r) :
  Calls Tryz.prog 42 #[.agg #[vl,vr]] w fun e w'=>e=.returned (.int .i64 r)∧Below w.heap.size w w':=by
 have HC:=Hu h
 have hbad:¬ bF L R→r=6:=fun hn=>by rcases h with ⟨h,_⟩|⟨_,h⟩;exact absurd h hn;exact h
 have HBad:=Hu hbad
 obtain ⟨a,c,rfl,l,m,n,p⟩:=aK Lf.zero hl
 obtain ⟨a',c',rfl,l',m',n',p'⟩:=aK Rq.zero hr
 have P:=Hu p
 have P':=Hu p'
 clear hl hr p p' l m n l' m' n' h hbad
 by_cases h12:L.length≤12
 rotate_left
 ·have g1:(12:Int)<(L.length:Int):=by omega
  obtain rfl:r=6:=HBad.out fun h=>h12 h.1;clear HBad HC h12;go_enter Tryz.func42,Tryz.ntmps42;go_wp2
  all_goals exact Zf
 have g1:(L.length:Int)≤12:=by omega
 by_cases h100:R.length≤100
 rotate_left
 ·have g2:(100:Int)<(R.length:Int):=by omega
  obtain rfl:r=6:=HBad.out fun h=>h100 h.2.1;clear HBad HC h100;go_enter Tryz.func42,Tryz.ntmps42;go_wp2
  all_goals exact Zf
 have g2:(R.length:Int)≤100:=by omega
 have hmm:=@run_makeMap Tryz.prog
 go_enter Tryz.func42,Tryz.ntmps42
 go_wp2
 go_loopw [3,22] (fun la i wr=>∃ k:Nat,i=.int .i64 k∧la=.int .i64 (mB L k)∧CkRel w wr L (.slice a' R.length c') k) (fun _ i _=>L.length - (intOf i).toNat)
 case atStart=>exact ⟨0,rfl,rfl,I4 _,(Hv _ _).alloc (I3 _) _,by simp,by go_simp,fun j hj=>by omega⟩
 case round=>
  obtain ⟨k,rfl,rfl,hk,hb,hsz,c1,hall⟩:=hrel;have HA:=Hu hall;have HB:=Hu hb;clear hall;rcases (show k<L.length∨L.length=k by omega) with hlt|heq
  ·have hlt':(k:Int)<(L.length:Int):=by omega
   obtain ⟨b0,o0,rfl,hb0,q⟩:=P.out (by intro h;rw [h] at hlt;simp at hlt);obtain ⟨s,hs⟩:∃ s,s=L.getD k Lf.zero:=⟨_,rfl⟩
   have hold:∀ j,j<6→wr.cell? ⟨b0,o0+k*6+j,none⟩=s.cells[j]?:=fun j hj=>by
    rw [hb.cell (p:=⟨b0,o0+k*6+j,none⟩) hb0,hs];exact q k j hlt hj
   have a0:=hold 0 (by omega);have a1:=hold 1 (by omega);have a2:=hold 2 (by omega);have a3:=hold 3 (by omega);have a4:=hold 4 (by omega);have a5:=hold 5 (by omega)
   have hat:GP L k↔(ex s∧mB L k<s.backend):=by rw [hs];exact Iff.rfl
   have hnx:mB L (k+1)=s.backend:=by simp only [mB,Nat.add_sub_cancel,if_neg (by omega:¬ k+1=0)];rw [hs]
   obtain ⟨la,hla⟩:∃ la,la=mB L k:=⟨_,rfl⟩;rw [← hla] at hat;have HX:=Hu (And.intro hat hnx);have HLA:=Hu hla;rw [← hla];clear hold hs q hat hnx hla hb;obtain ⟨t,ht⟩:=BU s;have HT:=Hu ht;obtain ⟨bk,st,wt,si,un,rq⟩:=s;simp only [Lf.cells,I5,I6,Nat.add_zero] at a0 a1 a2 a3 a4 a5;have lb:b0<wr.heap.size:=bR a0
   cases t with
   | false=>
    have hrf:Hid (r=6):=HBad.out fun h=>by
     rcases ht with ⟨_,h'⟩|⟨h',_⟩
     ·cases h'
     ·exact h' (HX.out.1.1 (h.2.2.1 k hlt)).1
    exact Q42
   | true=>
    rcases (show bk≤la∨la<bk by omega) with hle|hle
    ·have hrf:Hid (r=6):=HBad.out fun h=>by
      have:=(HX.out.1.1 (h.2.2.1 k hlt)).2;simp only at this;omega
     exact Q42
    ·have HN:Hid (∀ j,j<k+1→GP L j):=fun j hj=>by
      rcases (show j<k∨j=k by omega) with h|rfl
      ·exact HA.out j h
      ·refine HX.out.1.2 ⟨?_,hle⟩;rcases ht with ⟨h',_⟩|⟨_,h'⟩
       ·exact h'
       ·cases h'
     clear ht;go_wp2_with (go_at_call 83;refine (uX _ _ _ _ _ _ _ _ HT.out).mono ?_;rintro e w1 ⟨rfl,hb1⟩;obtain ⟨hc1,hf1⟩:=aV hb1;have hz1:=fQ hb1;have hy1:=hb1.size;(try simp at hy1));go_roundw
     case rel=>exact ⟨k+1,by go_num,by rw [HX.out.2],by omega,(by refine I0 ?_ (Below.mono hb1 Zs);repeat (first|(with_reducible exact HB.out)|(with_reducible refine Hx ?_)|(with_reducible refine aJ ?_)|(with_reducible refine I1 ?_ Zs _)|(with_reducible refine Hy ?_ Zs _))),by omega,(hc1 _ _ (by simp;omega)).trans (aE _ c1),HN.out⟩
     case measure=>simp [intOf];omega
  ·have hge:¬ (k:Int)<(L.length:Int):=by omega
   clear hb;go_wp2_with fail;obtain ⟨M,hM⟩:∃ M,M=wr.heap.size:=⟨_,rfl⟩;have hM1:w.heap.size<M:=by omega
   rw [← hM];have HEM:=Hu hM;clear hM;go_loopw [42] (fun i wr=>∃ j:Nat,i=.int .i64 j∧CsRel w wr R (.slice a' R.length c') M j) (fun i _=>R.length - (intOf i).toNat)
   case atStart=>exact ⟨0,rfl,I4 _,HB.out.alloc HB.out.size _,hM1,by rw [HEM.out];simp,aE _ c1,by rw [HEM.out];simpa [gP] using sQ wr,fun x hx=>by simp at hx⟩
   case round=>
    obtain ⟨j,rfl,hj,hbx,hm1,hm2,c1x,hseen,hall2⟩:=hrel;have HB2:=Hu hbx;have HA2:=Hu hall2;clear hall2;rcases (show j<R.length∨R.length=j by omega) with hlt|heq2
    ·have hlt':(j:Int)<(R.length:Int):=by omega
     obtain ⟨b0,o0,rfl,hb0,q⟩:=P'.out (by intro h;rw [h] at hlt;simp at hlt);obtain ⟨s,hs⟩:∃ s,s=R.getD j Rq.zero:=⟨_,rfl⟩
     have hold:∀ i,i<5→wr.cell? ⟨b0,o0+j*5+i,none⟩=s.cells[i]?:=fun i hi=>by
      rw [hbx.cell (p:=⟨b0,o0+j*5+i,none⟩) hb0,hs];exact q j i hlt hi
     have a0:=hold 0 (by omega);have a1:=hold 1 (by omega);have a2:=hold 2 (by omega);have a3:=hold 3 (by omega);have a4:=hold 4 (by omega);have HID:=Hu (DA hlt hs);have HS:=Hu hs
     have hmem:s∈R:=by rw [hs];simp only [List.getD,Ib hlt,Iu];exact If _
     have HM:=Hu hmem;have HSn:=Hu hseen;clear hold hs q hbx hmem hseen;obtain ⟨t,ht⟩:=BP s;have HT:=Hu ht;obtain ⟨id,kd,bk,wt,an⟩:=s;simp only [Rq.cells,I5,I6,Nat.add_zero] at a0 a1 a2 a3 a4;have lb:b0<wr.heap.size:=bR a0;have lw:w.heap.size<wr.heap.size:=by omega
     cases t with
     | false=>
      have hrf:Hid (r=6):=HBad.out fun h=>by
       rcases ht with ⟨_,h'⟩|⟨h',_⟩
       ·cases h'
       ·exact h' (h.2.2.2.1 _ HM.out)
      clear ht HBad HC;go_wp2_with (go_at_call 84;refine (eM _ _ _ _ _ _ _ HT.out).mono ?_;rintro e w1 ⟨rfl,hb1⟩;obtain ⟨hc1,hf1⟩:=aV hb1;have hz1:=fQ hb1;have hy1:=hb1.size;(try simp at hy1))
      all_goals first|(go_ret;exact ⟨rI hrf.out.symm,(by refine I0 ?_ (Below.mono hb1 Zs);repeat (first|(with_reducible exact HB2.out)|(with_reducible refine Hx ?_)|(with_reducible refine aJ ?_)|(with_reducible refine I1 ?_ Zs _)|(with_reducible refine Hy ?_ Zs _)))⟩)|exact Zx
     | true=>
      have hmay:fJ ⟨id,kd,bk,wt,an⟩:=by
       rcases ht with ⟨h',_⟩|⟨_,h'⟩
       ·exact h'
       ·cases h'
      have HN:=Hu (Fk hlt HS.out HA2.out hmay);have hkey:keyOf Tryz.prog 3 (.int .i64 id)=some (kI id):=Go.Maps.keyOf_int_mk Tryz.underlying3 (by obtain ⟨h1,h2,_⟩:=hmay;simp only at h1 h2;simp [Lit.wf,IntKind.min,IntKind.max,IntKind.signed,IntKind.bits];omega);have HK:=Hu hkey;obtain ⟨es,hown,h3,h4,h5,h6⟩:=HSn.out;have HO:=Hu hown;have HE:=Hu (And.intro h3 (And.intro h4 (And.intro h5 h6)))
      have hlen:(gP (R.take j)).length<maxLen:=by unfold maxLen;simp [gP];omega
      have HL:=Hu hlen;clear ht hmay hkey hown h3 h4 h5 h6 hlen;go_wp2_with (first|(go_at_call 84;refine (eM _ _ _ _ _ _ _ HT.out).mono ?_;rintro e w1 ⟨rfl,hb1⟩;obtain ⟨hc1,hf1⟩:=aV hb1;have hz1:=fQ hb1;have hy1:=hb1.size;(try simp at hy1))|(at_mapUpdate;refine wpList_mapUpdate_own _ rfl _ _ _ 192 rfl 3 194 zy Tryz.underlying192 rR M (gP (R.take j)).length (DataW.map es) rfl (kq (kq HO.out ((Hv _ _).alloc (I3 _) _)) hb1) HL.out _ _ (kI id) rfl rfl HK.out .nil [] rfl ?_));intro w2 hown2 hgrow2
      have hB2:Hid (Below w.heap.size w w2):=by
       have h1:Below w.heap.size w w1:=(by refine I0 ?_ (Below.mono hb1 Zs);repeat (first|(with_reducible exact HB2.out)|(with_reducible refine Hx ?_)|(with_reducible refine aJ ?_)|(with_reducible refine I1 ?_ Zs _)|(with_reducible refine Hy ?_ Zs _)));exact sq h1 hgrow2 h1.size (by omega)
      have S2:Hid (oS w2 M (gP (R.take (j+1)))):=by
       have:=HE.out;show oS w2 M (gP (R.take (j+1)))
       rw [HID.out];exact xe this.1 this.2.1 this.2.2.1 this.2.2.2 hown2
      have s1:=hb1.size;have s2:=vC hgrow2;simp at s1;have c2:Hid (w2.cell? ⟨w.heap.size,1,none⟩=some (.slice (some ⟨b0,o0,none⟩) R.length c')):=CY hgrow2 (by omega) ((hc1 _ _ (by simp;omega)).trans (aE _ c1x));clear hown2 hgrow2 HO HE hc1 hf1 hb1 HSn;go_wp2;go_roundw
      case rel=>exact ⟨j+1,by go_num,by omega,hB2.out,hm1,by omega,c2.out,S2.out,HN.out⟩
      case measure=>simp [intOf];omega
    ·have hge2:¬ (j:Int)<(R.length:Int):=by omega
     obtain ⟨n,arr,cl,hh,hn,hle,hnd⟩:=xi hseen;have hid:gP (R.take j)=gP R:=by rw [Ie (by omega)]
     have hlen:(gP (R.take j)).length=R.length:=by rw [hid];simp [gP]
     rw [hlen,hid] at hnd;rw [hlen] at hle;subst hn;have hrun:=zr hh 3;clear hseen hbx hh;rcases (show arr.size<R.length∨arr.size=R.length by omega) with h|h
     ·have h':(arr.size:Int)<(R.length:Int):=by omega
      have hrf:Hid (r=6):=HBad.out fun hm=>by have:=hnd.2 hm.2.2.2.2;omega
      clear HBad HC hnd hlen hid;go_wp2
      all_goals first|(go_ret;exact ⟨rI hrf.out.symm,HB2.out⟩)|exact Zx
     ·have h':¬ (arr.size:Int)<(R.length:Int):=by omega
      have hrt:Hid (r=0):=by
       rcases HC.out with ⟨_,hr⟩|⟨hr,_⟩
       ·exact hr
       ·exact absurd ⟨h12,h100,fun i hi=>HA.out i (by omega),fun x hx=>HA2.out x (by rw [Ie (by omega)];exact hx),hnd.1 h⟩ hr
      clear HBad HC hnd hlen hid;go_wp2
      all_goals first|(go_ret;exact ⟨rI hrt.out.symm,HB2.out⟩)|exact Zx
def Lf.agg (x:Lf):Value:=.agg #[.int .i64 x.backend,.int .i64 x.state,.int .i64 x.weight,.int .i64 x.since,.int .i64 x.until_,.int .i64 x.request]
theorem AT (N:Nat) (cp:Addr) (hN:∀ args w,(callFunc N args).run Tryz.prog w=.ok (.enter N args) w) (p:Lf→Bool) (b0 o0 c0:Nat) (X:List Lf) (w:World) (hb0:b0<w.heap.size) (hn:X.length≤4611686018427387903) (h1:∀ i j,i<X.length→j<6→w.cell? ⟨b0,o0+i*6+j,none⟩=(X.getD i Lf.zero).cells[j]?)
  (hf:∀ x∈X,∀ w',Below w.heap.size w w'→Calls Tryz.prog N #[Lf.agg x,.pointer (some cp)] w' fun e w''=>e=.returned (.bool (p x))∧Below w'.heap.size w' w'') :
  Calls Tryz.prog 147 #[.slice (some ⟨b0,o0,none⟩) X.length c0,.func (.func N) #[] #[.pointer (some cp)]] w fun e w'=>e=.returned (.int .i64 (aQ p X))∧Below w.heap.size w w':=by
 have H1:=Hu h1
 have HF:=Hu hf
 have hn2:X.length≤9223372036854775807:=by omega
 clear h1 hf
 go_enter Tryz.func147,Tryz.ntmps147
 go_wp2
 go_loopw [8] (fun i wr=>∃ k:Nat,k≤X.length∧i=.int .i64 k∧Below w.heap.size w wr∧∀ x∈X.take k,p x=false) (fun i _=>X.length - (intOf i).toNat)
 case atStart=>exact ⟨0,I4 _,rfl,Hv _ _,fun x hx=>by simp at hx⟩
 case round=>
  obtain ⟨k,hk,rfl,hbel,hall⟩:=hrel;have HA:=Hu hall;clear hall;rcases (show k<X.length∨X.length=k by omega) with hlt|heq
  ·have hlt':(k:Int)<(X.length:Int):=by omega
   obtain ⟨o,ho⟩:∃ o,o=X.getD k Lf.zero:=⟨_,rfl⟩;have HO:=Hu ho
   have hm:o∈X:=by rw [ho];simp only [List.getD,Ib hlt,Iu];exact If _
   have HC:=Hu (HF.out o hm _ hbel)
   have hold:∀ j,j<6→wr.cell? ⟨b0,o0+k*6+j,none⟩=o.cells[j]?:=fun j hj=>by
    rw [hbel.cell (p:=⟨b0,o0+k*6+j,none⟩) hb0,ho];exact H1.out k j hlt hj
   have a0:=hold 0 (by omega);have a1:=hold 1 (by omega);have a2:=hold 2 (by omega);have a3:=hold 3 (by omega);have a4:=hold 4 (by omega);have a5:=hold 5 (by omega);clear hold ho hm;have HB:=Hu hbel;clear hbel;simp only [Lf.cells,I5,I6,Nat.add_zero] at a0 a1 a2 a3 a4 a5;exact Q11
  ·exact Q23
theorem AU (N:Nat) (cp:Addr) (a:Option Addr) (c:Nat) (w:World):Calls Tryz.prog 147 #[.slice a 0 c,.func (.func N) #[] #[.pointer (some cp)]] w fun e w'=>e=.returned (.int .i64 (-1))∧Below w.heap.size w w':=by
 go_enter Tryz.func147,Tryz.ntmps147;exact Q25
theorem sw (N:Nat) (cp:Addr) (hN:∀ args w,(callFunc N args).run Tryz.prog w=.ok (.enter N args) w) (p:Lf→Bool) (v:Value) (X:List Lf) (w:World) (r:aI w 6 v (X.map Lf.cells)) (hn:X.length≤4611686018427387903)
  (hf:∀ x∈X,∀ w',Below w.heap.size w w'→Calls Tryz.prog N #[Lf.agg x,.pointer (some cp)] w' fun e w''=>e=.returned (.bool (p x))∧Below w'.heap.size w' w'') :
  Calls Tryz.prog 147 #[v,.func (.func N) #[] #[.pointer (some cp)]] w fun e w'=>e=.returned (.int .i64 (aQ p X))∧Below w.heap.size w w':=by
 obtain ⟨a,c,rfl,l,m,n,q⟩:=aK Lf.zero r
 by_cases hX:X=[]
 ·subst hX;exact AU N cp a c w
 ·obtain ⟨b,o,rfl,hb,q⟩:=q hX;exact AT N cp hN p b o c X w hb hn q hf
def dw (x:Sl):Prop:=if x.used=true then 0≤x.gen∧x.gen≤1048575∧0≤x.key∧x.key≤4294967295∧0≤x.backend∧x.backend≤11 else 0≤x.gen∧x.gen≤1048576∧x.key=0∧x.backend=0
theorem Cl (g:Int) (u:Bool) (k b:Int) (w:World) (h:dw ⟨g,u,k,b⟩):Calls Tryz.prog 82 #[.agg #[.int .i64 g,.bool u,.int .i64 k,.int .i64 b]] w fun e w'=>e=.returned (.bool true)∧Below w.heap.size w w':=by
 cases u with
 | true=>
  obtain ⟨h1,h2,h3,h4,h5,h6⟩:0≤g∧g≤1048575∧0≤k∧k≤4294967295∧0≤b∧b≤11:=by simpa [dw] using h
  clear h
  have hd:decide (b<12)=true:=by simp;omega
  go_enter Tryz.func82,Tryz.ntmps82;go_wp2
  all_goals exact Zf
 | false=>
  obtain ⟨h1,h2,rfl,rfl⟩:0≤g∧g≤1048576∧k=0∧b=0:=by simpa [dw] using h
  clear h;go_enter Tryz.func82,Tryz.ntmps82;go_wp2
  all_goals exact Zf
theorem qq {g k b:Int} (h:¬ dw ⟨g,true,k,b⟩):g<0∨(0≤g∧1048576<g)∨(0≤g∧g=1048576)∨(0≤g∧g<1048576∧k<0)∨(0≤g∧g<1048576∧0≤k∧4294967295<k)∨(0≤g∧g<1048576∧0≤k∧k≤4294967295∧b<0)∨(0≤g∧g<1048576∧0≤k∧k≤4294967295∧0≤b∧11<b):=by
 have:¬ (0≤g∧g≤1048575∧0≤k∧k≤4294967295∧0≤b∧b≤11):=by simpa [dw] using h
 omega
theorem qr {g k b:Int} (h:¬ dw ⟨g,false,k,b⟩):g<0∨(0≤g∧1048576<g)∨(0≤g∧g≤1048576∧k≠0)∨(0≤g∧g≤1048576∧k=0∧b≠0):=by
 have:¬ (0≤g∧g≤1048576∧k=0∧b=0):=by simpa [dw] using h
 omega
theorem Fg (g:Int) (u:Bool) (k b:Int) (w:World) (h:¬ dw ⟨g,u,k,b⟩):Calls Tryz.prog 82 #[.agg #[.int .i64 g,.bool u,.int .i64 k,.int .i64 b]] w fun e w'=>e=.returned (.bool false)∧Below w.heap.size w w':=by
 cases u with
 | true=>
  rcases qq h with h1|⟨h1,h2⟩|⟨h1,rfl⟩|⟨h1,h2,h3⟩|⟨h1,h2,h3,h4⟩|⟨h1,h2,h3,h4,h5⟩|⟨h1,h2,h3,h4,h5,h6⟩
  ·clear h;go_enter Tryz.func82,Tryz.ntmps82;go_wp2
   all_goals exact Zf
  ·clear h;go_enter Tryz.func82,Tryz.ntmps82;go_wp2
   all_goals exact Zf
  ·clear h;go_enter Tryz.func82,Tryz.ntmps82;go_wp2
   all_goals exact Zf
  ·clear h
   have hd:decide (0≤k)=false:=by simp;omega
   go_enter Tryz.func82,Tryz.ntmps82;go_wp2
   all_goals exact Zf
  ·clear h
   have hd:decide (k≤4294967295)=false:=by simp;omega
   go_enter Tryz.func82,Tryz.ntmps82;go_wp2
   all_goals exact Zf
  ·clear h
   have hd:decide (0≤b)=false:=by simp;omega
   go_enter Tryz.func82,Tryz.ntmps82;go_wp2
   all_goals exact Zf
  ·clear h
   have hd:decide (b<12)=false:=by simp;omega
   go_enter Tryz.func82,Tryz.ntmps82;go_wp2
   all_goals exact Zf
 | false=>
  rcases qr h with h1|⟨h1,h2⟩|⟨h1,h2,h3⟩|⟨h1,h2,rfl,h4⟩
  ·clear h;go_enter Tryz.func82,Tryz.ntmps82;go_wp2
   all_goals exact Zf
  ·clear h;go_enter Tryz.func82,Tryz.ntmps82;go_wp2
   all_goals exact Zf
  ·clear h;have hd:(k == 0)=false:=by simpa using h3
   clear h3;go_enter Tryz.func82,Tryz.ntmps82;go_wp2
   all_goals exact Zf
  ·clear h;have hd:(b == 0)=false:=by simpa using h4
   clear h4;go_enter Tryz.func82,Tryz.ntmps82;go_wp2
   all_goals exact Zf
theorem rb (g:Int) (u:Bool) (k b:Int) (w:World) (h:dw ⟨g,u,k,b⟩):Calls Tryz.prog 81 #[.agg #[.int .i64 g,.bool u,.int .i64 k,.int .i64 b]] w fun e w'=>e=.returned (.bool false)∧Below w.heap.size w w':=by
 have H:=Hu h;clear h;go_enter Tryz.func81,Tryz.ntmps81;go_wp2_with (go_at_call 82;refine (Cl _ _ _ _ _ H.out).mono ?_;rintro e w1 ⟨rfl,hb1⟩;obtain ⟨hc1,hf1⟩:=aV hb1;have hz1:=fQ hb1;have hy1:=hb1.size;(try simp at hy1))
 all_goals exact Zf
theorem BV (g:Int) (u:Bool) (k b:Int) (w:World) (h:¬ dw ⟨g,u,k,b⟩):Calls Tryz.prog 81 #[.agg #[.int .i64 g,.bool u,.int .i64 k,.int .i64 b]] w fun e w'=>e=.returned (.bool true)∧Below w.heap.size w w':=by
 have H:=Hu h;clear h;go_enter Tryz.func81,Tryz.ntmps81;go_wp2_with (go_at_call 82;refine (Fg _ _ _ _ _ H.out).mono ?_;rintro e w1 ⟨rfl,hb1⟩;obtain ⟨hc1,hf1⟩:=aV hb1;have hz1:=fQ hb1;have hy1:=hb1.size;(try simp at hy1))
 all_goals exact Zf
def zV (w:World) (e:Ending) (w':World):Prop:=∃ k:Nat,k≤40∧e=.returned (.int .i64 k)∧Below w.heap.size w w'
theorem qY (b0 o0 c0:Nat) (X:List Sl) (w:World) (hb0:b0<w.heap.size) (hn:X.length≤40) (h1:∀ i j,i<X.length→j<4→w.cell? ⟨b0,o0+i*4+j,none⟩=(X.getD i Sl.zero).cells[j]?) (hf:∀ x∈X,dw x) :
  Calls Tryz.prog 95 #[.slice (some ⟨b0,o0,none⟩) X.length c0,(.func (.func 81) #[] #[])] w fun e w'=>e=.returned (.int .i64 (-1))∧Below w.heap.size w w':=by
 have H1:=Hu h1
 have HF:=Hu hf
 have hn2:X.length≤9223372036854775807:=by omega
 clear h1 hf
 go_enter Tryz.func95,Tryz.ntmps95
 go_wp2
 go_loopw [8] (fun i wr=>∃ k:Nat,k≤X.length∧i=.int .i64 k∧Below w.heap.size w wr) (fun i _=>X.length - (intOf i).toNat)
 case atStart=>exact ⟨0,I4 _,rfl,Hv _ _⟩
 case round=>
  obtain ⟨k,hk,rfl,hbel⟩:=hrel;rcases (show k<X.length∨X.length=k by omega) with hlt|heq
  ·have hlt':(k:Int)<(X.length:Int):=by omega
   obtain ⟨o,ho⟩:∃ o,o=X.getD k Sl.zero:=⟨_,rfl⟩;have hfo:dw o:=HF.out o (by rw [ho];simp only [List.getD,Ib hlt,Iu];exact If _)
   have hold:∀ j,j<4→wr.cell? ⟨b0,o0+k*4+j,none⟩=o.cells[j]?:=fun j hj=>by
    exact Q124
   clear ho;have a0:=hold 0 (by omega);have a1:=hold 1 (by omega);have a2:=hold 2 (by omega);have a3:=hold 3 (by omega);clear hold;have HFo:=Hu hfo;clear hfo;obtain ⟨g,u,ky,b⟩:=o;simp only [Sl.cells,I5,I6,Nat.add_zero] at a0 a1 a2 a3;have HB:=Hu hbel;clear hbel;go_wp2_with fail;refine (rb _ _ _ _ _ HFo.out).mono ?_;rintro e w1 ⟨rfl,hb1⟩;have B1:=Hu (HB.out.trans (hb1.mono HB.out.size));clear hb1 HB;go_wp2;go_roundw
   case rel=>exact ⟨k+1,by omega,by go_num,B1.out⟩
   case measure=>simp [intOf];omega
  ·have hge:¬ (k:Int)<(X.length:Int):=by omega
   go_wp2
   all_goals first|(go_ret;exact ⟨rfl,hbel⟩)|exact Zx
theorem mV (b0 o0 c0:Nat) (X:List Sl) (w:World) (hb0:b0<w.heap.size) (hn:X.length≤40) (h1:∀ i j,i<X.length→j<4→w.cell? ⟨b0,o0+i*4+j,none⟩=(X.getD i Sl.zero).cells[j]?) (hf:∃ x∈X,¬ dw x) :
  Calls Tryz.prog 95 #[.slice (some ⟨b0,o0,none⟩) X.length c0,(.func (.func 81) #[] #[])] w (zV w):=by
 have H1:=Hu h1
 have HF:=Hu hf
 have hn2:X.length≤9223372036854775807:=by omega
 clear h1 hf
 go_enter Tryz.func95,Tryz.ntmps95
 go_wp2
 go_loopw [8] (fun i wr=>∃ k:Nat,k≤X.length∧i=.int .i64 k∧Below w.heap.size w wr∧∀ x∈X.take k,dw x) (fun i _=>X.length - (intOf i).toNat)
 case atStart=>exact ⟨0,I4 _,rfl,Hv _ _,fun x hx=>by simp at hx⟩
 case round=>
  obtain ⟨k,hk,rfl,hbel,hall⟩:=hrel;have HA:=Hu hall;clear hall;rcases (show k<X.length∨X.length=k by omega) with hlt|heq
  ·have hlt':(k:Int)<(X.length:Int):=by omega
   obtain ⟨o,ho⟩:∃ o,o=X.getD k Sl.zero:=⟨_,rfl⟩
   have hts:X.take (k+1)=X.take k++[o]:=by rw [ho,Ia hlt];simp [List.getD,hlt]
   have HT:=Hu hts
   have hold:∀ j,j<4→wr.cell? ⟨b0,o0+k*4+j,none⟩=o.cells[j]?:=fun j hj=>by
    exact Q124
   clear ho hts;have a0:=hold 0 (by omega);have a1:=hold 1 (by omega);have a2:=hold 2 (by omega);have a3:=hold 3 (by omega);clear hold;have HB:=Hu hbel;clear hbel;by_cases hfo:dw o
   ·have hall2:∀ x∈X.take (k+1),dw x:=by rw [HT.out];intro x hx;rcases List.mem_append.1 hx with h|h;exact HA.out x h;simp at h;rw [h];exact hfo
    have HA2:=Hu hall2;have HFo:=Hu hfo;clear hall2 hfo HA HT;obtain ⟨g,u,ky,b⟩:=o;simp only [Sl.cells,I5,I6,Nat.add_zero] at a0 a1 a2 a3;go_wp2_with fail;refine (rb _ _ _ _ _ HFo.out).mono ?_;rintro e w1 ⟨rfl,hb1⟩;have B1:=Hu (HB.out.trans (hb1.mono HB.out.size));clear hb1 HB;exact Q28
   ·have HFo:=Hu hfo;clear hfo HA HT;obtain ⟨g,u,ky,b⟩:=o;simp only [Sl.cells,I5,I6,Nat.add_zero] at a0 a1 a2 a3;go_wp2_with fail;refine (BV _ _ _ _ _ HFo.out).mono ?_;rintro e w1 ⟨rfl,hb1⟩;have B1:=Hu (HB.out.trans (hb1.mono HB.out.size));clear hb1 HB;go_wp2;go_ret;exact ⟨k,by omega,rfl,B1.out⟩
  ·exfalso;obtain ⟨x,hx,hnx⟩:=HF.out;exact hnx (HA.out x (by rw [Ie (by omega)];exact hx))
theorem qZ (a:Option Addr) (c:Nat) (w:World):Calls Tryz.prog 95 #[.slice a 0 c,(.func (.func 81) #[] #[])] w fun e w'=>e=.returned (.int .i64 (-1))∧Below w.heap.size w w':=by
 go_enter Tryz.func95,Tryz.ntmps95;exact Q25
theorem nV (v:Value) (X:List Sl) (w:World) (r:aI w 4 v (X.map Sl.cells)) (hn:X.length≤40) (hf:∀ x∈X,dw x) :
  Calls Tryz.prog 57 #[v,(.func (.func 81) #[] #[])] w fun e w'=>e=.returned (.bool false)∧Below w.heap.size w w':=by
 have key:Calls Tryz.prog 95 #[v,(.func (.func 81) #[] #[])] w fun e w'=>e=.returned (.int .i64 (-1))∧Below w.heap.size w w':=by
  obtain ⟨a,c,rfl,l,m,n,p⟩:=aK Sl.zero r;by_cases hX:X=[]
  ·subst hX;exact qZ a c w
  ·obtain ⟨b,o,rfl,hb,q⟩:=p hX;exact qY b o c X w hb hn q hf
 have K:=Hu key
 obtain ⟨a,c,rfl,_⟩:=aq r
 clear key r hf
 go_enter Tryz.func57,Tryz.ntmps57
 go_wp2_with fail
 refine K.out.mono ?_
 rintro e w1 ⟨rfl,hb1⟩
 have B1:=Hu hb1
 clear hb1 K
 go_wp2
 all_goals first|(go_ret;exact ⟨rfl,B1.out⟩)|exact Zx
theorem mX (v:Value) (X:List Sl) (w:World) (r:aI w 4 v (X.map Sl.cells)) (hn:X.length≤40) (hf:∃ x∈X,¬ dw x) :
  Calls Tryz.prog 57 #[v,(.func (.func 81) #[] #[])] w fun e w'=>e=.returned (.bool true)∧Below w.heap.size w w':=by
 have key:Calls Tryz.prog 95 #[v,(.func (.func 81) #[] #[])] w (zV w):=by
  obtain ⟨a,c,rfl,l,m,n,p⟩:=aK Sl.zero r;by_cases hX:X=[]
  ·subst hX;obtain ⟨x,hx,_⟩:=hf
   cases hx
  ·obtain ⟨b,o,rfl,hb,q⟩:=p hX;exact mV b o c X w hb hn q hf
 have K:=Hu key
 obtain ⟨a,c,rfl,_⟩:=aq r
 clear key r hf
 go_enter Tryz.func57,Tryz.ntmps57
 go_wp2_with fail
 refine K.out.mono ?_
 rintro e w1 ⟨k,hk,rfl,hb1⟩
 have B1:=Hu hb1
 clear hb1 K
 go_wp2
 all_goals first|(go_ret;exact ⟨rfl,B1.out⟩)|exact Zx
def dN (X:List Sl):Prop:=1≤X.length∧X.length≤40∧∀ x∈X,dw x
theorem yb {X:List Sl} (h:¬ dN X):X.length<1∨(1≤X.length∧40<X.length)∨(1≤X.length∧X.length≤40∧∃ x∈X,¬ dw x):=by
 by_cases h1:X.length<1
 ·exact Or.inl h1
 by_cases h2:40<X.length
 ·exact Or.inr (Or.inl ⟨by omega,h2⟩)
 refine Or.inr (Or.inr ⟨by omega,by omega,?_⟩);by_cases h3:∀ x∈X,dw x
 ·exact absurd ⟨by omega,by omega,h3⟩ h
 ·simpa using h3
theorem fc (v:Value) (X:List Sl) (w:World) (r:aI w 4 v (X.map Sl.cells)) (h:dN X) :
  Calls Tryz.prog 41 #[.agg #[v]] w fun e w'=>e=.returned (.int .i64 0)∧Below w.heap.size w w':=by
 obtain ⟨h1,h2,h3⟩:=h
 have R:=Hu r
 obtain ⟨a,c,rfl,_⟩:=aq r
 have H3:=Hu h3
 have H2:=Hu h2
 have g1:(1:Int)≤(X.length:Int):=by omega
 have g2:(X.length:Int)≤40:=by omega
 clear r h3 h1 h2
 go_enter Tryz.func41,Tryz.ntmps41
 go_wp2_with fail
 refine (nV _ X _ (ai R.out _) H2.out H3.out).mono ?_
 rintro e w1 ⟨rfl,hb1⟩
 have B1:=Hu (((Hv w.heap.size w).alloc (I3 _) _).trans (hb1.mono (by simp)))
 clear hb1
 go_wp2
 all_goals first|(go_ret;exact ⟨rfl,B1.out⟩)|exact Zx
theorem tq (v:Value) (X:List Sl) (w:World) (r:aI w 4 v (X.map Sl.cells)) (h:¬ dN X) :
  Calls Tryz.prog 41 #[.agg #[v]] w fun e w'=>e=.returned (.int .i64 6)∧Below w.heap.size w w':=by
 have R:=Hu r
 obtain ⟨a,c,rfl,_⟩:=aq r
 clear r
 rcases yb h with h1|⟨h1,h2⟩|⟨h1,h2,h3⟩
 ·have g1:(X.length:Int)<1:=by omega
  clear h h1;exact Q139
 ·have g1:(1:Int)≤(X.length:Int):=by omega
  have g2:(40:Int)<(X.length:Int):=by omega
  clear h h1 h2;exact Q139
 ·have H3:=Hu h3;have H2:=Hu h2;have g1:(1:Int)≤(X.length:Int):=by omega
  have g2:(X.length:Int)≤40:=by omega
  clear h h3 h1 h2;go_enter Tryz.func41,Tryz.ntmps41;go_wp2_with fail;refine (mX _ X _ (ai R.out _) H2.out H3.out).mono ?_;rintro e w1 ⟨rfl,hb1⟩;have B1:=Hu (((Hv w.heap.size w).alloc (I3 _) _).trans (hb1.mono (by simp)));clear hb1;go_wp2
  all_goals first|(go_ret;exact ⟨rfl,B1.out⟩)|exact Zx
end
end Go.Proofs.YtfliffgmeobclaaGreat
