/- Texts of the row's proof. Conditions: none. -/
import Derived.Test.YtocbhafgjepnjaaGreatK43
namespace Go.Proofs.YtocbhafgjepnjaaGreat
set_option maxRecDepth 100000
set_option maxHeartbeats 8000000
open Go.RowKit
def evC (k a b c:Int):Ev:=
 if pk k 7=0 then j9 (pk a 4294967296)
 else if pk k 7=1 then gU 2 ⟨pk a 40,pk b 1048577⟩ false
 else if pk k 7=2 then gU 3 ⟨pk a 40,pk b 1048577⟩ false
 else if pk k 7=3 then gU 4 ⟨pk a 40,pk b 1048577⟩ (pk c 2 == 1)
 else if pk k 7=4 then ff (pk a 1048577) (pk b 12) (1+pk c 8)
 else if pk k 7=5 then ls (pk a 1048577) (pk b 12)
 else gT
theorem evC_good (k a b c:Int):EvGood (evC k a b c):=by
 have a1:=cP a (m:=4294967296) (by decide)
 have a2:=cP a (m:=40) (by decide)
 have a3:=cP a (m:=1048577) (by decide)
 have b1:=cP b (m:=1048577) (by decide)
 have b2:=cP b (m:=12) (by decide)
 have c1:=cP c (m:=8) (by decide)
 have hh:jU ⟨pk a 40,pk b 1048577⟩:=by unfold jU;simp only;omega
 unfold evC
 split
 ·exact Bs a1.1 (by omega)
 ·split
  ·exact zH (Or.inl rfl) hh
  ·split
   ·exact zH (Or.inr rfl) hh
   ·split
    ·exact DV hh _
    ·split
     ·exact sw a3.1 (by omega) b2.1 (by omega) (by omega) (by omega)
     ·split
      ·exact DU a3.1 (by omega) b2.1 (by omega)
      ·exact kQ
structure EvR (w w':World) (r n:Nat) (k a b c:Int) (E:List Value):Prop where
 be:Below w.heap.size w w'
 h0:w'.heap[w.heap.size]?=some (.cells #[.int .i64 k,.int .i64 a,.int .i64 b,.int .i64 c] 87 (0,0))
 h1:w'.heap[r]?=some (.cells (Ev.cells Ev.zero).toArray 59 (0,0))
 h2:w'.heap[n]?=some (.cells E.toArray 59 (0,0))
 l:w.heap.size<r∧r<n
theorem EvR.set {w w':World} {r n:Nat} {k a b c:Int} {E:List Value} (h:EvR w w' r n k a b c E) (j:Nat) (u:Value):EvR w (w'.setCell ⟨n,j,none⟩ u) r n k a b c (E.set j u):=by
 have hl:=h.l
 refine ⟨h.be.setCell (by show w.heap.size≤n;omega) _,aU h.h0 (by omega),aU h.h1 (by omega),?_,hl⟩
 have:=aP (j:=j) h.h2 u
 simpa using this
theorem EvR.drew {w w':World} {r n:Nat} {k a b c:Int} {E:List Value} (h:EvR w w' r n k a b c E):EvR w w'.drew r n k a b c E:=⟨h.be.drew,h.h0,h.h1,h.h2,h.l⟩
theorem EvR.y {w w':World} {r n:Nat} {k a b c:Int} {E:List Value} (h:EvR w w' r n k a b c E):w'.cell? ⟨w.heap.size,1,none⟩=some (.int .i64 a)∧w'.cell? ⟨w.heap.size,2,none⟩=some (.int .i64 b)∧w'.cell? ⟨w.heap.size,3,none⟩=some (.int .i64 c)∧∀ j,w'.frozen? ⟨n,j,none⟩=false:=
 ⟨(aa h.h0 1).trans rfl,(aa h.h0 2).trans rfl,(aa h.h0 3).trans rfl,fun j=>ap h.h2 j⟩
theorem EvR.z {w w':World} {r n:Nat} {k a b c:Int} {E:List Value} (h:EvR w w' r n k a b c E) (j:Nat) {v:Value} (hv:E[j]?=some v):w'.cell? ⟨n,j,none⟩=some v:=by rw [aa h.h2 j,Io,hv]
theorem prog_Event (k a b c:Int) (hk:EZ k) (ha:EZ a) (hb:EZ b) (hc:EZ c) (w:World):Calls Tryz.prog 23 #[.agg #[.int .i64 k,.int .i64 a,.int .i64 b,.int .i64 c]] w fun e w'=>e=.returned (.agg (Ev.cells (evC k a b c)).toArray)∧Below w.heap.size w w':=by
 obtain ⟨k0,k1⟩:=hk
 obtain ⟨a0,a1⟩:=ha
 obtain ⟨b0,b1⟩:=hb
 obtain ⟨c0,c1⟩:=hc
 have pk7:=cP k (m:=7) (by decide)
 have pa1:=cP a (m:=4294967296) (by decide)
 have pa2:=cP a (m:=40) (by decide)
 have pa3:=cP a (m:=1048577) (by decide)
 have pb1:=cP b (m:=1048577) (by decide)
 have pb2:=cP b (m:=12) (by decide)
 have pc8:=cP c (m:=8) (by decide)
 have pc2:=cP c (m:=2) (by decide)
 have w8:IntKind.i64.wrap (1+pk c 8)=1+pk c 8:=IL _ (by omega)
 have w7:IntKind.i64.wrap (1+pk k 7)=1+pk k 7:=IL _ (by omega)
 obtain ⟨ev,hev⟩:∃ ev,ev=evC k a b c:=⟨_,rfl⟩
 have HEv:=Ib hev
 rw [← hev]
 clear hev
 go_enter Tryz.func23,Tryz.ntmps23
 go_upto_region 2 with (first|(go_at_call 33;refine (cz _ _ _ (by omega) (by omega) (by omega) (by omega)).mono ?_;rintro e w_ ⟨rfl,hE⟩;subst w_)|(refine IP rfl 59 (.tmp 3) (.tmp 8) rfl (w.heap.size+1+1) (Ev.cells ⟨1+pk k 7,0,0,0,false,0,0,0⟩).toArray rfl rfl 59 (Ev.cells Ev.zero).toArray (au _ (by simp)) (eR _) rfl (lV _) ?_))
 refine aW _ (fun wb hwb=>?_)
 have hR:EvR w wb (w.heap.size+1) (w.heap.size+1+1) k a b c (Ev.cells ⟨1+pk k 7,0,0,0,false,0,0,0⟩):=by
  refine ⟨?_,?_,?_,?_,by omega⟩
  ·rw [hwb];exact aQ ((((Ic _ _).alloc (Ij _) _).alloc (by simp) _).alloc (by simp;omega) _) (by omega)
  ·rw [hwb];exact (setRow_other _ _ _ _ (by omega)).trans ((If _ _ _ (by simp;omega)).trans ((If _ _ _ (by simp)).trans (au _ rfl)))
  ·rw [hwb];exact (setRow_other _ _ _ _ (by omega)).trans ((If _ _ _ (by simp)).trans (au _ (by simp)))
  ·rw [hwb];exact aX (au _ (by simp))
 obtain ⟨nrzz,hnr⟩:∃ n,n=w.heap.size+1:=⟨_,rfl⟩
 rw [← hnr] at hR ⊢
 obtain ⟨nb,hnb⟩:∃ n,n=nrzz+1:=⟨_,rfl⟩
 rw [← hnb] at hR ⊢
 have HR:=Ib hR
 clear hwb hR hnr hnb
 rcases (show pk k 7=0∨pk k 7=1∨pk k 7=2∨pk k 7=3∨pk k 7=4∨pk k 7=5∨pk k 7=6 by omega) with e7|e7|e7|e7|e7|e7|e7
 focus (
  have HV:=Ib (show ev=j9 (pk a 4294967296) by rw [HEv.out];unfold evC;simp [e7])
  have HR0:=Ib (show EvR w wb nrzz nb k a b c (Ev.cells ⟨1,0,0,0,false,0,0,0⟩) by have h1:=HR.out;rw [e7] at h1;exact h1)
  obtain ⟨y1,y2,y3,xf⟩:=HR0.out.y
  have z0:=HR0.out.z 0 rfl
  have zczz:=HR0.out.z 1 rfl
  have HZ:=Ib (show EvR w (wb.setCell ⟨nb,1,none⟩ (.int .i64 (pk a 4294967296))) nrzz nb k a b c (Ev.cells ev) by rw [HV.out];exact HR0.out.set 1 _))
 rotate_left
 focus (
  have HV:=Ib (show ev=gU 2 ⟨pk a 40,pk b 1048577⟩ false by rw [HEv.out];unfold evC;simp [e7])
  have HR0:=Ib (show EvR w wb nrzz nb k a b c (Ev.cells ⟨2,0,0,0,false,0,0,0⟩) by have h1:=HR.out;rw [e7] at h1;exact h1)
  obtain ⟨y1,y2,y3,xf⟩:=HR0.out.y
  have z0:=HR0.out.z 0 rfl
  have zczz:=HR0.out.z 2 rfl
  go_upto_region 9 with (go_at_call 33;refine (cz _ _ _ (by omega) (by omega) (by omega) (by omega)).mono ?_;rintro e w_ ⟨rfl,hE⟩;subst w_)
  refine aW _ (fun w1 hw=>?_)
  have HR1:=Ib (show EvR w w1 nrzz nb k a b c _ by rw [hw];exact HR0.out.set 2 (.int .i64 (pk a 40)))
  clear hw y1 y2 y3 xf z0 zczz
  obtain ⟨y1,y2,y3,xf⟩:=HR1.out.y
  have z0:=HR1.out.z 0 rfl
  have zczz:=HR1.out.z 3 rfl
  go_upto_region 10 with (go_at_call 33;refine (cz _ _ _ (by omega) (by omega) (by omega) (by omega)).mono ?_;rintro e w_ ⟨rfl,hE⟩;subst w_)
  refine aW _ (fun w2 hw=>?_)
  have HR2:=Ib (show EvR w w2 nrzz nb k a b c _ by rw [hw];exact HR1.out.set 3 (.int .i64 (pk b 1048577)))
  clear hw y1 y2 y3 xf z0 zczz
  obtain ⟨y1,y2,y3,xf⟩:=HR2.out.y
  have z0:=HR2.out.z 0 rfl
  have zczz:=HR2.out.z 4 rfl
  have HZ:=Ib (show EvR w (w2.setCell ⟨nb,4,none⟩ (.bool false)) nrzz nb k a b c (Ev.cells ev) by rw [HV.out];exact HR2.out.set 4 _))
 rotate_left
 focus (
  have HV:=Ib (show ev=gU 3 ⟨pk a 40,pk b 1048577⟩ false by rw [HEv.out];unfold evC;simp [e7])
  have HR0:=Ib (show EvR w wb nrzz nb k a b c (Ev.cells ⟨3,0,0,0,false,0,0,0⟩) by have h1:=HR.out;rw [e7] at h1;exact h1)
  obtain ⟨y1,y2,y3,xf⟩:=HR0.out.y
  have z0:=HR0.out.z 0 rfl
  have zczz:=HR0.out.z 2 rfl
  go_upto_region 9 with (go_at_call 33;refine (cz _ _ _ (by omega) (by omega) (by omega) (by omega)).mono ?_;rintro e w_ ⟨rfl,hE⟩;subst w_)
  refine aW _ (fun w1 hw=>?_)
  have HR1:=Ib (show EvR w w1 nrzz nb k a b c _ by rw [hw];exact HR0.out.set 2 (.int .i64 (pk a 40)))
  clear hw y1 y2 y3 xf z0 zczz
  obtain ⟨y1,y2,y3,xf⟩:=HR1.out.y
  have z0:=HR1.out.z 0 rfl
  have zczz:=HR1.out.z 3 rfl
  go_upto_region 10 with (go_at_call 33;refine (cz _ _ _ (by omega) (by omega) (by omega) (by omega)).mono ?_;rintro e w_ ⟨rfl,hE⟩;subst w_)
  refine aW _ (fun w2 hw=>?_)
  have HR2:=Ib (show EvR w w2 nrzz nb k a b c _ by rw [hw];exact HR1.out.set 3 (.int .i64 (pk b 1048577)))
  clear hw y1 y2 y3 xf z0 zczz
  obtain ⟨y1,y2,y3,xf⟩:=HR2.out.y
  have z0:=HR2.out.z 0 rfl
  have zczz:=HR2.out.z 4 rfl
  have HZ:=Ib (show EvR w (w2.setCell ⟨nb,4,none⟩ (.bool false)) nrzz nb k a b c (Ev.cells ev) by rw [HV.out];exact HR2.out.set 4 _))
 rotate_left
 rcases (show pk c 2=0∨pk c 2=1 by omega) with e2|e2
 focus (
  have HV:=Ib (show ev=gU 4 ⟨pk a 40,pk b 1048577⟩ false by rw [HEv.out];unfold evC;simp [e7,e2])
  have HR0:=Ib (show EvR w wb nrzz nb k a b c (Ev.cells ⟨4,0,0,0,false,0,0,0⟩) by have h1:=HR.out;rw [e7] at h1;exact h1)
  obtain ⟨y1,y2,y3,xf⟩:=HR0.out.y
  have z0:=HR0.out.z 0 rfl
  have zczz:=HR0.out.z 2 rfl
  go_upto_region 9 with (go_at_call 33;refine (cz _ _ _ (by omega) (by omega) (by omega) (by omega)).mono ?_;rintro e w_ ⟨rfl,hE⟩;subst w_)
  refine aW _ (fun w1 hw=>?_)
  have HR1:=Ib (show EvR w w1 nrzz nb k a b c _ by rw [hw];exact HR0.out.set 2 (.int .i64 (pk a 40)))
  clear hw y1 y2 y3 xf z0 zczz
  obtain ⟨y1,y2,y3,xf⟩:=HR1.out.y
  have z0:=HR1.out.z 0 rfl
  have zczz:=HR1.out.z 3 rfl
  go_upto_region 10 with (go_at_call 33;refine (cz _ _ _ (by omega) (by omega) (by omega) (by omega)).mono ?_;rintro e w_ ⟨rfl,hE⟩;subst w_)
  refine aW _ (fun w2 hw=>?_)
  have HR2:=Ib (show EvR w w2 nrzz nb k a b c _ by rw [hw];exact HR1.out.set 3 (.int .i64 (pk b 1048577)))
  clear hw y1 y2 y3 xf z0 zczz
  obtain ⟨y1,y2,y3,xf⟩:=HR2.out.y
  have z0:=HR2.out.z 0 rfl
  have zczz:=HR2.out.z 4 rfl
  have HZ:=Ib (show EvR w (w2.setCell ⟨nb,4,none⟩ (.bool false)) nrzz nb k a b c (Ev.cells ev) by rw [HV.out];exact HR2.out.set 4 _))
 rotate_left
 focus (
  have HV:=Ib (show ev=gU 4 ⟨pk a 40,pk b 1048577⟩ true by rw [HEv.out];unfold evC;simp [e7,e2])
  have HR0:=Ib (show EvR w wb nrzz nb k a b c (Ev.cells ⟨4,0,0,0,false,0,0,0⟩) by have h1:=HR.out;rw [e7] at h1;exact h1)
  obtain ⟨y1,y2,y3,xf⟩:=HR0.out.y
  have z0:=HR0.out.z 0 rfl
  have zczz:=HR0.out.z 2 rfl
  go_upto_region 9 with (go_at_call 33;refine (cz _ _ _ (by omega) (by omega) (by omega) (by omega)).mono ?_;rintro e w_ ⟨rfl,hE⟩;subst w_)
  refine aW _ (fun w1 hw=>?_)
  have HR1:=Ib (show EvR w w1 nrzz nb k a b c _ by rw [hw];exact HR0.out.set 2 (.int .i64 (pk a 40)))
  clear hw y1 y2 y3 xf z0 zczz
  obtain ⟨y1,y2,y3,xf⟩:=HR1.out.y
  have z0:=HR1.out.z 0 rfl
  have zczz:=HR1.out.z 3 rfl
  go_upto_region 10 with (go_at_call 33;refine (cz _ _ _ (by omega) (by omega) (by omega) (by omega)).mono ?_;rintro e w_ ⟨rfl,hE⟩;subst w_)
  refine aW _ (fun w2 hw=>?_)
  have HR2:=Ib (show EvR w w2 nrzz nb k a b c _ by rw [hw];exact HR1.out.set 3 (.int .i64 (pk b 1048577)))
  clear hw y1 y2 y3 xf z0 zczz
  obtain ⟨y1,y2,y3,xf⟩:=HR2.out.y
  have z0:=HR2.out.z 0 rfl
  have zczz:=HR2.out.z 4 rfl
  have HZ:=Ib (show EvR w (w2.setCell ⟨nb,4,none⟩ (.bool true)) nrzz nb k a b c (Ev.cells ev) by rw [HV.out];exact HR2.out.set 4 _))
 rotate_left
 focus (
  have HV:=Ib (show ev=ff (pk a 1048577) (pk b 12) (1+pk c 8) by rw [HEv.out];unfold evC;simp [e7])
  have HR0:=Ib (show EvR w wb nrzz nb k a b c (Ev.cells ⟨5,0,0,0,false,0,0,0⟩) by have h1:=HR.out;rw [e7] at h1;exact h1)
  obtain ⟨y1,y2,y3,xf⟩:=HR0.out.y
  have z0:=HR0.out.z 0 rfl
  have zczz:=HR0.out.z 5 rfl
  go_upto_region 13 with (go_at_call 33;refine (cz _ _ _ (by omega) (by omega) (by omega) (by omega)).mono ?_;rintro e w_ ⟨rfl,hE⟩;subst w_)
  refine aW _ (fun w1 hw=>?_)
  have HR1:=Ib (show EvR w w1 nrzz nb k a b c _ by rw [hw];exact HR0.out.set 5 (.int .i64 (pk a 1048577)))
  clear hw y1 y2 y3 xf z0 zczz
  obtain ⟨y1,y2,y3,xf⟩:=HR1.out.y
  have z0:=HR1.out.z 0 rfl
  have zczz:=HR1.out.z 6 rfl
  go_upto_region 14 with (go_at_call 33;refine (cz _ _ _ (by omega) (by omega) (by omega) (by omega)).mono ?_;rintro e w_ ⟨rfl,hE⟩;subst w_)
  refine aW _ (fun w2 hw=>?_)
  have HR2:=Ib (show EvR w w2 nrzz nb k a b c _ by rw [hw];exact HR1.out.set 6 (.int .i64 (pk b 12)))
  clear hw y1 y2 y3 xf z0 zczz
  obtain ⟨y1,y2,y3,xf⟩:=HR2.out.y
  have z0:=HR2.out.z 0 rfl
  have zczz:=HR2.out.z 7 rfl
  have HZ:=Ib (show EvR w (w2.setCell ⟨nb,7,none⟩ (.int .i64 (1+pk c 8))) nrzz nb k a b c (Ev.cells ev) by rw [HV.out];exact HR2.out.set 7 _))
 rotate_left
 focus (
  have HV:=Ib (show ev=ls (pk a 1048577) (pk b 12) by rw [HEv.out];unfold evC;simp [e7])
  have HR0:=Ib (show EvR w wb nrzz nb k a b c (Ev.cells ⟨6,0,0,0,false,0,0,0⟩) by have h1:=HR.out;rw [e7] at h1;exact h1)
  obtain ⟨y1,y2,y3,xf⟩:=HR0.out.y
  have z0:=HR0.out.z 0 rfl
  have zczz:=HR0.out.z 5 rfl
  go_upto_region 17 with (go_at_call 33;refine (cz _ _ _ (by omega) (by omega) (by omega) (by omega)).mono ?_;rintro e w_ ⟨rfl,hE⟩;subst w_)
  refine aW _ (fun w1 hw=>?_)
  have HR1:=Ib (show EvR w w1 nrzz nb k a b c _ by rw [hw];exact HR0.out.set 5 (.int .i64 (pk a 1048577)))
  clear hw y1 y2 y3 xf z0 zczz
  obtain ⟨y1,y2,y3,xf⟩:=HR1.out.y
  have z0:=HR1.out.z 0 rfl
  have zczz:=HR1.out.z 6 rfl
  have HZ:=Ib (show EvR w (w1.setCell ⟨nb,6,none⟩ (.int .i64 (pk b 12))) nrzz nb k a b c (Ev.cells ev) by rw [HV.out];exact HR1.out.set 6 _))
 rotate_left
 focus (
  have HV:=Ib (show ev=gT by rw [HEv.out];unfold evC;simp [e7])
  have HR0:=Ib (show EvR w wb nrzz nb k a b c (Ev.cells ⟨7,0,0,0,false,0,0,0⟩) by have h1:=HR.out;rw [e7] at h1;exact h1)
  have z0:=HR0.out.z 0 rfl
  have HZ:=Ib (show EvR w wb nrzz nb k a b c (Ev.cells ev) by rw [HV.out];exact HR0.out))
 rotate_left
 all_goals (
  go_wp2_with (first|(go_at_call 33;refine (cz _ _ _ (by omega) (by omega) (by omega) (by omega)).mono ?_;rintro e w_ ⟨rfl,hE⟩;subst w_)|(refine t7 rfl 59 (.tmp 3) rfl nb rfl 59 (Ev.cells ev).toArray (0,0) _ HZ.out.h2 Tryz.underlying59 rfl (eR _) ?_)|(refine IP rfl 59 (.tmp 2) (.tmp 64) rfl nrzz (Ev.cells ev).toArray rfl rfl 59 (Ev.cells Ev.zero).toArray HZ.out.h1 (eR _) rfl (lV _) ?_))
  exact IM (v:=.agg (Ev.cells ev).toArray) (results_cell_row rfl _ _ nrzz 59 (Ev.cells ev).toArray (0,0) _ rfl (aX HZ.out.h1) Tryz.underlying59 rfl (eR _)) rfl ⟨rfl,aQ HZ.out.be (by have:=HZ.out.l;omega)⟩)
end Go.Proofs.YtocbhafgjepnjaaGreat
