/- Texts of the row's proof. Conditions: none. -/
import Derived.Test.YtennppmadmgfoaaGreatDoorK17
import Derived.Test.YtennppmadmgfoaaGreatDoorK24
namespace Go.Proofs.YtennppmadmgfoaaGreatDoor
open Proofs.Tryz
set_option maxRecDepth 100000
set_option maxHeartbeats 8000000
section
open Go.RowKit
theorem Q61 {p:Prop} (h:p:=by
 have x22:=ah hbz x22 hpb;have n0:wz.cell? ⟨nb,0,none⟩=some (.slice a3 N0.length c3):=ae hnz 0;have n1:wz.cell? ⟨nb,1,none⟩=some (.bool N1):=ae hnz 1;have n2:wz.cell? ⟨nb,2,none⟩=some (.int .i64 N2):=ae hnz 2;have n3:wz.cell? ⟨nb,3,none⟩=some (.int .i64 N3):=ae hnz 3;have gf:∀ n,wz.frozen? ⟨g,n,none⟩=false:=(fun n=>(by have h:=HGz.out.oh;rw [HEh.out] at h;exact h.frozenAt n));have hn1:¬ nb=g:=(by omega);have hn2:¬ g=nb:=(by omega);have HRz:=KL (dv HGb.out hrz (KY _));have HFz:=KL (HFb.out.trans (hbz.mono HFb.out.size));have k0:=ah hbz k0 hgb;have k1:=ah hbz k1 hgb;have k2:=ah hbz k2 hgb;have k3:=ah hbz k3 hgb;clear hrz hbz hnz HFb HGb x13 x14 x15 x16;go_wp2_with fail;refine Zr (fun w':World=>w'.cell? ⟨p,22,none⟩=some (.slice (some ⟨g,0,none⟩) 12 ch)/\w'.cell? ⟨nb,0,none⟩=some (.slice a3 N0.length c3)/\w'.cell? ⟨nb,1,none⟩=some (.bool N1)/\w'.cell? ⟨nb,2,none⟩=some (.int .i64 N2)/\w'.cell? ⟨nb,3,none⟩=some (.int .i64 N3)) (fun hHeld=>?_);refine eD 0 ?_;refine Z1 8 (fun K hK=>?_);go_simp;refine Zk hK fun hHeld=>?_;clear hK K;refine Zd ?_;go_wp2_with fail;have hb':b<X.health.length:=(by omega);refine LN (v:=.tuple #[]) (by simp [results,results81,go_sem]) rfl ⟨V.m.set b (.slice a3 N0.length c3),rfl,?_,fun S2 hS2=>?_⟩;(focus (rw [HNW.out];exact dF (Ay HGz.out HEh.out b hb' ⟨N0,N1,N2,N3⟩ _ HRz.out).1 (KN (KM _ _))));have hg2:g∈S2:=hS2 g (by rw [HEh.out];rfl);exact (Fr.of_below HFz.out:Fr S2 w wz).trans (((((di hg2 _ _).trans (di hg2 _ _) (fun _ hx=>Or.inl hx)).trans (di hg2 _ _) (fun _ hx=>Or.inl hx)).trans (di hg2 _ _) (fun _ hx=>Or.inl hx)).trans (Fr.of_below (S:=S2) (KN (KM _ _))) (fun _ hx=>Or.inl hx)) (fun _ hx=>Or.inl hx)):p:=h
theorem Q127 {p:Prop} (h:p:=by
 rw [<- hnb];clear hwz hnb R3 hb3 hb2 hba hz2 hz3 hle;have HGz:=KL (dF HGb.out hbz);exact Q61):p:=h
theorem Q1 {p:Prop} (h:p:=by
 refine Zr (fun w':World=>w'.cell? ⟨p,13,none⟩=some (.int .i64 X.cf.ww)/\w'.cell? ⟨p,14,none⟩=some (.int .i64 X.cf.wf)/\w'.cell? ⟨p,15,none⟩=some (.int .i64 X.cf.wh)/\w'.cell? ⟨p,16,none⟩=some (.int .i64 X.now)/\w'.cell? ⟨p,22,none⟩=some (.slice (some ⟨g,0,none⟩) 12 ch)/\w'.cell? ⟨g,b*4,none⟩=some (.slice am M.length cm)/\w'.cell? ⟨g,b*4+1,none⟩=some (.bool out)/\w'.cell? ⟨g,b*4+2,none⟩=some (.int .i64 u)/\w'.cell? ⟨g,b*4+3,none⟩=some (.int .i64 T)) (fun hHeld=>?_);refine eD 0 ?_;refine eD 8 ?_;refine eD 16 ?_;refine Z2 24 32 (fun K hK=>?_) (fun K hK=>?_);(focus (go_simp;(first|(go_at_call 68;refine (ea (fT HGb.out.gr Zb) _ HM.out.bk).mono ?_;rw [<- HSt.out];rintro e w2 ⟨rfl,hb2⟩;have hz2:=hb2.size;(try simp at hz2);(try have bxb2:=aj hb2 (cO wb _) (dP wb _));(try dsimp only))|(go_at_call 129;refine (ed _ _ _ M out u T failed _ _ N0 N1 N2 N3 came _ _ (aq HMb.out Zb) HHt.out HNa.out).mono ?_;rintro e w3 ⟨v3,rfl,R3,hb3⟩;have hz3:=hb3.size;(try simp at hz3);obtain ⟨a3,c3,rfl,_⟩:=fC R3.1;(try (have bxb:=aj hb3 (cO wb _) (dP wb _);(have bx0:w3.cell? ⟨wb.heap.size,0,none⟩=some (.slice none 0 0):=ae bxb 0;have bx1:w3.cell? ⟨wb.heap.size,1,none⟩=some (.bool false):=ae bxb 1;have bx2:w3.cell? ⟨wb.heap.size,2,none⟩=some (.int .i64 0):=ae bxb 2;have bx3:w3.cell? ⟨wb.heap.size,3,none⟩=some (.int .i64 0):=ae bxb 3;have bxf:∀ n,w3.frozen? ⟨wb.heap.size,n,none⟩=false:=az bxb)));(try (have bxb:=aj hb3 (jR w2 _) (mM w2 _);(have bx0:w3.cell? ⟨w2.heap.size,0,none⟩=some (.slice none 0 0):=ae bxb 0;have bx1:w3.cell? ⟨w2.heap.size,1,none⟩=some (.bool false):=ae bxb 1;have bx2:w3.cell? ⟨w2.heap.size,2,none⟩=some (.int .i64 0):=ae bxb 2;have bx3:w3.cell? ⟨w2.heap.size,3,none⟩=some (.int .i64 0):=ae bxb 3;have bxf:∀ n,w3.frozen? ⟨w2.heap.size,n,none⟩=false:=az bxb)));(try (have bxb:=aj hb3 bxb2 (lt_of_block bxb2);(have bx0:w3.cell? ⟨wb.heap.size,0,none⟩=some (.slice none 0 0):=ae bxb 0;have bx1:w3.cell? ⟨wb.heap.size,1,none⟩=some (.bool false):=ae bxb 1;have bx2:w3.cell? ⟨wb.heap.size,2,none⟩=some (.int .i64 0):=ae bxb 2;have bx3:w3.cell? ⟨wb.heap.size,3,none⟩=some (.int .i64 0):=ae bxb 3;have bxf:∀ n,w3.frozen? ⟨wb.heap.size,n,none⟩=false:=az bxb)));(try dsimp only)));(try go_wp2_with fail);refine Zk hK fun hHeld=>?_;clear hK K;refine dl 25 ?_;refine Z2 27 32 (fun K hK=>?_) (fun K hK=>?_);(focus (go_simp;(first|(go_at_call 68;refine (ea (fT HGb.out.gr Zb) _ HM.out.bk).mono ?_;rw [<- HSt.out];rintro e w2 ⟨rfl,hb2⟩;have hz2:=hb2.size;(try simp at hz2);(try have bxb2:=aj hb2 (cO wb _) (dP wb _));(try dsimp only))|(go_at_call 129;refine (ed _ _ _ M out u T failed _ _ N0 N1 N2 N3 came _ _ (aq HMb.out Zb) HHt.out HNa.out).mono ?_;rintro e w3 ⟨v3,rfl,R3,hb3⟩;have hz3:=hb3.size;(try simp at hz3);obtain ⟨a3,c3,rfl,_⟩:=fC R3.1;(try (have bxb:=aj hb3 (cO wb _) (dP wb _);(have bx0:w3.cell? ⟨wb.heap.size,0,none⟩=some (.slice none 0 0):=ae bxb 0;have bx1:w3.cell? ⟨wb.heap.size,1,none⟩=some (.bool false):=ae bxb 1;have bx2:w3.cell? ⟨wb.heap.size,2,none⟩=some (.int .i64 0):=ae bxb 2;have bx3:w3.cell? ⟨wb.heap.size,3,none⟩=some (.int .i64 0):=ae bxb 3;have bxf:∀ n,w3.frozen? ⟨wb.heap.size,n,none⟩=false:=az bxb)));(try (have bxb:=aj hb3 (jR w2 _) (mM w2 _);(have bx0:w3.cell? ⟨w2.heap.size,0,none⟩=some (.slice none 0 0):=ae bxb 0;have bx1:w3.cell? ⟨w2.heap.size,1,none⟩=some (.bool false):=ae bxb 1;have bx2:w3.cell? ⟨w2.heap.size,2,none⟩=some (.int .i64 0):=ae bxb 2;have bx3:w3.cell? ⟨w2.heap.size,3,none⟩=some (.int .i64 0):=ae bxb 3;have bxf:∀ n,w3.frozen? ⟨w2.heap.size,n,none⟩=false:=az bxb)));(try (have bxb:=aj hb3 bxb2 (lt_of_block bxb2);(have bx0:w3.cell? ⟨wb.heap.size,0,none⟩=some (.slice none 0 0):=ae bxb 0;have bx1:w3.cell? ⟨wb.heap.size,1,none⟩=some (.bool false):=ae bxb 1;have bx2:w3.cell? ⟨wb.heap.size,2,none⟩=some (.int .i64 0):=ae bxb 2;have bx3:w3.cell? ⟨wb.heap.size,3,none⟩=some (.int .i64 0):=ae bxb 3;have bxf:∀ n,w3.frozen? ⟨wb.heap.size,n,none⟩=false:=az bxb)));(try dsimp only)));(try go_wp2_with fail);refine Zk hK fun hHeld=>?_;clear hK K;refine eY 28 ?_;refine Z1 32 (fun K hK=>?_);go_simp;refine Zk hK fun hHeld=>?_;clear hK K));rotate_left 1;(focus (go_simp;refine Zk hK fun hHeld=>?_;clear hK K;refine Z1 27 (fun K hK=>?_);go_simp;(first|(go_at_call 68;refine (ea (fT HGb.out.gr Zb) _ HM.out.bk).mono ?_;rw [<- HSt.out];rintro e w2 ⟨rfl,hb2⟩;have hz2:=hb2.size;(try simp at hz2);(try have bxb2:=aj hb2 (cO wb _) (dP wb _));(try dsimp only))|(go_at_call 129;refine (ed _ _ _ M out u T failed _ _ N0 N1 N2 N3 came _ _ (aq HMb.out Zb) HHt.out HNa.out).mono ?_;rintro e w3 ⟨v3,rfl,R3,hb3⟩;have hz3:=hb3.size;(try simp at hz3);obtain ⟨a3,c3,rfl,_⟩:=fC R3.1;(try (have bxb:=aj hb3 (cO wb _) (dP wb _);(have bx0:w3.cell? ⟨wb.heap.size,0,none⟩=some (.slice none 0 0):=ae bxb 0;have bx1:w3.cell? ⟨wb.heap.size,1,none⟩=some (.bool false):=ae bxb 1;have bx2:w3.cell? ⟨wb.heap.size,2,none⟩=some (.int .i64 0):=ae bxb 2;have bx3:w3.cell? ⟨wb.heap.size,3,none⟩=some (.int .i64 0):=ae bxb 3;have bxf:∀ n,w3.frozen? ⟨wb.heap.size,n,none⟩=false:=az bxb)));(try (have bxb:=aj hb3 (jR w2 _) (mM w2 _);(have bx0:w3.cell? ⟨w2.heap.size,0,none⟩=some (.slice none 0 0):=ae bxb 0;have bx1:w3.cell? ⟨w2.heap.size,1,none⟩=some (.bool false):=ae bxb 1;have bx2:w3.cell? ⟨w2.heap.size,2,none⟩=some (.int .i64 0):=ae bxb 2;have bx3:w3.cell? ⟨w2.heap.size,3,none⟩=some (.int .i64 0):=ae bxb 3;have bxf:∀ n,w3.frozen? ⟨w2.heap.size,n,none⟩=false:=az bxb)));(try (have bxb:=aj hb3 bxb2 (lt_of_block bxb2);(have bx0:w3.cell? ⟨wb.heap.size,0,none⟩=some (.slice none 0 0):=ae bxb 0;have bx1:w3.cell? ⟨wb.heap.size,1,none⟩=some (.bool false):=ae bxb 1;have bx2:w3.cell? ⟨wb.heap.size,2,none⟩=some (.int .i64 0):=ae bxb 2;have bx3:w3.cell? ⟨wb.heap.size,3,none⟩=some (.int .i64 0):=ae bxb 3;have bxf:∀ n,w3.frozen? ⟨wb.heap.size,n,none⟩=false:=az bxb)));(try dsimp only)));(try go_wp2_with fail);refine Zk hK fun hHeld=>?_;clear hK K;refine eY 28 ?_));rotate_left 1));rotate_left 2;(focus (go_simp;refine Zk hK fun hHeld=>?_;clear hK K;refine Z1 24 (fun K hK=>?_);go_simp;(first|(go_at_call 68;refine (ea (fT HGb.out.gr Zb) _ HM.out.bk).mono ?_;rw [<- HSt.out];rintro e w2 ⟨rfl,hb2⟩;have hz2:=hb2.size;(try simp at hz2);(try have bxb2:=aj hb2 (cO wb _) (dP wb _));(try dsimp only))|(go_at_call 129;refine (ed _ _ _ M out u T failed _ _ N0 N1 N2 N3 came _ _ (aq HMb.out Zb) HHt.out HNa.out).mono ?_;rintro e w3 ⟨v3,rfl,R3,hb3⟩;have hz3:=hb3.size;(try simp at hz3);obtain ⟨a3,c3,rfl,_⟩:=fC R3.1;(try (have bxb:=aj hb3 (cO wb _) (dP wb _);(have bx0:w3.cell? ⟨wb.heap.size,0,none⟩=some (.slice none 0 0):=ae bxb 0;have bx1:w3.cell? ⟨wb.heap.size,1,none⟩=some (.bool false):=ae bxb 1;have bx2:w3.cell? ⟨wb.heap.size,2,none⟩=some (.int .i64 0):=ae bxb 2;have bx3:w3.cell? ⟨wb.heap.size,3,none⟩=some (.int .i64 0):=ae bxb 3;have bxf:∀ n,w3.frozen? ⟨wb.heap.size,n,none⟩=false:=az bxb)));(try (have bxb:=aj hb3 (jR w2 _) (mM w2 _);(have bx0:w3.cell? ⟨w2.heap.size,0,none⟩=some (.slice none 0 0):=ae bxb 0;have bx1:w3.cell? ⟨w2.heap.size,1,none⟩=some (.bool false):=ae bxb 1;have bx2:w3.cell? ⟨w2.heap.size,2,none⟩=some (.int .i64 0):=ae bxb 2;have bx3:w3.cell? ⟨w2.heap.size,3,none⟩=some (.int .i64 0):=ae bxb 3;have bxf:∀ n,w3.frozen? ⟨w2.heap.size,n,none⟩=false:=az bxb)));(try (have bxb:=aj hb3 bxb2 (lt_of_block bxb2);(have bx0:w3.cell? ⟨wb.heap.size,0,none⟩=some (.slice none 0 0):=ae bxb 0;have bx1:w3.cell? ⟨wb.heap.size,1,none⟩=some (.bool false):=ae bxb 1;have bx2:w3.cell? ⟨wb.heap.size,2,none⟩=some (.int .i64 0):=ae bxb 2;have bx3:w3.cell? ⟨wb.heap.size,3,none⟩=some (.int .i64 0):=ae bxb 3;have bxf:∀ n,w3.frozen? ⟨wb.heap.size,n,none⟩=false:=az bxb)));(try dsimp only)));(try go_wp2_with fail);refine Zk hK fun hHeld=>?_;clear hK K;refine dl 25 ?_;refine Z1 27 (fun K hK=>?_);go_simp;(first|(go_at_call 68;refine (ea (fT HGb.out.gr Zb) _ HM.out.bk).mono ?_;rw [<- HSt.out];rintro e w2 ⟨rfl,hb2⟩;have hz2:=hb2.size;(try simp at hz2);(try have bxb2:=aj hb2 (cO wb _) (dP wb _));(try dsimp only))|(go_at_call 129;refine (ed _ _ _ M out u T failed _ _ N0 N1 N2 N3 came _ _ (aq HMb.out Zb) HHt.out HNa.out).mono ?_;rintro e w3 ⟨v3,rfl,R3,hb3⟩;have hz3:=hb3.size;(try simp at hz3);obtain ⟨a3,c3,rfl,_⟩:=fC R3.1;(try (have bxb:=aj hb3 (cO wb _) (dP wb _);(have bx0:w3.cell? ⟨wb.heap.size,0,none⟩=some (.slice none 0 0):=ae bxb 0;have bx1:w3.cell? ⟨wb.heap.size,1,none⟩=some (.bool false):=ae bxb 1;have bx2:w3.cell? ⟨wb.heap.size,2,none⟩=some (.int .i64 0):=ae bxb 2;have bx3:w3.cell? ⟨wb.heap.size,3,none⟩=some (.int .i64 0):=ae bxb 3;have bxf:∀ n,w3.frozen? ⟨wb.heap.size,n,none⟩=false:=az bxb)));(try (have bxb:=aj hb3 (jR w2 _) (mM w2 _);(have bx0:w3.cell? ⟨w2.heap.size,0,none⟩=some (.slice none 0 0):=ae bxb 0;have bx1:w3.cell? ⟨w2.heap.size,1,none⟩=some (.bool false):=ae bxb 1;have bx2:w3.cell? ⟨w2.heap.size,2,none⟩=some (.int .i64 0):=ae bxb 2;have bx3:w3.cell? ⟨w2.heap.size,3,none⟩=some (.int .i64 0):=ae bxb 3;have bxf:∀ n,w3.frozen? ⟨w2.heap.size,n,none⟩=false:=az bxb)));(try (have bxb:=aj hb3 bxb2 (lt_of_block bxb2);(have bx0:w3.cell? ⟨wb.heap.size,0,none⟩=some (.slice none 0 0):=ae bxb 0;have bx1:w3.cell? ⟨wb.heap.size,1,none⟩=some (.bool false):=ae bxb 1;have bx2:w3.cell? ⟨wb.heap.size,2,none⟩=some (.int .i64 0):=ae bxb 2;have bx3:w3.cell? ⟨wb.heap.size,3,none⟩=some (.int .i64 0):=ae bxb 3;have bxf:∀ n,w3.frozen? ⟨wb.heap.size,n,none⟩=false:=az bxb)));(try dsimp only)));(try go_wp2_with fail);refine Zk hK fun hHeld=>?_;clear hK K;refine eY 28 ?_));rotate_left 1;(all_goals (refine Z1 33 (fun K hK=>?_);go_simp;refine Zk hK fun hHeld=>?_;clear hK K;refine dl 34 ?_));(all_goals refine Zd ?_)
 ·refine bA _ (fun wz hwz=>?_);have hbz:Below wb.heap.size wb wz:=(by rw [hwz];exact ((KS (KN (KM _ _)) (hb2.mono (by simp))).trans (hb3.mono (by (try simp);omega))).alloc (by (try simp);omega) _);have hrz:aN wb.heap.size wz 1 (.slice a3 N0.length c3) (cN N0):=(by rw [hwz];exact cX (aJ R3 (by (try simp);omega)) _);obtain ⟨nb,hnb⟩:∃ nb,nb=w3.heap.size:=⟨_,rfl⟩;have hnz:wz.heap[nb]?=some (.cells #[.slice a3 N0.length c3,.bool N1,.int .i64 N2,.int .i64 N3] 162 (0,0)):=(by rw [hwz];exact aB _ hnb);have hge:wb.heap.size<=nb:=(by (try simp);omega);rw [<- hnb];clear hwz hnb R3 hb3 hb2 hz2 hz3;have HGz:=KL (dF HGb.out hbz);exact Q61
 ·refine bA _ (fun wz hwz=>?_);have hba:Below wb.heap.size wb w3:=((KS (KN (KM _ _)) (hb2.mono (by simp))).alloc (by (try simp);omega) _).trans (hb3.mono (by (try simp);omega));have hle:wb.heap.size<=w2.heap.size:=(by (try simp);omega);have hbz:Below wb.heap.size wb wz:=(by rw [hwz];exact (((hba.setCell hle _).setCell hle _).setCell hle _).setCell hle _);have hrz:aN wb.heap.size wz 1 (.slice a3 N0.length c3) (cN N0):=(by rw [hwz];exact aJ (aD (aD (aD (aD R3 (by simp;try omega) _) (by simp;try omega) _) (by simp;try omega) _) (by simp;try omega) _) (by simp;omega));obtain ⟨nb,hnb⟩:∃ nb,nb=w2.heap.size:=⟨_,rfl⟩;have hnz:wz.heap[nb]?=some (.cells #[.slice a3 N0.length c3,.bool N1,.int .i64 N2,.int .i64 N3] 162 (0,0)):=(by rw [hwz,hnb];exact aR (j:=3) (aR (j:=2) (aR (j:=1) (aR (j:=0) bxb (.slice a3 N0.length c3)) (.bool N1)) (.int .i64 N2)) (.int .i64 N3));have hge:wb.heap.size<=nb:=(by omega);clear bx0 bx1 bx2 bx3 bxf bxb;exact Q127
 ·refine bA _ (fun wz hwz=>?_);have hba:Below wb.heap.size wb w3:=(KS (KN ((KM _ _).alloc (KY _) _)) (hb2.mono (by simp))).trans (hb3.mono (by (try simp);omega));have hle:wb.heap.size<=wb.heap.size:=KY _;have hbz:Below wb.heap.size wb wz:=(by rw [hwz];exact (((hba.setCell hle _).setCell hle _).setCell hle _).setCell hle _);have hrz:aN wb.heap.size wz 1 (.slice a3 N0.length c3) (cN N0):=(by rw [hwz];exact aJ (aD (aD (aD (aD R3 (by (try simp);omega) _) (by (try simp);omega) _) (by (try simp);omega) _) (by (try simp);omega) _) (by (try simp);omega));obtain ⟨nb,hnb⟩:∃ nb,nb=wb.heap.size:=⟨_,rfl⟩;have hnz:wz.heap[nb]?=some (.cells #[.slice a3 N0.length c3,.bool N1,.int .i64 N2,.int .i64 N3] 162 (0,0)):=(by rw [hwz,hnb];exact aR (j:=3) (aR (j:=2) (aR (j:=1) (aR (j:=0) bxb (.slice a3 N0.length c3)) (.bool N1)) (.int .i64 N2)) (.int .i64 N3));have hge:wb.heap.size<=nb:=(by omega);clear bx0 bx1 bx2 bx3 bxf bxb bxb2;exact Q127):p:=h
theorem Q5 {p:Prop} (h:p:=by
 have HGz:=KL (dF HGb.out hbz);exact Q61):p:=h
theorem Q15 {p:Prop} (h:p:=by
 intro v' w1 hown' hgrow _;have hB:=tD (by (try simp);omega) hown hgrow;obtain ⟨a',cap',rfl,_,_⟩:=aE hown';have HB2:=KL (HBv.out.trans (hB.mono (by omega)));have HO2:=KL hown';clear hown' hgrow hB hown;go_wp2;go_roundw
 case rel=>
  refine ⟨k+1,by omega,by go_num,HB2.out,a',cap',?_,?_⟩
  ·rw [HYe.out (by trivial)];simp
  ·rw [HYe.out (by trivial),HLd.out,J9];simpa using HO2.out
 case measure=>simp [intOf];omega):p:=h
theorem Q87 {p:Prop} (h:p:=by
 go_wp2;go_quiet (fail);go_wp2;go_roundw
 case rel=>exact ⟨k+1,by omega,by go_num,by rw [E2.out];(try simp only);rw [HT.out];simp,by rw [E1.out];simp,Zb⟩
 case measure=>simp [intOf];omega):p:=h
theorem Q88 {p:Prop} (h:p:=by
 obtain ⟨_,_,e0,_,_,_,pt⟩:=aO Lf.zero HLv.out;injection e0 with e01 _ _;obtain ⟨b1,o1,e1,h1,q⟩:=pt (by intro e;rw [e] at hne;simp at hne);exact ⟨b1,o1,e01.trans e1,h1,q⟩):p:=h
theorem Q100 {p:Prop} (h:p:=by
 unfold iZ;rw [Li hk,List.filter_append,LG]
 have e:X.lives[k]=x:=by rw [hx];simp [List.getD,hk]
 rw [e];simp [h]):p:=h
theorem bA {Q:World->Prop} (w:World) (h:∀ w',w'=w->Q w'):Q w:=h w rfl
theorem Ko {P F:Nat->World->Prop} {T:Prop} (h:(∀ b w,F b w->P b w)->T) (key:∀ b w,F b w->P b w):T:=h key
theorem join1 {P F:World->Prop} {T:Prop} (h:(∀ w,F w->P w)->T) (key:∀ w,F w->P w):T:=h key
theorem Km {α β γ δ ε:Type} {P F:α->β->γ->δ->ε->World->Prop} {T:Prop} (h:(∀ a b c d e w,F a b c d e w->P a b c d e w)->T) (key:∀ a b c d e w,F a b c d e w->P a b c d e w):T:=h key
theorem join8 {α β γ δ ε ζ η:Type} {P F:α->β->γ->δ->ε->ζ->η->World->Prop} {T:Prop} (h:(∀ a b c d e f g w,F a b c d e f g w->P a b c d e f g w)->T) (key:∀ a b c d e f g w,F a b c d e f g w->P a b c d e f g w):T:=h key
theorem fh {P:Program} {F:Nat} {args:Array Value} {Q:Ending->World->Prop} (w:World) (h:∀ w',w'=w->Calls P F args w' Q):Calls P F args w Q:=h w rfl
theorem cO (w:World) (o:Obj):((w.alloc o).drew).heap[w.heap.size]?=some o:=aB o rfl
theorem jR (w:World) (o:Obj):(w.alloc o).heap[w.heap.size]?=some o:=aB o rfl
theorem dP (w:World) (o:Obj):w.heap.size<((w.alloc o).drew).heap.size:=by simp
theorem mM (w:World) (o:Obj):w.heap.size<(w.alloc o).heap.size:=by simp
theorem iz {w:World} {b o i:Nat} {u:Value} (h:i≠o):(w.setCell ⟨b,i,none⟩ u).cell? ⟨b,o,none⟩=w.cell? ⟨b,o,none⟩:=by
 simp only [World.cell?,World.setCell,Array.getElem?_modify,if_true]
 cases w.heap[b]? with
 | none=>rfl
 | some x=>cases x<;>simp [h]
structure GA (B p:Nat) (w:World) (S:List Nat) (wA:World) (X:Wd) (O:List Out) (SA:List Nat) (V:Vs) (vo:Value):Prop where
 g:G B p wA X O SA V vo
 fr:Fr S w wA
 sa:∀ x∈SA,x∈S\/w.heap.size<=x
theorem GA.start {B p:Nat} {w:World} {X:Wd} {O:List Out} {S:List Nat} {V:Vs} {vo:Value} (h:G B p w X O S V vo):GA B p w S w X O S V vo:=⟨h,Fr.refl _ _,fun _ z=>Or.inl z⟩
theorem GA.below {B p:Nat} {w h w':World} {S E:List Nat} {X:Wd} {O:List Out} {V:Vs} {vo:Value} (z:GA B p w S h X O E V vo) (I:Below h.heap.size h w'):GA B p w S w' X O E V vo:=
 ⟨dF z.g I,z.fr.trans (Fr.of_below I:Fr S h w') (fun _ J=>Or.inl J),z.sa⟩
theorem GA.step {B p:Nat} {w J w':World} {S z E:List Nat} {X W:Wd} {O K:List Out} {V U:Vs} {vo vo':Value} (h:GA B p w S J X O z V vo) (g:G B p w' W K E U vo') (f:Fr z J w') (Y:∀ x∈E,x∈z\/J.heap.size<=x):GA B p w S w' W K E U vo':=
 ⟨g,h.fr.trans f h.sa,fun x I=>(Y x I).elim (h.sa x) (fun I=>Or.inr (Lz h.fr.size I))⟩
theorem GA.same {B p:Nat} {w I w':World} {S h:List Nat} {X E:Wd} {O:List Out} {V z:Vs} {vo:Value} (J:GA B p w S I X O h V vo) (g:G B p w' E O h z vo) (f:Fr h I w'):GA B p w S w' E O h z vo:=
 J.step g f (fun _ K=>Or.inl K)
theorem GA.call {B p:Nat} {w h w':World} {S E:List Nat} {X W:Wd} {O U:List Out} {V:Vs} {vo:Value} {Q:Vs->Prop} {r:Value} {e:Ending} (Z:GA B p w S h X O E V vo) (hc:GTo B p h E W U Q r e w') :
  ∃ I z K,e=.returned r/\GA B p w S w' W U I z K/\Q z/\h.heap.size<=w'.heap.size/\∀ b,b<h.heap.size->b∉E->w'.heap[b]?=h.heap[b]?:=by
 obtain ⟨I,z,K,he,Y,q,J,hs⟩:=hc
 exact ⟨I,z,K,he,Z.step Y J hs,q,J.size,J.block⟩
theorem bZ {B:Nat} {I w':World} {E K:List Nat} {sz:Nat} {v:Value} {L:List (List Value)} (U:dj (NI B E) I sz v L) (f:Fr E I w') (Z:∀ x∈K,x∈E\/I.heap.size<=x):dj (NI B K) w' sz v L:=
 bU (bI (bU (K':=fun h=>NI B E h/\h<I.heap.size) U (fun h J Y=>⟨Y,J⟩)) f.size (fun h J z=>f.block h J z.1.1)) (fun h _ z=>⟨fun W=>(Z h W).elim z.1.1 (fun e=>by have:=z.2;omega),z.1.2⟩)
theorem GA.call2 {B p:Nat} {w wA w':World} {S SA:List Nat} {X X':Wd} {O O':List Out} {V:Vs} {vo:Value} {Q:Vs->Prop} {r:Value} {e:Ending} (h:GA B p w S wA X O SA V vo) (hc:GTo B p wA SA X' O' Q r e w') :
  ∃ SB V' vo',e=.returned r/\GA B p w S w' X' O' SB V' vo'/\Q V'/\∀ sz v L,dj (NI B SA) wA sz v L->dj (NI B SB) w' sz v L:=by
 obtain ⟨SB,V',vo',he,g,q,f,hs⟩:=hc
 exact ⟨SB,V',vo',he,h.step g f hs,q,fun sz v L hr=>bZ hr f hs⟩
theorem GA.fin {B p:Nat} {w wA:World} {S z:List Nat} {X:Wd} {O:List Out} {V:Vs} {vo:Value} {Q:Vs->Prop} {r:Value} (h:GA B p w S wA X O z V vo) (q:Q V):GTo B p w S X O Q r (.returned r) wA:=
 ⟨z,V,vo,rfl,h.g,q,h.fr,h.sa⟩
theorem GA.plt {B p:Nat} {w h:World} {S z:List Nat} {X:Wd} {O:List Out} {V:Vs} {vo:Value} (E:GA B p w S h X O z V vo):p<h.heap.size:=E.g.plt
theorem GA.c {B p:Nat} {w h:World} {S z:List Nat} {X:Wd} {O:List Out} {V:Vs} {vo:Value} (E:GA B p w S h X O z V vo) (i:Nat) {v:Value} (I:(dz X V)[i]?=some v):h.cell? ⟨p,i,none⟩=some v:=E.g.gr.2.2.2.2 i v I
theorem GA.free {B p:Nat} {w h:World} {S z:List Nat} {X:Wd} {O:List Out} {V:Vs} {vo:Value} (E:GA B p w S h X O z V vo) (i:Nat):h.frozen? ⟨p,i,none⟩=false:=az E.g.bk i
theorem GA.cell {B p:Nat} {w J:World} {S E:List Nat} {X:Wd} {O:List Out} {V:Vs} {vo:Value} (I:GA B p w S J X O E V vo) (j:Nat) (u:Value) (z:Wd) (h:Vs)
  (hc:(dz X V++[vo]).toArray.setIfInBounds j u=(dz z h++[vo]).toArray) (K:z.flows=X.flows) (U:h.f=V.f) (W:z.health=X.health) (Y:h.h=V.h) (Z:h.m=V.m) (ro:oV (NI B E) J z h) :
  GA B p w S (J.setCell ⟨p,j,none⟩ u) z O E h vo:=I.same (iY I.g j u z h hc K U W Y Z ro) (di I.g.sp j u)
theorem GA.flow {B p:Nat} {w E:World} {S J:List Nat} {X:Wd} {O:List Out} {V:Vs} {vo:Value} (K:GA B p w S E X O J V vo) {g n c:Nat} (W:V.f=.slice (some ⟨g,0,none⟩) n c) {i:Nat} (I:i<X.flows.length) {f:Fl} (Z:X.flows.getD i Fl.zero=f) :
  n=X.flows.length/\g<E.heap.size/\g≠p/\g∈J/\(∀ j,E.frozen? ⟨g,j,none⟩=false)/\∀ j,j<7->E.cell? ⟨g,i*7+j,none⟩=(Fl.cells f)[j]?:=by
 have z:=K.g.of
 rw [W] at z
 have a0:=(z.lt g rfl).2
 obtain ⟨_,_,Y,_,_,_,pt⟩:=aO Fl.zero (aG z (by simp) (iU _)).1
 injection Y with e01 e02 e03
 obtain ⟨bf,a2,h,a1,q⟩:=pt (by intro hh;rw [hh] at I;simp at I)
 rw [<- e01] at h
 injection h with h
 injection h with h e2
 subst h e2
 subst e02
 have U:=K.g.sf g (by rw [W];rfl)
 exact ⟨rfl,a0,U.2,U.1,fun j=>z.frozenAt j,fun j hj=>by have:=q i j I hj;rw [Z] at this;simpa using this⟩
theorem GA.shape {B p:Nat} {w K:World} {S h:List Nat} {X:Wd} {O:List Out} {V:Vs} {vo:Value} (E:GA B p w S K X O h V vo) (J:X.flows≠[]):∃ g c,V.f=.slice (some ⟨g,0,none⟩) X.flows.length c:=by
 rcases fF E.g.of with ⟨_,I⟩|⟨g,c,z,_⟩
 ·exact absurd (List.length_eq_zero_iff.1 I) J
 ·exact ⟨g,c,z⟩
theorem GA.flset {B p:Nat} {w U:World} {S E:List Nat} {X:Wd} {O:List Out} {V:Vs} {vo:Value} (z:GA B p w S U X O E V vo) {g n c:Nat} (K:V.f=.slice (some ⟨g,0,none⟩) n c) (k:Nat) (u:Value) (h:List Fl) (J:h.length=X.flows.length)
  (I:(h.map Fl.cells).flatten=(X.flows.map Fl.cells).flatten.set k u):GA B p w S (U.setCell ⟨g,k,none⟩ u) { X with flows:=h } O E V vo:=
 z.same (nT z.g K k u h J I).1 (nT z.g K k u h J I).2
theorem GA.hrow {B p:Nat} {w K:World} {S U:List Nat} {X:Wd} {O:List Out} {V:Vs} {vo:Value} (E:GA B p w S K X O U V vo) (W:X.health≠[]) :
  ∃ g c,V.h=.slice (some ⟨g,0,none⟩) X.health.length c/\g<K.heap.size/\g≠p/\g∈U/\(∀ j,K.frozen? ⟨g,j,none⟩=false)/\∀ i,i<X.health.length->∀ j,j<4->K.cell? ⟨g,i*4+j,none⟩=(wD (V.m.getD i undef) (X.health.getD i Ht.zero))[j]?:=by
 have I:=eC E.g.ro.ml
 rcases fF E.g.oh with ⟨_,h0⟩|⟨g,c,z,_⟩
 ·exact absurd (List.length_eq_zero_iff.1 h0) W
 have J:=E.g.oh
 rw [z] at J
 have a0:=(J.lt g rfl).2
 have Y:=E.g.sh g (by rw [z];rfl)
 refine ⟨g,c,z,a0,Y.2.1,Y.1,fun j=>J.frozenAt j,fun i hi j hj=>?_⟩
 have hr:=(aG J I (ni X V)).1
 obtain ⟨a',c',h,_,_,_,h4⟩:=hr
 obtain ⟨b',o',Z,_,h6⟩:=h4 (by intro z;rw [z] at I;simp at I;exact W (List.length_eq_zero_iff.1 I.symm))
 injection h with h _ _
 rw [Z] at h
 injection h with h
 injection h with e1 e3
 subst e1 e3
 have:=h6 i j (by omega) hj
 rw [lE E.g.ro.ml hi,Nat.zero_add] at this
 exact this
theorem GA.hset {B p:Nat} {w E:World} {S h:List Nat} {X:Wd} {O:List Out} {V:Vs} {vo:Value} (z:GA B p w S E X O h V vo) {g n c:Nat} (K:V.h=.slice (some ⟨g,0,none⟩) n c) (i:Nat) (I:i<X.health.length) (x:Ht) (m:Value) (J:dj (NI B h) E 1 m (cN x.marks)) :
  GA B p w S ((((E.setCell ⟨g,i*4,none⟩ m).setCell ⟨g,i*4+1,none⟩ (.bool x.out)).setCell ⟨g,i*4+2,none⟩ (.int .i64 x.until_)).setCell ⟨g,i*4+3,none⟩ (.int .i64 x.times)) { X with health:=X.health.set i x } O h { V with m:=V.m.set i m } vo:=
 z.same (Ay z.g K i I x m J).1 (Ay z.g K i I x m J).2
theorem GA.more {B p:Nat} {w z w':World} {S E:List Nat} {X:Wd} {O:List Out} {V:Vs} {vo:Value} (h:GA B p w S z X O E V vo) (I:Below z.heap.size z w') (b:Nat) (J:z.heap.size<=b) (K:b<w'.heap.size):GA B p w S w' X O (b :: E) V vo:=
 ⟨I3 h.g I b J K,(h.below I).fr,fun W U=>(List.mem_cons.1 U).elim (fun Y=>Or.inr (by have:=h.fr.size;omega)) (h.sa W)⟩
theorem GA.no {B p:Nat} {w I:World} {S E:List Nat} {X:Wd} {O:List Out} {V:Vs} {vo:Value} (z:GA B p w S I X O E V vo) {b:Nat} (J:I.heap.size<=b):V.f.ownBlock≠some b/\V.h.ownBlock≠some b/\vo.ownBlock≠some b/\b∉E/\b≠p:=
 ⟨fun h=>by have:=(z.g.of.lt b h).2;omega,fun h=>by have:=(z.g.oh.lt b h).2;omega,fun h=>by have:=(z.g.oo.lt b h).2;omega,fun h=>by have:=z.g.sl b h;omega,fun h=>by have:=z.plt;omega⟩
structure vR (X:Wd):Prop where
 bk:bJ X.lives X.reqs
 hl:X.health.length=12
 ht:∀ i,i<12->gv X.cf.ww X.cf.wf X.cf.wh (X.health.getD i Ht.zero).marks.length (X.health.getD i Ht.zero).out (X.health.getD i Ht.zero).until_ (X.health.getD i Ht.zero).times X.now 0
 m0:0<=X.cf.most
 m1:X.cf.most<=100
def NoteQ (V:Vs) (h:Vs):Prop:=h.f=V.f
def Hx (B p:Nat) (w:World) (z:Wd) (O:List Out) (S:List Nat) (V:Vs) (vo:Value) (e:Ending) (w':World):Prop:=∃ m,e=.returned (.tuple #[])/\G B p w' z O S { V with m:=m } vo/\∀ h:List Nat,(∀ b,V.h.ownBlock=some b->b∈h)->Fr h w w'
theorem pi {B p:Nat} {w:World} {X:Wd} {O:List Out} {S:List Nat} {V:Vs} {vo:Value} (h:G B p w X O S V vo) (b:Nat) (hb:b<12) (failed:Bool) (hm:vR X) :
  Calls prog 81 #[.pointer (some ⟨p,0,none⟩),.int .i64 (b:Int),.bool failed] w (Hx B p w (ce X b failed) O S V vo):=by
 have U:=h.gr
 have ak:=U.c 19 (v:=V.l) rfl
 have x22:=U.c 22 (v:=V.h) rfl
 have x9:=U.c 9 (v:=.int .i64 X.cf.most) rfl
 have xf:∀ n,w.frozen? ⟨p,n,none⟩=false:=fun n=>az h.bk n
 obtain ⟨al,cl,el,_⟩:=ap U.1.li.1
 rw [el] at ak
 have HLv:=KL U.1.li.1
 rw [el] at HLv
 have W:=h.plt
 have Z:=KL h
 have HM:=KL hm
 have aL:=hm.hl
 have hL:=hm.bk.1
 rcases fF h.oh with ⟨_,h0⟩|⟨g,ch,eh,_⟩
 ·omega
 rw [eh,aL] at x22
 have HEh:=KL eh
 have af:=h.oh
 rw [eh] at af
 have a9:=(af.lt g rfl).2
 have b8:g≠p:=(h.sh g (by rw [eh];rfl)).2.1
 have b9:p≠g:=fun e=>b8 e.symm
 have Y:Hid (∀ i,i<12->∀ j,j<4->w.cell? ⟨g,i*4+j,none⟩=(wD (V.m.getD i undef) (X.health.getD i Ht.zero))[j]?):=fun i hi j hj=>by
  have hr:=(aG af (eC h.ro.ml) (ni X V)).1;obtain ⟨a',c',J,_,_,_,h4⟩:=hr;obtain ⟨b',o',e2,_,h6⟩:=h4 (by intro e;have:=eC h.ro.ml;rw [e] at this;simp at this;omega);rw [eC h.ro.ml] at J h6;injection J with J _ _;rw [e2] at J;injection J with J;injection J with e1 e3;subst e1 e3;have:=h6 i j (by omega) hj;rw [lE h.ro.ml (by omega),Nat.zero_add] at this;exact this
 have hn:¬ X.lives.length=0->∃ bl ol,al=some ⟨bl,ol,none⟩/\bl<w.heap.size/\∀ k j,k<X.lives.length->j<6->w.cell? ⟨bl,ol+k*6+j,none⟩=(X.lives.getD k Lf.zero).cells[j]?:=fun hne=>by
  exact Q88
 have HN:=KL hn
 clear h hm U el eh af hn
 go_in
 go_wp2_with fail
 go_loopw [6,7,22] (fun o a i wr=>∃ k:Nat,k<=X.lives.length/\i=.int .i64 k/\o=.int .i64 (zE (X.lives.take k) X.health)/\a=.int .i64 (yN (X.lives.take k))/\Below w.heap.size w wr) (fun _ _ i _=>X.lives.length - (intOf i).toNat)
 case atStart=>exact ⟨0,La _,rfl,rfl,rfl,KM _ _⟩
 case round=>
  obtain ⟨k,hk,rfl,rfl,rfl,z⟩:=hrel;have u1:=IP (X.lives.take k) X.health;have u2:=JM (X.lives.take k)
  have u3:(X.lives.take k).length<=k:=by simp;omega
  have bc:=z.size;have ak:=ah z ak W;have x22:=ah z x22 W;have bb:p<wr.heap.size:=by omega
  have U:g<wr.heap.size:=by omega
  rcases (show k<X.lives.length\/X.lives.length=k by omega) with ad|aT
  ·have ba:(k:Int)<(X.lives.length:Int):=by omega
   obtain ⟨bl,ol,rfl,aS,q⟩:=HN.out (by omega);obtain ⟨s,hs⟩:∃ s,s=X.lives.getD k Lf.zero:=⟨_,rfl⟩
   have hold:∀ j,j<6->wr.cell? ⟨bl,ol+k*6+j,none⟩=s.cells[j]?:=fun j hj=>by rw [z.cell (p:=⟨bl,ol+k*6+j,none⟩) aS,hs];exact q k j ad hj
   have e1:=DQ ad;have e2:=CD (H:=X.health) ad;rw [<- hs] at e1 e2;have E1:=KL e1;have E2:=KL e2;have ab:=(HM.out.bk.2.2.1 k ad).1;rw [<- hs] at ab;obtain ⟨s0,s1,s2,s3,s4,s5⟩:=s;have r0:=ab.1;have r1:=ab.2.1;simp only at r0 r1;obtain ⟨n,rfl⟩:=Lr r0;have rn:n<12:=by omega
   have a0:=hold 0 (by omega);have a1:=hold 1 (by omega);have a2:=hold 2 (by omega);have a3:=hold 3 (by omega);have a4:=hold 4 (by omega);have a5:=hold 5 (by omega);simp only [Lf.cells,Lb,Lc,Nat.add_zero] at a0 a1 a2 a3 a4 a5;have ao:=ah z (Y.out n rn 1 (by omega)) a9;obtain ⟨t,ht⟩:∃ t,t=(X.health.getD n Ht.zero).out:=⟨_,rfl⟩
   have aH:rA X.health (n:Int)=t:=by unfold rA;rw [Lm,ht]
   rw [<- ht] at ao;have HB:=KL z;have HT:=KL aH;clear hold hs q ab e1 e2 ht aH;by_cases I:s1=2
   ·subst I
    cases t with
    | true=>
     exact Q87
    | false=>
     exact Q87
   ·have hne:(s1 != 2)=true:=by simpa using I
    have HS:=KL I;clear I;go_wp2;go_roundw
    case rel=>exact ⟨k+1,by omega,by go_num,by rw [E2.out];have:=HS.out;simp [this],by rw [E1.out];have:=HS.out;simp [this],Zb⟩
    case measure=>simp [intOf];omega
  ·have hge:¬ (k:Int)<(X.lives.length:Int):=by omega
   have tk:X.lives.take k=X.lives:=Lo (by omega);rw [tk] at u1 u2 ⊢;obtain ⟨oc,av⟩:∃ oc,oc=zE X.lives X.health:=⟨_,rfl⟩;obtain ⟨ac,ar⟩:∃ ac,ac=yN X.lives:=⟨_,rfl⟩;rw [<- av] at u1 ⊢;rw [<- ar] at u1 u2 ⊢;have x9:=ah z x9 W;have x13:wr.cell? ⟨p,13,none⟩=some (.int .i64 X.cf.ww):=ah z (Z.out.gr.c 13 (v:=.int .i64 X.cf.ww) rfl) W;have x14:wr.cell? ⟨p,14,none⟩=some (.int .i64 X.cf.wf):=ah z (Z.out.gr.c 14 (v:=.int .i64 X.cf.wf) rfl) W;have x15:wr.cell? ⟨p,15,none⟩=some (.int .i64 X.cf.wh):=ah z (Z.out.gr.c 15 (v:=.int .i64 X.cf.wh) rfl) W;have x16:wr.cell? ⟨p,16,none⟩=some (.int .i64 X.now):=ah z (Z.out.gr.c 16 (v:=.int .i64 X.now) rfl) W
   have ay:Hid (DO X=decide (((oc:Int)+1)*100<=X.cf.most*(ac:Int))):=by unfold DO;rw [<- av,<- ar];rfl
   have k0:=ah z (Y.out b hb 0 (by omega)) a9;have k1:=ah z (Y.out b hb 1 (by omega)) a9;have k2:=ah z (Y.out b hb 2 (by omega)) a9;have k3:=ah z (Y.out b hb 3 (by omega)) a9;simp only [Nat.add_zero] at k0;have a7:=Z.out.ro.mr b (by omega);have a6:=HM.out.ht b hb;have m0:=HM.out.m0;have m1:=HM.out.m1;obtain ⟨may,au⟩:∃ may,may=(DO X && i8 X.lives b == 2):=⟨_,rfl⟩;obtain ⟨came,aa⟩:=Ax X.cf (X.health.getD b Ht.zero) failed X.now may a6;obtain ⟨N,hN⟩:∃ N,N=j9 X.cf (X.health.getD b Ht.zero) failed X.now may:=⟨_,rfl⟩
   have HNW:Hid (ce X b failed={ X with health:=X.health.set b N }):=by unfold ce;rw [hN,au];rfl
   rw [<- hN] at aa;obtain ⟨M0,aA⟩:∃ M0,M0=X.health.getD b Ht.zero:=⟨_,rfl⟩;rw [<- aA] at k1 k2 k3 a7 a6 aa;obtain ⟨mv,aF⟩:∃ mv,mv=V.m.getD b undef:=⟨_,rfl⟩;rw [<- aF] at k0 a7;obtain ⟨am,cm,rfl,_⟩:=fC a7.1;have hT:=(fJ a6).2.2.2.2.1;obtain ⟨M,out,u,T⟩:=M0;simp only at hT k0 k1 k2 k3 a7 a6 aa;obtain ⟨T,rfl⟩:=Lr hT;have ax:=KL (aq a7.1 z);have HHt:=KL a6;have HNa:=KL aa;have aw:=KL au;have bi:(b:Int)<12:=by omega
   clear tk av ar a7 a6 aa au hN aA aF ak aT;go_wp2_with (go_at_call 128;refine (uP _ _ _ _ (by omega) (by omega) (by omega) m0 m1).mono ?_;rw [<- ay.out];rintro e w1 ⟨rfl,hb1⟩);obtain ⟨wb,ag⟩:∃ wb,wb=w1:=⟨_,rfl⟩
   have a8:Below w.heap.size w wb:=by rw [ag];exact z.trans (hb1.mono z.size)
   have E:Below wr.heap.size wr wb:=by rw [ag];exact hb1
   rw [<- ag];clear ag hb1
   have hpb:p<wb.heap.size:=by have:=a8.size;omega
   have hgb:g<wb.heap.size:=by have:=a8.size;omega
   have x22:=ah E x22 (by omega);have x13:=ah E x13 (by omega);have x14:=ah E x14 (by omega);have x15:=ah E x15 (by omega);have x16:=ah E x16 (by omega);have k0:=ah E k0 (by omega);have k1:=ah E k1 (by omega);have k2:=ah E k2 (by omega);have k3:=ah E k3 (by omega);have HGb:=KL (dF Z.out a8);have HMb:=KL (aq ax.out E);have HFb:=KL a8;have b0:(0:Int)<=(b:Int):=by omega
   clear x9 E z a8 ax HN Y HLv;obtain ⟨N0,N1,N2,N3⟩:=N;simp only at HNa;obtain ⟨st,I⟩:∃ st,st=i8 X.lives (b:Int):=⟨_,rfl⟩;have HSt:=KL I;obtain ⟨a,ha⟩:∃ a,a=DO X:=⟨_,rfl⟩
   have an:Hid (may=(a && st == 2)):=by rw [I,ha];exact aw.out
   rw [<- ha];clear I ha aw ay
   cases a with
   | false=>
    obtain rfl:may=false:=an.out;refine Zr (fun w':World=>w'.cell? ⟨p,13,none⟩=some (.int .i64 X.cf.ww)/\w'.cell? ⟨p,14,none⟩=some (.int .i64 X.cf.wf)/\w'.cell? ⟨p,15,none⟩=some (.int .i64 X.cf.wh)/\w'.cell? ⟨p,16,none⟩=some (.int .i64 X.now)/\w'.cell? ⟨p,22,none⟩=some (.slice (some ⟨g,0,none⟩) 12 ch)/\w'.cell? ⟨g,b*4,none⟩=some (.slice am M.length cm)/\w'.cell? ⟨g,b*4+1,none⟩=some (.bool out)/\w'.cell? ⟨g,b*4+2,none⟩=some (.int .i64 u)/\w'.cell? ⟨g,b*4+3,none⟩=some (.int .i64 T)) (fun hHeld=>?_);refine eD 0 ?_;refine eD 8 ?_;refine eD 16 ?_;refine dl 24 ?_;refine Zt 26 ?_;refine Z2 27 32 (fun K hK=>?_) (fun K hK=>?_);(focus (go_simp;(first|(go_at_call 68;refine (ea (fT HGb.out.gr Zb) _ HM.out.bk).mono ?_;rw [<- HSt.out];rintro e w2 ⟨rfl,hb2⟩;have hz2:=hb2.size;(try simp at hz2);(try have bxb2:=aj hb2 (cO wb _) (dP wb _));(try dsimp only))|(go_at_call 129;refine (ed _ _ _ M out u T failed _ _ N0 N1 N2 N3 came _ _ (aq HMb.out Zb) HHt.out HNa.out).mono ?_;rintro e w3 ⟨v3,rfl,R3,hb3⟩;have hz3:=hb3.size;(try simp at hz3);obtain ⟨a3,c3,rfl,_⟩:=fC R3.1;(try (have bxb:=aj hb3 (cO wb _) (dP wb _);(have bx0:w3.cell? ⟨wb.heap.size,0,none⟩=some (.slice none 0 0):=ae bxb 0;have bx1:w3.cell? ⟨wb.heap.size,1,none⟩=some (.bool false):=ae bxb 1;have bx2:w3.cell? ⟨wb.heap.size,2,none⟩=some (.int .i64 0):=ae bxb 2;have bx3:w3.cell? ⟨wb.heap.size,3,none⟩=some (.int .i64 0):=ae bxb 3;have bxf:∀ n,w3.frozen? ⟨wb.heap.size,n,none⟩=false:=az bxb)));(try (have bxb:=aj hb3 (jR w2 _) (mM w2 _);(have bx0:w3.cell? ⟨w2.heap.size,0,none⟩=some (.slice none 0 0):=ae bxb 0;have bx1:w3.cell? ⟨w2.heap.size,1,none⟩=some (.bool false):=ae bxb 1;have bx2:w3.cell? ⟨w2.heap.size,2,none⟩=some (.int .i64 0):=ae bxb 2;have bx3:w3.cell? ⟨w2.heap.size,3,none⟩=some (.int .i64 0):=ae bxb 3;have bxf:∀ n,w3.frozen? ⟨w2.heap.size,n,none⟩=false:=az bxb)));(try (have bxb:=aj hb3 bxb2 (lt_of_block bxb2);(have bx0:w3.cell? ⟨wb.heap.size,0,none⟩=some (.slice none 0 0):=ae bxb 0;have bx1:w3.cell? ⟨wb.heap.size,1,none⟩=some (.bool false):=ae bxb 1;have bx2:w3.cell? ⟨wb.heap.size,2,none⟩=some (.int .i64 0):=ae bxb 2;have bx3:w3.cell? ⟨wb.heap.size,3,none⟩=some (.int .i64 0):=ae bxb 3;have bxf:∀ n,w3.frozen? ⟨wb.heap.size,n,none⟩=false:=az bxb)));(try dsimp only)));(try go_wp2_with fail);refine Zk hK fun hHeld=>?_;clear hK K;refine eY 28 ?_;refine Z1 32 (fun K hK=>?_);go_simp;refine Zk hK fun hHeld=>?_;clear hK K));rotate_left 1;(focus (go_simp;refine Zk hK fun hHeld=>?_;clear hK K;refine Z1 27 (fun K hK=>?_);go_simp;(first|(go_at_call 68;refine (ea (fT HGb.out.gr Zb) _ HM.out.bk).mono ?_;rw [<- HSt.out];rintro e w2 ⟨rfl,hb2⟩;have hz2:=hb2.size;(try simp at hz2);(try have bxb2:=aj hb2 (cO wb _) (dP wb _));(try dsimp only))|(go_at_call 129;refine (ed _ _ _ M out u T failed _ _ N0 N1 N2 N3 came _ _ (aq HMb.out Zb) HHt.out HNa.out).mono ?_;rintro e w3 ⟨v3,rfl,R3,hb3⟩;have hz3:=hb3.size;(try simp at hz3);obtain ⟨a3,c3,rfl,_⟩:=fC R3.1;(try (have bxb:=aj hb3 (cO wb _) (dP wb _);(have bx0:w3.cell? ⟨wb.heap.size,0,none⟩=some (.slice none 0 0):=ae bxb 0;have bx1:w3.cell? ⟨wb.heap.size,1,none⟩=some (.bool false):=ae bxb 1;have bx2:w3.cell? ⟨wb.heap.size,2,none⟩=some (.int .i64 0):=ae bxb 2;have bx3:w3.cell? ⟨wb.heap.size,3,none⟩=some (.int .i64 0):=ae bxb 3;have bxf:∀ n,w3.frozen? ⟨wb.heap.size,n,none⟩=false:=az bxb)));(try (have bxb:=aj hb3 (jR w2 _) (mM w2 _);(have bx0:w3.cell? ⟨w2.heap.size,0,none⟩=some (.slice none 0 0):=ae bxb 0;have bx1:w3.cell? ⟨w2.heap.size,1,none⟩=some (.bool false):=ae bxb 1;have bx2:w3.cell? ⟨w2.heap.size,2,none⟩=some (.int .i64 0):=ae bxb 2;have bx3:w3.cell? ⟨w2.heap.size,3,none⟩=some (.int .i64 0):=ae bxb 3;have bxf:∀ n,w3.frozen? ⟨w2.heap.size,n,none⟩=false:=az bxb)));(try (have bxb:=aj hb3 bxb2 (lt_of_block bxb2);(have bx0:w3.cell? ⟨wb.heap.size,0,none⟩=some (.slice none 0 0):=ae bxb 0;have bx1:w3.cell? ⟨wb.heap.size,1,none⟩=some (.bool false):=ae bxb 1;have bx2:w3.cell? ⟨wb.heap.size,2,none⟩=some (.int .i64 0):=ae bxb 2;have bx3:w3.cell? ⟨wb.heap.size,3,none⟩=some (.int .i64 0):=ae bxb 3;have bxf:∀ n,w3.frozen? ⟨wb.heap.size,n,none⟩=false:=az bxb)));(try dsimp only)));(try go_wp2_with fail);refine Zk hK fun hHeld=>?_;clear hK K;refine eY 28 ?_));rotate_left 1;(all_goals (refine Z1 33 (fun K hK=>?_);go_simp;refine Zk hK fun hHeld=>?_;clear hK K;refine dl 34 ?_));(all_goals refine Zd ?_)
    ·refine bA _ (fun wz hwz=>?_)
     have hbz:Below wb.heap.size wb wz:=by rw [hwz];exact (KS (KN (KM _ _)) (hb3.mono (by simp))).alloc (by omega) _
     have hrz:aN wb.heap.size wz 1 (.slice a3 N0.length c3) (cN N0):=by rw [hwz];exact cX (aJ R3 (by simp)) _
     obtain ⟨nb,hnb⟩:∃ nb,nb=w3.heap.size:=⟨_,rfl⟩
     have hnz:wz.heap[nb]?=some (.cells #[.slice a3 N0.length c3,.bool N1,.int .i64 N2,.int .i64 N3] 162 (0,0)):=by rw [hwz];exact aB _ hnb
     have hge:wb.heap.size<=nb:=by omega
     rw [<- hnb];clear hwz hnb R3 hb3;exact Q5
    ·refine bA _ (fun wz hwz=>?_);have hba:Below wb.heap.size wb w3:=KS (KN ((KM _ _).alloc (KY _) _)) (hb3.mono (by simp))
     have hbz:Below wb.heap.size wb wz:=by rw [hwz];exact (((hba.setCell (KY _) _).setCell (KY _) _).setCell (KY _) _).setCell (KY _) _
     have hrz:aN wb.heap.size wz 1 (.slice a3 N0.length c3) (cN N0):=by rw [hwz];exact aJ (aD (aD (aD (aD R3 (by simp;try omega) _) (by simp;try omega) _) (by simp;try omega) _) (by simp;try omega) _) (by simp)
     obtain ⟨nb,hnb⟩:∃ nb,nb=wb.heap.size:=⟨_,rfl⟩
     have hnz:wz.heap[nb]?=some (.cells #[.slice a3 N0.length c3,.bool N1,.int .i64 N2,.int .i64 N3] 162 (0,0)):=by rw [hwz,hnb];exact aR (j:=3) (aR (j:=2) (aR (j:=1) (aR (j:=0) bxb (.slice a3 N0.length c3)) (.bool N1)) (.int .i64 N2)) (.int .i64 N3)
     have hge:wb.heap.size<=nb:=by omega
     clear bx0 bx1 bx2 bx3 bxf bxb;rw [<- hnb];clear hwz hnb R3 hb3 hba;exact Q5
   | true=>
    by_cases hs2:st=2
    ·subst hs2;obtain rfl:may=true:=an.out;exact Q1
    ·have hne:(st == 2)=false:=by simpa using hs2
     obtain rfl:may=false:=by rw [an.out,hne];rfl
     clear hs2;exact Q1
theorem zv {B p:Nat} {w:World} {X:Wd} {O:List Out} {S:List Nat} {V:Vs} {vo:Value} (E:G B p w X O S V vo) (b:Nat) (z:b<12) (h:Bool) (U:vR X) :
  Calls prog 81 #[.pointer (some ⟨p,0,none⟩),.int .i64 (b:Int),.bool h] w (GTo B p w S (ce X b h) O (NoteQ V) (.tuple #[])):=
 (pi E b z h U).mono fun _ _ ⟨m,I,K,J⟩=>⟨S,{ V with m:=m },vo,I,K,rfl,J S (fun b z=>(E.sh b z).1),fun _ W=>Or.inl W⟩
end
end Go.Proofs.YtennppmadmgfoaaGreatDoor
