/- Texts of the row's proof. Conditions: none. -/
import Derived.Test.YtfliffgmeobclaaGreatK20
import Derived.Test.YtfliffgmeobclaaGreatK27
namespace Go.Proofs.YtfliffgmeobclaaGreat
set_option maxRecDepth 100000
set_option maxHeartbeats 8000000
section
open Go.RowKit
theorem Q61 {p:Prop} (h:p:=by
 have x22:=ah hbz x22 hpb;have n0:wz.cell? ⟨nb,0,none⟩=some (.slice a3 N0.length c3):=ae hnz 0;have n1:wz.cell? ⟨nb,1,none⟩=some (.bool N1):=ae hnz 1;have n2:wz.cell? ⟨nb,2,none⟩=some (.int .i64 N2):=ae hnz 2;have n3:wz.cell? ⟨nb,3,none⟩=some (.int .i64 N3):=ae hnz 3;have gf:∀ n,wz.frozen? ⟨g,n,none⟩=false:=(fun n=>(by have h:=HGz.out.oh;rw [HEh.out] at h;exact h.frozenAt n));have hn1:¬ nb=g:=(by omega);have hn2:¬ g=nb:=(by omega);have HRz:=Hu (dm HGb.out hrz (I3 _));have HFz:=Hu (HFb.out.trans (hbz.mono HFb.out.size));have k0:=ah hbz k0 hgb;have k1:=ah hbz k1 hgb;have k2:=ah hbz k2 hgb;have k3:=ah hbz k3 hgb;clear hrz hbz hnz HFb HGb x13 x14 x15 x16;go_wp2_with fail;refine Zr (fun w':World=>w'.cell? ⟨p,22,none⟩=some (.slice (some ⟨g,0,none⟩) 12 ch)∧w'.cell? ⟨nb,0,none⟩=some (.slice a3 N0.length c3)∧w'.cell? ⟨nb,1,none⟩=some (.bool N1)∧w'.cell? ⟨nb,2,none⟩=some (.int .i64 N2)∧w'.cell? ⟨nb,3,none⟩=some (.int .i64 N3)) (fun hHeld=>?_);refine ep 0 ?_;refine Z1 8 (fun K hK=>?_);go_simp;refine Zk hK fun hHeld=>?_;clear hK K;refine Zd ?_;go_wp2_with fail;have hb':b<X.health.length:=(by omega);refine Ix (v:=.tuple #[]) (by simp [results,Tryz.results77,go_sem]) rfl ⟨V.m.set b (.slice a3 N0.length c3),rfl,?_,fun S2 hS2=>?_⟩;(focus (rw [HNW.out];exact dB (yO HGz.out HEh.out b hb' ⟨N0,N1,N2,N3⟩ _ HRz.out).1 (Hx (Hv _ _))));have hg2:g∈S2:=hS2 g (by rw [HEh.out];rfl);exact (Fr.of_below HFz.out:Fr S2 w wz).trans (((((cZ hg2 _ _).trans (cZ hg2 _ _) (fun _ hx=>Or.inl hx)).trans (cZ hg2 _ _) (fun _ hx=>Or.inl hx)).trans (cZ hg2 _ _) (fun _ hx=>Or.inl hx)).trans (Fr.of_below (S:=S2) (Hx (Hv _ _))) (fun _ hx=>Or.inl hx)) (fun _ hx=>Or.inl hx)):p:=h
theorem Q141 {p:Prop} (h:p:=by
 rw [← hnb];clear hwz hnb R3 hb3 hb2 hba hz2 hz3 hle;have HGz:=Hu (dB HGb.out hbz);exact Q61):p:=h
theorem Q1 {p:Prop} (h:p:=by
 refine Zr (fun w':World=>w'.cell? ⟨p,13,none⟩=some (.int .i64 X.cf.ww)∧w'.cell? ⟨p,14,none⟩=some (.int .i64 X.cf.wf)∧w'.cell? ⟨p,15,none⟩=some (.int .i64 X.cf.wh)∧w'.cell? ⟨p,16,none⟩=some (.int .i64 X.now)∧w'.cell? ⟨p,22,none⟩=some (.slice (some ⟨g,0,none⟩) 12 ch)∧w'.cell? ⟨g,b*4,none⟩=some (.slice am M.length cm)∧w'.cell? ⟨g,b*4+1,none⟩=some (.bool out)∧w'.cell? ⟨g,b*4+2,none⟩=some (.int .i64 u)∧w'.cell? ⟨g,b*4+3,none⟩=some (.int .i64 T)) (fun hHeld=>?_);refine ep 0 ?_;refine ep 8 ?_;refine ep 16 ?_;refine Z2 24 32 (fun K hK=>?_) (fun K hK=>?_);(focus (go_simp;(first|(go_at_call 64;refine (dY (fM HGb.out.gr Zb) _ HM.out.bk).mono ?_;rw [← HSt.out];rintro e w2 ⟨rfl,hb2⟩;have hz2:=hb2.size;(try simp at hz2);(try have bxb2:=aj hb2 (cJ wb _) (dL wb _));(try dsimp only))|(go_at_call 125;refine (dZ _ _ _ M out u T failed _ _ N0 N1 N2 N3 came _ _ (au HMb.out Zb) HHt.out HNa.out).mono ?_;rintro e w3 ⟨v3,rfl,R3,hb3⟩;have hz3:=hb3.size;(try simp at hz3);obtain ⟨a3,c3,rfl,_⟩:=fq R3.1;(try (have bxb:=aj hb3 (cJ wb _) (dL wb _);(have bx0:w3.cell? ⟨wb.heap.size,0,none⟩=some (.slice none 0 0):=ae bxb 0;have bx1:w3.cell? ⟨wb.heap.size,1,none⟩=some (.bool false):=ae bxb 1;have bx2:w3.cell? ⟨wb.heap.size,2,none⟩=some (.int .i64 0):=ae bxb 2;have bx3:w3.cell? ⟨wb.heap.size,3,none⟩=some (.int .i64 0):=ae bxb 3;have bxf:∀ n,w3.frozen? ⟨wb.heap.size,n,none⟩=false:=ap bxb)));(try (have bxb:=aj hb3 (jG w2 _) (ma w2 _);(have bx0:w3.cell? ⟨w2.heap.size,0,none⟩=some (.slice none 0 0):=ae bxb 0;have bx1:w3.cell? ⟨w2.heap.size,1,none⟩=some (.bool false):=ae bxb 1;have bx2:w3.cell? ⟨w2.heap.size,2,none⟩=some (.int .i64 0):=ae bxb 2;have bx3:w3.cell? ⟨w2.heap.size,3,none⟩=some (.int .i64 0):=ae bxb 3;have bxf:∀ n,w3.frozen? ⟨w2.heap.size,n,none⟩=false:=ap bxb)));(try (have bxb:=aj hb3 bxb2 (lt_of_block bxb2);(have bx0:w3.cell? ⟨wb.heap.size,0,none⟩=some (.slice none 0 0):=ae bxb 0;have bx1:w3.cell? ⟨wb.heap.size,1,none⟩=some (.bool false):=ae bxb 1;have bx2:w3.cell? ⟨wb.heap.size,2,none⟩=some (.int .i64 0):=ae bxb 2;have bx3:w3.cell? ⟨wb.heap.size,3,none⟩=some (.int .i64 0):=ae bxb 3;have bxf:∀ n,w3.frozen? ⟨wb.heap.size,n,none⟩=false:=ap bxb)));(try dsimp only)));(try go_wp2_with fail);refine Zk hK fun hHeld=>?_;clear hK K;refine df 25 ?_;refine Z2 27 32 (fun K hK=>?_) (fun K hK=>?_);(focus (go_simp;(first|(go_at_call 64;refine (dY (fM HGb.out.gr Zb) _ HM.out.bk).mono ?_;rw [← HSt.out];rintro e w2 ⟨rfl,hb2⟩;have hz2:=hb2.size;(try simp at hz2);(try have bxb2:=aj hb2 (cJ wb _) (dL wb _));(try dsimp only))|(go_at_call 125;refine (dZ _ _ _ M out u T failed _ _ N0 N1 N2 N3 came _ _ (au HMb.out Zb) HHt.out HNa.out).mono ?_;rintro e w3 ⟨v3,rfl,R3,hb3⟩;have hz3:=hb3.size;(try simp at hz3);obtain ⟨a3,c3,rfl,_⟩:=fq R3.1;(try (have bxb:=aj hb3 (cJ wb _) (dL wb _);(have bx0:w3.cell? ⟨wb.heap.size,0,none⟩=some (.slice none 0 0):=ae bxb 0;have bx1:w3.cell? ⟨wb.heap.size,1,none⟩=some (.bool false):=ae bxb 1;have bx2:w3.cell? ⟨wb.heap.size,2,none⟩=some (.int .i64 0):=ae bxb 2;have bx3:w3.cell? ⟨wb.heap.size,3,none⟩=some (.int .i64 0):=ae bxb 3;have bxf:∀ n,w3.frozen? ⟨wb.heap.size,n,none⟩=false:=ap bxb)));(try (have bxb:=aj hb3 (jG w2 _) (ma w2 _);(have bx0:w3.cell? ⟨w2.heap.size,0,none⟩=some (.slice none 0 0):=ae bxb 0;have bx1:w3.cell? ⟨w2.heap.size,1,none⟩=some (.bool false):=ae bxb 1;have bx2:w3.cell? ⟨w2.heap.size,2,none⟩=some (.int .i64 0):=ae bxb 2;have bx3:w3.cell? ⟨w2.heap.size,3,none⟩=some (.int .i64 0):=ae bxb 3;have bxf:∀ n,w3.frozen? ⟨w2.heap.size,n,none⟩=false:=ap bxb)));(try (have bxb:=aj hb3 bxb2 (lt_of_block bxb2);(have bx0:w3.cell? ⟨wb.heap.size,0,none⟩=some (.slice none 0 0):=ae bxb 0;have bx1:w3.cell? ⟨wb.heap.size,1,none⟩=some (.bool false):=ae bxb 1;have bx2:w3.cell? ⟨wb.heap.size,2,none⟩=some (.int .i64 0):=ae bxb 2;have bx3:w3.cell? ⟨wb.heap.size,3,none⟩=some (.int .i64 0):=ae bxb 3;have bxf:∀ n,w3.frozen? ⟨wb.heap.size,n,none⟩=false:=ap bxb)));(try dsimp only)));(try go_wp2_with fail);refine Zk hK fun hHeld=>?_;clear hK K;refine eP 28 ?_;refine Z1 32 (fun K hK=>?_);go_simp;refine Zk hK fun hHeld=>?_;clear hK K));rotate_left 1;(focus (go_simp;refine Zk hK fun hHeld=>?_;clear hK K;refine Z1 27 (fun K hK=>?_);go_simp;(first|(go_at_call 64;refine (dY (fM HGb.out.gr Zb) _ HM.out.bk).mono ?_;rw [← HSt.out];rintro e w2 ⟨rfl,hb2⟩;have hz2:=hb2.size;(try simp at hz2);(try have bxb2:=aj hb2 (cJ wb _) (dL wb _));(try dsimp only))|(go_at_call 125;refine (dZ _ _ _ M out u T failed _ _ N0 N1 N2 N3 came _ _ (au HMb.out Zb) HHt.out HNa.out).mono ?_;rintro e w3 ⟨v3,rfl,R3,hb3⟩;have hz3:=hb3.size;(try simp at hz3);obtain ⟨a3,c3,rfl,_⟩:=fq R3.1;(try (have bxb:=aj hb3 (cJ wb _) (dL wb _);(have bx0:w3.cell? ⟨wb.heap.size,0,none⟩=some (.slice none 0 0):=ae bxb 0;have bx1:w3.cell? ⟨wb.heap.size,1,none⟩=some (.bool false):=ae bxb 1;have bx2:w3.cell? ⟨wb.heap.size,2,none⟩=some (.int .i64 0):=ae bxb 2;have bx3:w3.cell? ⟨wb.heap.size,3,none⟩=some (.int .i64 0):=ae bxb 3;have bxf:∀ n,w3.frozen? ⟨wb.heap.size,n,none⟩=false:=ap bxb)));(try (have bxb:=aj hb3 (jG w2 _) (ma w2 _);(have bx0:w3.cell? ⟨w2.heap.size,0,none⟩=some (.slice none 0 0):=ae bxb 0;have bx1:w3.cell? ⟨w2.heap.size,1,none⟩=some (.bool false):=ae bxb 1;have bx2:w3.cell? ⟨w2.heap.size,2,none⟩=some (.int .i64 0):=ae bxb 2;have bx3:w3.cell? ⟨w2.heap.size,3,none⟩=some (.int .i64 0):=ae bxb 3;have bxf:∀ n,w3.frozen? ⟨w2.heap.size,n,none⟩=false:=ap bxb)));(try (have bxb:=aj hb3 bxb2 (lt_of_block bxb2);(have bx0:w3.cell? ⟨wb.heap.size,0,none⟩=some (.slice none 0 0):=ae bxb 0;have bx1:w3.cell? ⟨wb.heap.size,1,none⟩=some (.bool false):=ae bxb 1;have bx2:w3.cell? ⟨wb.heap.size,2,none⟩=some (.int .i64 0):=ae bxb 2;have bx3:w3.cell? ⟨wb.heap.size,3,none⟩=some (.int .i64 0):=ae bxb 3;have bxf:∀ n,w3.frozen? ⟨wb.heap.size,n,none⟩=false:=ap bxb)));(try dsimp only)));(try go_wp2_with fail);refine Zk hK fun hHeld=>?_;clear hK K;refine eP 28 ?_));rotate_left 1));rotate_left 2;(focus (go_simp;refine Zk hK fun hHeld=>?_;clear hK K;refine Z1 24 (fun K hK=>?_);go_simp;(first|(go_at_call 64;refine (dY (fM HGb.out.gr Zb) _ HM.out.bk).mono ?_;rw [← HSt.out];rintro e w2 ⟨rfl,hb2⟩;have hz2:=hb2.size;(try simp at hz2);(try have bxb2:=aj hb2 (cJ wb _) (dL wb _));(try dsimp only))|(go_at_call 125;refine (dZ _ _ _ M out u T failed _ _ N0 N1 N2 N3 came _ _ (au HMb.out Zb) HHt.out HNa.out).mono ?_;rintro e w3 ⟨v3,rfl,R3,hb3⟩;have hz3:=hb3.size;(try simp at hz3);obtain ⟨a3,c3,rfl,_⟩:=fq R3.1;(try (have bxb:=aj hb3 (cJ wb _) (dL wb _);(have bx0:w3.cell? ⟨wb.heap.size,0,none⟩=some (.slice none 0 0):=ae bxb 0;have bx1:w3.cell? ⟨wb.heap.size,1,none⟩=some (.bool false):=ae bxb 1;have bx2:w3.cell? ⟨wb.heap.size,2,none⟩=some (.int .i64 0):=ae bxb 2;have bx3:w3.cell? ⟨wb.heap.size,3,none⟩=some (.int .i64 0):=ae bxb 3;have bxf:∀ n,w3.frozen? ⟨wb.heap.size,n,none⟩=false:=ap bxb)));(try (have bxb:=aj hb3 (jG w2 _) (ma w2 _);(have bx0:w3.cell? ⟨w2.heap.size,0,none⟩=some (.slice none 0 0):=ae bxb 0;have bx1:w3.cell? ⟨w2.heap.size,1,none⟩=some (.bool false):=ae bxb 1;have bx2:w3.cell? ⟨w2.heap.size,2,none⟩=some (.int .i64 0):=ae bxb 2;have bx3:w3.cell? ⟨w2.heap.size,3,none⟩=some (.int .i64 0):=ae bxb 3;have bxf:∀ n,w3.frozen? ⟨w2.heap.size,n,none⟩=false:=ap bxb)));(try (have bxb:=aj hb3 bxb2 (lt_of_block bxb2);(have bx0:w3.cell? ⟨wb.heap.size,0,none⟩=some (.slice none 0 0):=ae bxb 0;have bx1:w3.cell? ⟨wb.heap.size,1,none⟩=some (.bool false):=ae bxb 1;have bx2:w3.cell? ⟨wb.heap.size,2,none⟩=some (.int .i64 0):=ae bxb 2;have bx3:w3.cell? ⟨wb.heap.size,3,none⟩=some (.int .i64 0):=ae bxb 3;have bxf:∀ n,w3.frozen? ⟨wb.heap.size,n,none⟩=false:=ap bxb)));(try dsimp only)));(try go_wp2_with fail);refine Zk hK fun hHeld=>?_;clear hK K;refine df 25 ?_;refine Z1 27 (fun K hK=>?_);go_simp;(first|(go_at_call 64;refine (dY (fM HGb.out.gr Zb) _ HM.out.bk).mono ?_;rw [← HSt.out];rintro e w2 ⟨rfl,hb2⟩;have hz2:=hb2.size;(try simp at hz2);(try have bxb2:=aj hb2 (cJ wb _) (dL wb _));(try dsimp only))|(go_at_call 125;refine (dZ _ _ _ M out u T failed _ _ N0 N1 N2 N3 came _ _ (au HMb.out Zb) HHt.out HNa.out).mono ?_;rintro e w3 ⟨v3,rfl,R3,hb3⟩;have hz3:=hb3.size;(try simp at hz3);obtain ⟨a3,c3,rfl,_⟩:=fq R3.1;(try (have bxb:=aj hb3 (cJ wb _) (dL wb _);(have bx0:w3.cell? ⟨wb.heap.size,0,none⟩=some (.slice none 0 0):=ae bxb 0;have bx1:w3.cell? ⟨wb.heap.size,1,none⟩=some (.bool false):=ae bxb 1;have bx2:w3.cell? ⟨wb.heap.size,2,none⟩=some (.int .i64 0):=ae bxb 2;have bx3:w3.cell? ⟨wb.heap.size,3,none⟩=some (.int .i64 0):=ae bxb 3;have bxf:∀ n,w3.frozen? ⟨wb.heap.size,n,none⟩=false:=ap bxb)));(try (have bxb:=aj hb3 (jG w2 _) (ma w2 _);(have bx0:w3.cell? ⟨w2.heap.size,0,none⟩=some (.slice none 0 0):=ae bxb 0;have bx1:w3.cell? ⟨w2.heap.size,1,none⟩=some (.bool false):=ae bxb 1;have bx2:w3.cell? ⟨w2.heap.size,2,none⟩=some (.int .i64 0):=ae bxb 2;have bx3:w3.cell? ⟨w2.heap.size,3,none⟩=some (.int .i64 0):=ae bxb 3;have bxf:∀ n,w3.frozen? ⟨w2.heap.size,n,none⟩=false:=ap bxb)));(try (have bxb:=aj hb3 bxb2 (lt_of_block bxb2);(have bx0:w3.cell? ⟨wb.heap.size,0,none⟩=some (.slice none 0 0):=ae bxb 0;have bx1:w3.cell? ⟨wb.heap.size,1,none⟩=some (.bool false):=ae bxb 1;have bx2:w3.cell? ⟨wb.heap.size,2,none⟩=some (.int .i64 0):=ae bxb 2;have bx3:w3.cell? ⟨wb.heap.size,3,none⟩=some (.int .i64 0):=ae bxb 3;have bxf:∀ n,w3.frozen? ⟨wb.heap.size,n,none⟩=false:=ap bxb)));(try dsimp only)));(try go_wp2_with fail);refine Zk hK fun hHeld=>?_;clear hK K;refine eP 28 ?_));rotate_left 1;(all_goals (refine Z1 33 (fun K hK=>?_);go_simp;refine Zk hK fun hHeld=>?_;clear hK K;refine df 34 ?_));(all_goals refine Zd ?_)
 ·refine aY _ (fun wz hwz=>?_);have hbz:Below wb.heap.size wb wz:=(by rw [hwz];exact ((I0 (Hx (Hv _ _)) (hb2.mono (by simp))).trans (hb3.mono (by (try simp);omega))).alloc (by (try simp);omega) _);have hrz:aM wb.heap.size wz 1 (.slice a3 N0.length c3) (cI N0):=(by rw [hwz];exact cR (aG R3 (by (try simp);omega)) _);obtain ⟨nb,hnb⟩:∃ nb,nb=w3.heap.size:=⟨_,rfl⟩;have hnz:wz.heap[nb]?=some (.cells #[.slice a3 N0.length c3,.bool N1,.int .i64 N2,.int .i64 N3] 129 (0,0)):=(by rw [hwz];exact az _ hnb);have hge:wb.heap.size≤nb:=(by (try simp);omega);rw [← hnb];clear hwz hnb R3 hb3 hb2 hz2 hz3;have HGz:=Hu (dB HGb.out hbz);exact Q61
 ·refine aY _ (fun wz hwz=>?_);have hba:Below wb.heap.size wb w3:=((I0 (Hx (Hv _ _)) (hb2.mono (by simp))).alloc (by (try simp);omega) _).trans (hb3.mono (by (try simp);omega));have hle:wb.heap.size≤w2.heap.size:=(by (try simp);omega);have hbz:Below wb.heap.size wb wz:=(by rw [hwz];exact (((hba.setCell hle _).setCell hle _).setCell hle _).setCell hle _);have hrz:aM wb.heap.size wz 1 (.slice a3 N0.length c3) (cI N0):=(by rw [hwz];exact aG (aB (aB (aB (aB R3 (by simp;try omega) _) (by simp;try omega) _) (by simp;try omega) _) (by simp;try omega) _) (by simp;omega));obtain ⟨nb,hnb⟩:∃ nb,nb=w2.heap.size:=⟨_,rfl⟩;have hnz:wz.heap[nb]?=some (.cells #[.slice a3 N0.length c3,.bool N1,.int .i64 N2,.int .i64 N3] 129 (0,0)):=(by rw [hwz,hnb];exact aP (j:=3) (aP (j:=2) (aP (j:=1) (aP (j:=0) bxb (.slice a3 N0.length c3)) (.bool N1)) (.int .i64 N2)) (.int .i64 N3));have hge:wb.heap.size≤nb:=(by omega);clear bx0 bx1 bx2 bx3 bxf bxb;exact Q141
 ·refine aY _ (fun wz hwz=>?_);have hba:Below wb.heap.size wb w3:=(I0 (Hx ((Hv _ _).alloc (I3 _) _)) (hb2.mono (by simp))).trans (hb3.mono (by (try simp);omega));have hle:wb.heap.size≤wb.heap.size:=I3 _;have hbz:Below wb.heap.size wb wz:=(by rw [hwz];exact (((hba.setCell hle _).setCell hle _).setCell hle _).setCell hle _);have hrz:aM wb.heap.size wz 1 (.slice a3 N0.length c3) (cI N0):=(by rw [hwz];exact aG (aB (aB (aB (aB R3 (by (try simp);omega) _) (by (try simp);omega) _) (by (try simp);omega) _) (by (try simp);omega) _) (by (try simp);omega));obtain ⟨nb,hnb⟩:∃ nb,nb=wb.heap.size:=⟨_,rfl⟩;have hnz:wz.heap[nb]?=some (.cells #[.slice a3 N0.length c3,.bool N1,.int .i64 N2,.int .i64 N3] 129 (0,0)):=(by rw [hwz,hnb];exact aP (j:=3) (aP (j:=2) (aP (j:=1) (aP (j:=0) bxb (.slice a3 N0.length c3)) (.bool N1)) (.int .i64 N2)) (.int .i64 N3));have hge:wb.heap.size≤nb:=(by omega);clear bx0 bx1 bx2 bx3 bxf bxb bxb2;exact Q141):p:=h
theorem Q5 {p:Prop} (h:p:=by
 have HGz:=Hu (dB HGb.out hbz);exact Q61):p:=h
theorem Q15 {p:Prop} (h:p:=by
 intro v' w1 hown' hgrow _;have hB:=sc (by (try simp);omega) hown hgrow;obtain ⟨a',cap',rfl,_,_⟩:=aC hown';have HB2:=Hu (HBv.out.trans (hB.mono (by omega)));have HO2:=Hu hown';clear hown' hgrow hB hown;go_wp2;go_roundw
 case rel=>
  refine ⟨k+1,by omega,by go_num,HB2.out,a',cap',?_,?_⟩
  ·rw [HYe.out (by trivial)];simp
  ·rw [HYe.out (by trivial),HLd.out,FO];simpa using HO2.out
 case measure=>simp [intOf];omega):p:=h
theorem Q47 {p:Prop} (h:p:=by
 injection e0 with e01 _ _;obtain ⟨b1,o1,e1,h1,q⟩:=pt (by intro e;rw [e] at hne;simp at hne);exact ⟨b1,o1,e01.trans e1,h1,q⟩):p:=h
theorem Q98 {p:Prop} (h:p:=by
 go_wp2;go_quiet (fail);go_wp2;go_roundw
 case rel=>exact ⟨k+1,by omega,by go_num,by rw [E2.out];(try simp only);rw [HT.out];simp,by rw [E1.out];simp,Zb⟩
 case measure=>simp [intOf];omega):p:=h
theorem Q112 {p:Prop} (h:p:=by
 unfold iR;rw [Ia hk,List.filter_append,Ir]
 have e:X.lives[k]=x:=by rw [hx];simp [List.getD,hk]
 rw [e];simp [h]):p:=h
theorem aY {Q:World→Prop} (w:World) (h:∀ w',w'=w→Q w'):Q w:=h w rfl
theorem Hc {P F:Nat→World→Prop} {T:Prop} (h:(∀ b w,F b w→P b w)→T) (key:∀ b w,F b w→P b w):T:=h key
theorem join1 {P F:World→Prop} {T:Prop} (h:(∀ w,F w→P w)→T) (key:∀ w,F w→P w):T:=h key
theorem Hb {α β γ δ ε:Type} {P F:α→β→γ→δ→ε→World→Prop} {T:Prop} (h:(∀ a b c d e w,F a b c d e w→P a b c d e w)→T) (key:∀ a b c d e w,F a b c d e w→P a b c d e w):T:=h key
theorem join8 {α β γ δ ε ζ η:Type} {P F:α→β→γ→δ→ε→ζ→η→World→Prop} {T:Prop} (h:(∀ a b c d e f g w,F a b c d e f g w→P a b c d e f g w)→T) (key:∀ a b c d e f g w,F a b c d e f g w→P a b c d e f g w):T:=h key
theorem eV {P:Program} {F:Nat} {args:Array Value} {Q:Ending→World→Prop} (w:World) (h:∀ w',w'=w→Calls P F args w' Q):Calls P F args w Q:=h w rfl
theorem cJ (w:World) (o:Obj):((w.alloc o).drew).heap[w.heap.size]?=some o:=az o rfl
theorem jG (w:World) (o:Obj):(w.alloc o).heap[w.heap.size]?=some o:=az o rfl
theorem dL (w:World) (o:Obj):w.heap.size<((w.alloc o).drew).heap.size:=by simp
theorem ma (w:World) (o:Obj):w.heap.size<(w.alloc o).heap.size:=by simp
theorem im {w:World} {b o i:Nat} {u:Value} (h:i≠o):(w.setCell ⟨b,i,none⟩ u).cell? ⟨b,o,none⟩=w.cell? ⟨b,o,none⟩:=by
 simp only [World.cell?,World.setCell,Array.getElem?_modify,if_true]
 cases w.heap[b]? with
 | none=>rfl
 | some x=>cases x<;>simp [h]
structure GA (B p:Nat) (w:World) (S:List Nat) (wA:World) (X:Wd) (O:List Out) (SA:List Nat) (V:Vs) (vo:Value):Prop where
 g:G B p wA X O SA V vo
 fr:Fr S w wA
 sa:∀ x∈SA,x∈S∨w.heap.size≤x
theorem GA.start {B p:Nat} {w:World} {X:Wd} {O:List Out} {S:List Nat} {V:Vs} {vo:Value} (h:G B p w X O S V vo):GA B p w S w X O S V vo:=⟨h,Fr.refl _ _,fun _ hx=>Or.inl hx⟩
theorem GA.below {B p:Nat} {w wA w':World} {S SA:List Nat} {X:Wd} {O:List Out} {V:Vs} {vo:Value} (h:GA B p w S wA X O SA V vo) (hb:Below wA.heap.size wA w'):GA B p w S w' X O SA V vo:=
 ⟨dB h.g hb,h.fr.trans (Fr.of_below hb:Fr S wA w') (fun _ hx=>Or.inl hx),h.sa⟩
theorem GA.step {B p:Nat} {w wA w':World} {S SA SB:List Nat} {X X':Wd} {O O':List Out} {V V':Vs} {vo vo':Value} (h:GA B p w S wA X O SA V vo) (g:G B p w' X' O' SB V' vo') (f:Fr SA wA w') (hs:∀ x∈SB,x∈SA∨wA.heap.size≤x):GA B p w S w' X' O' SB V' vo':=
 ⟨g,h.fr.trans f h.sa,fun x hx=>(hs x hx).elim (h.sa x) (fun hx=>Or.inr (Iq h.fr.size hx))⟩
theorem GA.same {B p:Nat} {w wA w':World} {S SA:List Nat} {X X':Wd} {O:List Out} {V V':Vs} {vo:Value} (h:GA B p w S wA X O SA V vo) (g:G B p w' X' O SA V' vo) (f:Fr SA wA w'):GA B p w S w' X' O SA V' vo:=
 h.step g f (fun _ hx=>Or.inl hx)
theorem GA.call {B p:Nat} {w wA w':World} {S SA:List Nat} {X X':Wd} {O O':List Out} {V:Vs} {vo:Value} {Q:Vs→Prop} {r:Value} {e:Ending} (h:GA B p w S wA X O SA V vo) (hc:GTo B p wA SA X' O' Q r e w') :
  ∃ SB V' vo',e=.returned r∧GA B p w S w' X' O' SB V' vo'∧Q V'∧wA.heap.size≤w'.heap.size∧∀ b,b<wA.heap.size→b∉SA→w'.heap[b]?=wA.heap[b]?:=by
 obtain ⟨SB,V',vo',he,g,q,f,hs⟩:=hc
 exact ⟨SB,V',vo',he,h.step g f hs,q,f.size,f.block⟩
theorem bS {B:Nat} {wA w':World} {SA SB:List Nat} {sz:Nat} {v:Value} {L:List (List Value)} (h:dd (NI B SA) wA sz v L) (f:Fr SA wA w') (hs:∀ x∈SB,x∈SA∨wA.heap.size≤x):dd (NI B SB) w' sz v L:=
 bQ (bG (bQ (K':=fun b=>NI B SA b∧b<wA.heap.size) h (fun b hb hn=>⟨hn,hb⟩)) f.size (fun b hb hk=>f.block b hb hk.1.1)) (fun b _ hk=>⟨fun hS=>(hs b hS).elim hk.1.1 (fun e=>by have:=hk.2;omega),hk.1.2⟩)
theorem GA.call2 {B p:Nat} {w wA w':World} {S SA:List Nat} {X X':Wd} {O O':List Out} {V:Vs} {vo:Value} {Q:Vs→Prop} {r:Value} {e:Ending} (h:GA B p w S wA X O SA V vo) (hc:GTo B p wA SA X' O' Q r e w') :
  ∃ SB V' vo',e=.returned r∧GA B p w S w' X' O' SB V' vo'∧Q V'∧∀ sz v L,dd (NI B SA) wA sz v L→dd (NI B SB) w' sz v L:=by
 obtain ⟨SB,V',vo',he,g,q,f,hs⟩:=hc
 exact ⟨SB,V',vo',he,h.step g f hs,q,fun sz v L hr=>bS hr f hs⟩
theorem GA.fin {B p:Nat} {w wA:World} {S SA:List Nat} {X:Wd} {O:List Out} {V:Vs} {vo:Value} {Q:Vs→Prop} {r:Value} (h:GA B p w S wA X O SA V vo) (q:Q V):GTo B p w S X O Q r (.returned r) wA:=
 ⟨SA,V,vo,rfl,h.g,q,h.fr,h.sa⟩
theorem GA.plt {B p:Nat} {w wA:World} {S SA:List Nat} {X:Wd} {O:List Out} {V:Vs} {vo:Value} (h:GA B p w S wA X O SA V vo):p<wA.heap.size:=h.g.plt
theorem GA.c {B p:Nat} {w wA:World} {S SA:List Nat} {X:Wd} {O:List Out} {V:Vs} {vo:Value} (h:GA B p w S wA X O SA V vo) (i:Nat) {v:Value} (hv:(dj X V)[i]?=some v):wA.cell? ⟨p,i,none⟩=some v:=h.g.gr.2.2.2.2 i v hv
theorem GA.free {B p:Nat} {w wA:World} {S SA:List Nat} {X:Wd} {O:List Out} {V:Vs} {vo:Value} (h:GA B p w S wA X O SA V vo) (i:Nat):wA.frozen? ⟨p,i,none⟩=false:=ap h.g.bk i
theorem GA.cell {B p:Nat} {w wA:World} {S SA:List Nat} {X:Wd} {O:List Out} {V:Vs} {vo:Value} (h:GA B p w S wA X O SA V vo) (j:Nat) (u:Value) (X':Wd) (V':Vs)
  (hc:(dj X V++[vo]).toArray.setIfInBounds j u=(dj X' V'++[vo]).toArray) (e1:X'.flows=X.flows) (e2:V'.f=V.f) (e3:X'.health=X.health) (e4:V'.h=V.h) (e5:V'.m=V.m) (ro:nQ (NI B SA) wA X' V') :
  GA B p w S (wA.setCell ⟨p,j,none⟩ u) X' O SA V' vo:=h.same (iQ h.g j u X' V' hc e1 e2 e3 e4 e5 ro) (cZ h.g.sp j u)
theorem GA.flow {B p:Nat} {w wA:World} {S SA:List Nat} {X:Wd} {O:List Out} {V:Vs} {vo:Value} (h:GA B p w S wA X O SA V vo) {g n c:Nat} (hv:V.f=.slice (some ⟨g,0,none⟩) n c) {i:Nat} (hi:i<X.flows.length) {f:Fl} (hf:X.flows.getD i Fl.zero=f) :
  n=X.flows.length∧g<wA.heap.size∧g≠p∧g∈SA∧(∀ j,wA.frozen? ⟨g,j,none⟩=false)∧∀ j,j<7→wA.cell? ⟨g,i*7+j,none⟩=(Fl.cells f)[j]?:=by
 have hof:=h.g.of
 rw [hv] at hof
 have hgw:=(hof.lt g rfl).2
 obtain ⟨_,_,e0,_,_,_,pt⟩:=aK Fl.zero (aD hof (by simp) (iL _)).1
 injection e0 with e01 e02 e03
 obtain ⟨bf,of_,e1,hbf,q⟩:=pt (by intro hh;rw [hh] at hi;simp at hi)
 rw [← e01] at e1
 injection e1 with e1
 injection e1 with e1 e2
 subst e1 e2
 subst e02
 have hs:=h.g.sf g (by rw [hv];rfl)
 exact ⟨rfl,hgw,hs.2,hs.1,fun j=>hof.frozenAt j,fun j hj=>by have:=q i j hi hj;rw [hf] at this;simpa using this⟩
theorem GA.shape {B p:Nat} {w wA:World} {S SA:List Nat} {X:Wd} {O:List Out} {V:Vs} {vo:Value} (h:GA B p w S wA X O SA V vo) (hn:X.flows≠[]):∃ g c,V.f=.slice (some ⟨g,0,none⟩) X.flows.length c:=by
 rcases fv h.g.of with ⟨_,h0⟩|⟨g,c,e,_⟩
 ·exact absurd (List.length_eq_zero_iff.1 h0) hn
 ·exact ⟨g,c,e⟩
theorem GA.flset {B p:Nat} {w wA:World} {S SA:List Nat} {X:Wd} {O:List Out} {V:Vs} {vo:Value} (h:GA B p w S wA X O SA V vo) {g n c:Nat} (hv:V.f=.slice (some ⟨g,0,none⟩) n c) (k:Nat) (u:Value) (F':List Fl) (hl:F'.length=X.flows.length)
  (hF:(F'.map Fl.cells).flatten=(X.flows.map Fl.cells).flatten.set k u):GA B p w S (wA.setCell ⟨g,k,none⟩ u) { X with flows:=F' } O SA V vo:=
 h.same (mW h.g hv k u F' hl hF).1 (mW h.g hv k u F' hl hF).2
theorem GA.hrow {B p:Nat} {w wA:World} {S SA:List Nat} {X:Wd} {O:List Out} {V:Vs} {vo:Value} (h:GA B p w S wA X O SA V vo) (hn:X.health≠[]) :
  ∃ g c,V.h=.slice (some ⟨g,0,none⟩) X.health.length c∧g<wA.heap.size∧g≠p∧g∈SA∧(∀ j,wA.frozen? ⟨g,j,none⟩=false)∧∀ i,i<X.health.length→∀ j,j<4→wA.cell? ⟨g,i*4+j,none⟩=(sC (V.m.getD i undef) (X.health.getD i Ht.zero))[j]?:=by
 have hl:=dF h.g.ro.ml
 rcases fv h.g.oh with ⟨_,h0⟩|⟨g,c,e,_⟩
 ·exact absurd (List.length_eq_zero_iff.1 h0) hn
 have hoh:=h.g.oh
 rw [e] at hoh
 have hgw:=(hoh.lt g rfl).2
 have hs:=h.g.sh g (by rw [e];rfl)
 refine ⟨g,c,e,hgw,hs.2.1,hs.1,fun j=>hoh.frozenAt j,fun i hi j hj=>?_⟩
 have hr:=(aD hoh hl (mx X V)).1
 obtain ⟨a',c',e',_,_,_,h4⟩:=hr
 obtain ⟨b',o',e2,_,h6⟩:=h4 (by intro e;rw [e] at hl;simp at hl;exact hn (List.length_eq_zero_iff.1 hl.symm))
 injection e' with e' _ _
 rw [e2] at e'
 injection e' with e'
 injection e' with e1 e3
 subst e1 e3
 have:=h6 i j (by omega) hj
 rw [iu h.g.ro.ml hi,Nat.zero_add] at this
 exact this
theorem GA.hset {B p:Nat} {w wA:World} {S SA:List Nat} {X:Wd} {O:List Out} {V:Vs} {vo:Value} (h:GA B p w S wA X O SA V vo) {g n c:Nat} (hv:V.h=.slice (some ⟨g,0,none⟩) n c) (i:Nat) (hi:i<X.health.length) (x:Ht) (m:Value) (hm:dd (NI B SA) wA 1 m (cI x.marks)) :
  GA B p w S ((((wA.setCell ⟨g,i*4,none⟩ m).setCell ⟨g,i*4+1,none⟩ (.bool x.out)).setCell ⟨g,i*4+2,none⟩ (.int .i64 x.until_)).setCell ⟨g,i*4+3,none⟩ (.int .i64 x.times)) { X with health:=X.health.set i x } O SA { V with m:=V.m.set i m } vo:=
 h.same (yO h.g hv i hi x m hm).1 (yO h.g hv i hi x m hm).2
theorem GA.more {B p:Nat} {w wA w':World} {S SA:List Nat} {X:Wd} {O:List Out} {V:Vs} {vo:Value} (h:GA B p w S wA X O SA V vo) (hb:Below wA.heap.size wA w') (b:Nat) (h1:wA.heap.size≤b) (h2:b<w'.heap.size):GA B p w S w' X O (b :: SA) V vo:=
 ⟨Ez h.g hb b h1 h2,(h.below hb).fr,fun x hx=>(List.mem_cons.1 hx).elim (fun e=>Or.inr (by have:=h.fr.size;omega)) (h.sa x)⟩
theorem GA.no {B p:Nat} {w wA:World} {S SA:List Nat} {X:Wd} {O:List Out} {V:Vs} {vo:Value} (h:GA B p w S wA X O SA V vo) {b:Nat} (hb:wA.heap.size≤b):V.f.ownBlock≠some b∧V.h.ownBlock≠some b∧vo.ownBlock≠some b∧b∉SA∧b≠p:=
 ⟨fun e=>by have:=(h.g.of.lt b e).2;omega,fun e=>by have:=(h.g.oh.lt b e).2;omega,fun e=>by have:=(h.g.oo.lt b e).2;omega,fun e=>by have:=h.g.sl b e;omega,fun e=>by have:=h.plt;omega⟩
structure uu (X:Wd):Prop where
 bk:bF X.lives X.reqs
 hl:X.health.length=12
 ht:∀ i,i<12→ge X.cf.ww X.cf.wf X.cf.wh (X.health.getD i Ht.zero).marks.length (X.health.getD i Ht.zero).out (X.health.getD i Ht.zero).until_ (X.health.getD i Ht.zero).times X.now 0
 m0:0≤X.cf.most
 m1:X.cf.most≤100
def NoteQ (V:Vs) (V':Vs):Prop:=V'.f=V.f
def Ew (B p:Nat) (w:World) (X':Wd) (O:List Out) (S:List Nat) (V:Vs) (vo:Value) (e:Ending) (w':World):Prop:=∃ m,e=.returned (.tuple #[])∧G B p w' X' O S { V with m:=m } vo∧∀ S2:List Nat,(∀ b,V.h.ownBlock=some b→b∈S2)→Fr S2 w w'
theorem oa {B p:Nat} {w:World} {X:Wd} {O:List Out} {S:List Nat} {V:Vs} {vo:Value} (h:G B p w X O S V vo) (b:Nat) (hb:b<12) (failed:Bool) (hm:uu X) :
  Calls Tryz.prog 77 #[.pointer (some ⟨p,0,none⟩),.int .i64 (b:Int),.bool failed] w (Ew B p w (bU X b failed) O S V vo):=by
 have hgr:=h.gr
 have x19:=hgr.c 19 (v:=V.l) rfl
 have x22:=hgr.c 22 (v:=V.h) rfl
 have x9:=hgr.c 9 (v:=.int .i64 X.cf.most) rfl
 have xf:∀ n,w.frozen? ⟨p,n,none⟩=false:=fun n=>ap h.bk n
 obtain ⟨al,cl,el,_⟩:=aq hgr.1.li.1
 rw [el] at x19
 have HLv:=Hu hgr.1.li.1
 rw [el] at HLv
 have hp:=h.plt
 have HG:=Hu h
 have HM:=Hu hm
 have h12:=hm.hl
 have hL:=hm.bk.1
 rcases fv h.oh with ⟨_,h0⟩|⟨g,ch,eh,_⟩
 ·omega
 rw [eh,h12] at x22
 have HEh:=Hu eh
 have hoh:=h.oh
 rw [eh] at hoh
 have hgw:=(hoh.lt g rfl).2
 have hgp:g≠p:=(h.sh g (by rw [eh];rfl)).2.1
 have hgp':p≠g:=fun e=>hgp e.symm
 have HC:Hid (∀ i,i<12→∀ j,j<4→w.cell? ⟨g,i*4+j,none⟩=(sC (V.m.getD i undef) (X.health.getD i Ht.zero))[j]?):=fun i hi j hj=>by
  have hr:=(aD hoh (dF h.ro.ml) (mx X V)).1;obtain ⟨a',c',e',_,_,_,h4⟩:=hr;obtain ⟨b',o',e2,_,h6⟩:=h4 (by intro e;have:=dF h.ro.ml;rw [e] at this;simp at this;omega);rw [dF h.ro.ml] at e' h6;injection e' with e' _ _;rw [e2] at e';injection e' with e';injection e' with e1 e3;subst e1 e3;have:=h6 i j (by omega) hj;rw [iu h.ro.ml (by omega),Nat.zero_add] at this;exact this
 have hn:¬ X.lives.length=0→∃ bl ol,al=some ⟨bl,ol,none⟩∧bl<w.heap.size∧∀ k j,k<X.lives.length→j<6→w.cell? ⟨bl,ol+k*6+j,none⟩=(X.lives.getD k Lf.zero).cells[j]?:=fun hne=>by
  obtain ⟨_,_,e0,_,_,_,pt⟩:=aK Lf.zero HLv.out;exact Q47
 have HN:=Hu hn
 clear h hm hgr el eh hoh hn
 go_enter Tryz.func77,Tryz.ntmps77
 go_wp2_with fail
 go_loopw [6,7,22] (fun o a i wr=>∃ k:Nat,k≤X.lives.length∧i=.int .i64 k∧o=.int .i64 (xX (X.lives.take k) X.health)∧a=.int .i64 (wZ (X.lives.take k))∧Below w.heap.size w wr) (fun _ _ i _=>X.lives.length - (intOf i).toNat)
 case atStart=>exact ⟨0,I4 _,rfl,rfl,rfl,Hv _ _⟩
 case round=>
  obtain ⟨k,hk,rfl,rfl,rfl,hbr⟩:=hrel;have u1:=Fw (X.lives.take k) X.health;have u2:=GE (X.lives.take k)
  have u3:(X.lives.take k).length≤k:=by simp;omega
  have hzr:=hbr.size;have x19:=ah hbr x19 hp;have x22:=ah hbr x22 hp;have hpr:p<wr.heap.size:=by omega
  have hgr:g<wr.heap.size:=by omega
  rcases (show k<X.lives.length∨X.lives.length=k by omega) with hlt|heq
  ·have hlt':(k:Int)<(X.lives.length:Int):=by omega
   obtain ⟨bl,ol,rfl,hbl,q⟩:=HN.out (by omega);obtain ⟨s,hs⟩:∃ s,s=X.lives.getD k Lf.zero:=⟨_,rfl⟩
   have hold:∀ j,j<6→wr.cell? ⟨bl,ol+k*6+j,none⟩=s.cells[j]?:=fun j hj=>by rw [hbr.cell (p:=⟨bl,ol+k*6+j,none⟩) hbl,hs];exact q k j hlt hj
   have e1:=BM hlt;have e2:=Az (H:=X.health) hlt;rw [← hs] at e1 e2;have E1:=Hu e1;have E2:=Hu e2;have hbk:=(HM.out.bk.2.2.1 k hlt).1;rw [← hs] at hbk;obtain ⟨s0,s1,s2,s3,s4,s5⟩:=s;have r0:=hbk.1;have r1:=hbk.2.1;simp only at r0 r1;obtain ⟨n,rfl⟩:=Ih r0;have rn:n<12:=by omega
   have a0:=hold 0 (by omega);have a1:=hold 1 (by omega);have a2:=hold 2 (by omega);have a3:=hold 3 (by omega);have a4:=hold 4 (by omega);have a5:=hold 5 (by omega);simp only [Lf.cells,I5,I6,Nat.add_zero] at a0 a1 a2 a3 a4 a5;have ao:=ah hbr (HC.out n rn 1 (by omega)) hgw;obtain ⟨t,ht⟩:∃ t,t=(X.health.getD n Ht.zero).out:=⟨_,rfl⟩
   have hto:qo X.health (n:Int)=t:=by unfold qo;rw [Id,ht]
   rw [← ht] at ao;have HB:=Hu hbr;have HT:=Hu hto;clear hold hs q hbk e1 e2 ht hto;by_cases hst:s1=2
   ·subst hst
    cases t with
    | true=>
     exact Q98
    | false=>
     exact Q98
   ·have hne:(s1 != 2)=true:=by simpa using hst
    have HS:=Hu hst;clear hst;go_wp2;go_roundw
    case rel=>exact ⟨k+1,by omega,by go_num,by rw [E2.out];have:=HS.out;simp [this],by rw [E1.out];have:=HS.out;simp [this],Zb⟩
    case measure=>simp [intOf];omega
  ·have hge:¬ (k:Int)<(X.lives.length:Int):=by omega
   have tk:X.lives.take k=X.lives:=Ie (by omega);rw [tk] at u1 u2 ⊢;obtain ⟨oc,hoc⟩:∃ oc,oc=xX X.lives X.health:=⟨_,rfl⟩;obtain ⟨ac,hac⟩:∃ ac,ac=wZ X.lives:=⟨_,rfl⟩;rw [← hoc] at u1 ⊢;rw [← hac] at u1 u2 ⊢;have x9:=ah hbr x9 hp;have x13:wr.cell? ⟨p,13,none⟩=some (.int .i64 X.cf.ww):=ah hbr (HG.out.gr.c 13 (v:=.int .i64 X.cf.ww) rfl) hp;have x14:wr.cell? ⟨p,14,none⟩=some (.int .i64 X.cf.wf):=ah hbr (HG.out.gr.c 14 (v:=.int .i64 X.cf.wf) rfl) hp;have x15:wr.cell? ⟨p,15,none⟩=some (.int .i64 X.cf.wh):=ah hbr (HG.out.gr.c 15 (v:=.int .i64 X.cf.wh) rfl) hp;have x16:wr.cell? ⟨p,16,none⟩=some (.int .i64 X.now):=ah hbr (HG.out.gr.c 16 (v:=.int .i64 X.now) rfl) hp
   have Hal:Hid (BK X=decide (((oc:Int)+1)*100≤X.cf.most*(ac:Int))):=by unfold BK;rw [← hoc,← hac];rfl
   have k0:=ah hbr (HC.out b hb 0 (by omega)) hgw;have k1:=ah hbr (HC.out b hb 1 (by omega)) hgw;have k2:=ah hbr (HC.out b hb 2 (by omega)) hgw;have k3:=ah hbr (HC.out b hb 3 (by omega)) hgw;simp only [Nat.add_zero] at k0;have hmr:=HG.out.ro.mr b (by omega);have hht:=HM.out.ht b hb;have m0:=HM.out.m0;have m1:=HM.out.m1;obtain ⟨may,hmay⟩:∃ may,may=(BK X && gL X.lives b == 2):=⟨_,rfl⟩;obtain ⟨came,hna⟩:=yN X.cf (X.health.getD b Ht.zero) failed X.now may hht;obtain ⟨N,hN⟩:∃ N,N=iY X.cf (X.health.getD b Ht.zero) failed X.now may:=⟨_,rfl⟩
   have HNW:Hid (bU X b failed={ X with health:=X.health.set b N }):=by unfold bU;rw [hN,hmay];rfl
   rw [← hN] at hna;obtain ⟨M0,hM0⟩:∃ M0,M0=X.health.getD b Ht.zero:=⟨_,rfl⟩;rw [← hM0] at k1 k2 k3 hmr hht hna;obtain ⟨mv,hmv⟩:∃ mv,mv=V.m.getD b undef:=⟨_,rfl⟩;rw [← hmv] at k0 hmr;obtain ⟨am,cm,rfl,_⟩:=fq hmr.1;have hT:=(fC hht).2.2.2.2.1;obtain ⟨M,out,u,T⟩:=M0;simp only at hT k0 k1 k2 k3 hmr hht hna;obtain ⟨T,rfl⟩:=Ih hT;have HMr:=Hu (au hmr.1 hbr);have HHt:=Hu hht;have HNa:=Hu hna;have HMay:=Hu hmay;have bi:(b:Int)<12:=by omega
   clear tk hoc hac hmr hht hna hmay hN hM0 hmv x19 heq;go_wp2_with (go_at_call 124;refine (tG _ _ _ _ (by omega) (by omega) (by omega) m0 m1).mono ?_;rw [← Hal.out];rintro e w1 ⟨rfl,hb1⟩);obtain ⟨wb,hwb⟩:∃ wb,wb=w1:=⟨_,rfl⟩
   have hbb:Below w.heap.size w wb:=by rw [hwb];exact hbr.trans (hb1.mono hbr.size)
   have bwr:Below wr.heap.size wr wb:=by rw [hwb];exact hb1
   rw [← hwb];clear hwb hb1
   have hpb:p<wb.heap.size:=by have:=hbb.size;omega
   have hgb:g<wb.heap.size:=by have:=hbb.size;omega
   have x22:=ah bwr x22 (by omega);have x13:=ah bwr x13 (by omega);have x14:=ah bwr x14 (by omega);have x15:=ah bwr x15 (by omega);have x16:=ah bwr x16 (by omega);have k0:=ah bwr k0 (by omega);have k1:=ah bwr k1 (by omega);have k2:=ah bwr k2 (by omega);have k3:=ah bwr k3 (by omega);have HGb:=Hu (dB HG.out hbb);have HMb:=Hu (au HMr.out bwr);have HFb:=Hu hbb;have b0:(0:Int)≤(b:Int):=by omega
   clear x9 bwr hbr hbb HMr HN HC HLv;obtain ⟨N0,N1,N2,N3⟩:=N;simp only at HNa;obtain ⟨st,hst⟩:∃ st,st=gL X.lives (b:Int):=⟨_,rfl⟩;have HSt:=Hu hst;obtain ⟨a,ha⟩:∃ a,a=BK X:=⟨_,rfl⟩
   have HMy:Hid (may=(a && st == 2)):=by rw [hst,ha];exact HMay.out
   rw [← ha];clear hst ha HMay Hal
   cases a with
   | false=>
    obtain rfl:may=false:=HMy.out;refine Zr (fun w':World=>w'.cell? ⟨p,13,none⟩=some (.int .i64 X.cf.ww)∧w'.cell? ⟨p,14,none⟩=some (.int .i64 X.cf.wf)∧w'.cell? ⟨p,15,none⟩=some (.int .i64 X.cf.wh)∧w'.cell? ⟨p,16,none⟩=some (.int .i64 X.now)∧w'.cell? ⟨p,22,none⟩=some (.slice (some ⟨g,0,none⟩) 12 ch)∧w'.cell? ⟨g,b*4,none⟩=some (.slice am M.length cm)∧w'.cell? ⟨g,b*4+1,none⟩=some (.bool out)∧w'.cell? ⟨g,b*4+2,none⟩=some (.int .i64 u)∧w'.cell? ⟨g,b*4+3,none⟩=some (.int .i64 T)) (fun hHeld=>?_);refine ep 0 ?_;refine ep 8 ?_;refine ep 16 ?_;refine df 24 ?_;refine Zt 26 ?_;refine Z2 27 32 (fun K hK=>?_) (fun K hK=>?_);(focus (go_simp;(first|(go_at_call 64;refine (dY (fM HGb.out.gr Zb) _ HM.out.bk).mono ?_;rw [← HSt.out];rintro e w2 ⟨rfl,hb2⟩;have hz2:=hb2.size;(try simp at hz2);(try have bxb2:=aj hb2 (cJ wb _) (dL wb _));(try dsimp only))|(go_at_call 125;refine (dZ _ _ _ M out u T failed _ _ N0 N1 N2 N3 came _ _ (au HMb.out Zb) HHt.out HNa.out).mono ?_;rintro e w3 ⟨v3,rfl,R3,hb3⟩;have hz3:=hb3.size;(try simp at hz3);obtain ⟨a3,c3,rfl,_⟩:=fq R3.1;(try (have bxb:=aj hb3 (cJ wb _) (dL wb _);(have bx0:w3.cell? ⟨wb.heap.size,0,none⟩=some (.slice none 0 0):=ae bxb 0;have bx1:w3.cell? ⟨wb.heap.size,1,none⟩=some (.bool false):=ae bxb 1;have bx2:w3.cell? ⟨wb.heap.size,2,none⟩=some (.int .i64 0):=ae bxb 2;have bx3:w3.cell? ⟨wb.heap.size,3,none⟩=some (.int .i64 0):=ae bxb 3;have bxf:∀ n,w3.frozen? ⟨wb.heap.size,n,none⟩=false:=ap bxb)));(try (have bxb:=aj hb3 (jG w2 _) (ma w2 _);(have bx0:w3.cell? ⟨w2.heap.size,0,none⟩=some (.slice none 0 0):=ae bxb 0;have bx1:w3.cell? ⟨w2.heap.size,1,none⟩=some (.bool false):=ae bxb 1;have bx2:w3.cell? ⟨w2.heap.size,2,none⟩=some (.int .i64 0):=ae bxb 2;have bx3:w3.cell? ⟨w2.heap.size,3,none⟩=some (.int .i64 0):=ae bxb 3;have bxf:∀ n,w3.frozen? ⟨w2.heap.size,n,none⟩=false:=ap bxb)));(try (have bxb:=aj hb3 bxb2 (lt_of_block bxb2);(have bx0:w3.cell? ⟨wb.heap.size,0,none⟩=some (.slice none 0 0):=ae bxb 0;have bx1:w3.cell? ⟨wb.heap.size,1,none⟩=some (.bool false):=ae bxb 1;have bx2:w3.cell? ⟨wb.heap.size,2,none⟩=some (.int .i64 0):=ae bxb 2;have bx3:w3.cell? ⟨wb.heap.size,3,none⟩=some (.int .i64 0):=ae bxb 3;have bxf:∀ n,w3.frozen? ⟨wb.heap.size,n,none⟩=false:=ap bxb)));(try dsimp only)));(try go_wp2_with fail);refine Zk hK fun hHeld=>?_;clear hK K;refine eP 28 ?_;refine Z1 32 (fun K hK=>?_);go_simp;refine Zk hK fun hHeld=>?_;clear hK K));rotate_left 1;(focus (go_simp;refine Zk hK fun hHeld=>?_;clear hK K;refine Z1 27 (fun K hK=>?_);go_simp;(first|(go_at_call 64;refine (dY (fM HGb.out.gr Zb) _ HM.out.bk).mono ?_;rw [← HSt.out];rintro e w2 ⟨rfl,hb2⟩;have hz2:=hb2.size;(try simp at hz2);(try have bxb2:=aj hb2 (cJ wb _) (dL wb _));(try dsimp only))|(go_at_call 125;refine (dZ _ _ _ M out u T failed _ _ N0 N1 N2 N3 came _ _ (au HMb.out Zb) HHt.out HNa.out).mono ?_;rintro e w3 ⟨v3,rfl,R3,hb3⟩;have hz3:=hb3.size;(try simp at hz3);obtain ⟨a3,c3,rfl,_⟩:=fq R3.1;(try (have bxb:=aj hb3 (cJ wb _) (dL wb _);(have bx0:w3.cell? ⟨wb.heap.size,0,none⟩=some (.slice none 0 0):=ae bxb 0;have bx1:w3.cell? ⟨wb.heap.size,1,none⟩=some (.bool false):=ae bxb 1;have bx2:w3.cell? ⟨wb.heap.size,2,none⟩=some (.int .i64 0):=ae bxb 2;have bx3:w3.cell? ⟨wb.heap.size,3,none⟩=some (.int .i64 0):=ae bxb 3;have bxf:∀ n,w3.frozen? ⟨wb.heap.size,n,none⟩=false:=ap bxb)));(try (have bxb:=aj hb3 (jG w2 _) (ma w2 _);(have bx0:w3.cell? ⟨w2.heap.size,0,none⟩=some (.slice none 0 0):=ae bxb 0;have bx1:w3.cell? ⟨w2.heap.size,1,none⟩=some (.bool false):=ae bxb 1;have bx2:w3.cell? ⟨w2.heap.size,2,none⟩=some (.int .i64 0):=ae bxb 2;have bx3:w3.cell? ⟨w2.heap.size,3,none⟩=some (.int .i64 0):=ae bxb 3;have bxf:∀ n,w3.frozen? ⟨w2.heap.size,n,none⟩=false:=ap bxb)));(try (have bxb:=aj hb3 bxb2 (lt_of_block bxb2);(have bx0:w3.cell? ⟨wb.heap.size,0,none⟩=some (.slice none 0 0):=ae bxb 0;have bx1:w3.cell? ⟨wb.heap.size,1,none⟩=some (.bool false):=ae bxb 1;have bx2:w3.cell? ⟨wb.heap.size,2,none⟩=some (.int .i64 0):=ae bxb 2;have bx3:w3.cell? ⟨wb.heap.size,3,none⟩=some (.int .i64 0):=ae bxb 3;have bxf:∀ n,w3.frozen? ⟨wb.heap.size,n,none⟩=false:=ap bxb)));(try dsimp only)));(try go_wp2_with fail);refine Zk hK fun hHeld=>?_;clear hK K;refine eP 28 ?_));rotate_left 1;(all_goals (refine Z1 33 (fun K hK=>?_);go_simp;refine Zk hK fun hHeld=>?_;clear hK K;refine df 34 ?_));(all_goals refine Zd ?_)
    ·refine aY _ (fun wz hwz=>?_)
     have hbz:Below wb.heap.size wb wz:=by rw [hwz];exact (I0 (Hx (Hv _ _)) (hb3.mono (by simp))).alloc (by omega) _
     have hrz:aM wb.heap.size wz 1 (.slice a3 N0.length c3) (cI N0):=by rw [hwz];exact cR (aG R3 (by simp)) _
     obtain ⟨nb,hnb⟩:∃ nb,nb=w3.heap.size:=⟨_,rfl⟩
     have hnz:wz.heap[nb]?=some (.cells #[.slice a3 N0.length c3,.bool N1,.int .i64 N2,.int .i64 N3] 129 (0,0)):=by rw [hwz];exact az _ hnb
     have hge:wb.heap.size≤nb:=by omega
     rw [← hnb];clear hwz hnb R3 hb3;exact Q5
    ·refine aY _ (fun wz hwz=>?_);have hba:Below wb.heap.size wb w3:=I0 (Hx ((Hv _ _).alloc (I3 _) _)) (hb3.mono (by simp))
     have hbz:Below wb.heap.size wb wz:=by rw [hwz];exact (((hba.setCell (I3 _) _).setCell (I3 _) _).setCell (I3 _) _).setCell (I3 _) _
     have hrz:aM wb.heap.size wz 1 (.slice a3 N0.length c3) (cI N0):=by rw [hwz];exact aG (aB (aB (aB (aB R3 (by simp;try omega) _) (by simp;try omega) _) (by simp;try omega) _) (by simp;try omega) _) (by simp)
     obtain ⟨nb,hnb⟩:∃ nb,nb=wb.heap.size:=⟨_,rfl⟩
     have hnz:wz.heap[nb]?=some (.cells #[.slice a3 N0.length c3,.bool N1,.int .i64 N2,.int .i64 N3] 129 (0,0)):=by rw [hwz,hnb];exact aP (j:=3) (aP (j:=2) (aP (j:=1) (aP (j:=0) bxb (.slice a3 N0.length c3)) (.bool N1)) (.int .i64 N2)) (.int .i64 N3)
     have hge:wb.heap.size≤nb:=by omega
     clear bx0 bx1 bx2 bx3 bxf bxb;rw [← hnb];clear hwz hnb R3 hb3 hba;exact Q5
   | true=>
    by_cases hs2:st=2
    ·subst hs2;obtain rfl:may=true:=HMy.out;exact Q1
    ·have hne:(st == 2)=false:=by simpa using hs2
     obtain rfl:may=false:=by rw [HMy.out,hne];rfl
     clear hs2;exact Q1
theorem xP {B p:Nat} {w:World} {X:Wd} {O:List Out} {S:List Nat} {V:Vs} {vo:Value} (h:G B p w X O S V vo) (b:Nat) (hb:b<12) (failed:Bool) (hm:uu X) :
  Calls Tryz.prog 77 #[.pointer (some ⟨p,0,none⟩),.int .i64 (b:Int),.bool failed] w (GTo B p w S (bU X b failed) O (NoteQ V) (.tuple #[])):=
 (oa h b hb failed hm).mono fun _ _ ⟨m,e,g,f⟩=>⟨S,{ V with m:=m },vo,e,g,rfl,f S (fun b hb=>(h.sh b hb).1),fun _ hx=>Or.inl hx⟩
end
end Go.Proofs.YtfliffgmeobclaaGreat
