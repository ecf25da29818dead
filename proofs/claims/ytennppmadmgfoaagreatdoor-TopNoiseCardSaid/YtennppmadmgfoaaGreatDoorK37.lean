/- Texts of the row's proof. Conditions: none. -/
import Derived.Test.YtennppmadmgfoaaGreatDoorK11
import Derived.Test.YtennppmadmgfoaaGreatDoorK36
namespace Go.Proofs.YtennppmadmgfoaaGreatDoor
open Proofs.Tryz
set_option maxRecDepth 100000
set_option maxHeartbeats 8000000
section
open Go.RowKit
theorem xZ:(prog.info? 181).map (fun i=>(i.zero,i.size,i.bytes))=some (some (.slice none 0 0),1,24):=by kernel_rfl
def vj (n:Nat):List (List Value):=List.replicate n [.slice none 0 0]
theorem Fg (n:Nat):∀ c∈vj n,c.length=1:=by
 intro c h;rw [List.eq_of_mem_replicate h]
 rfl
theorem CR (n:Nat):(madeCells #[.slice none 0 0] (n*1)).toList=(vj n).flatten:=fH #[.slice none 0 0] n (by decide)
def TabNew (w:World) (X:List Sl) (e:Ending) (w':World):Prop:=∃ v,e=.returned (.tuple #[.agg #[v],.int .i64 0])/\aN w.heap.size w' 4 v (X.map Sl.cells)/\Below w.heap.size w w'
def WheNew (w:World) (now:Int) (e:Ending) (w':World):Prop:=∃ v,e=.returned (.tuple #[.agg #[.int .i64 now,v],.int .i64 0])/\aN w.heap.size w' 1 v (vj 25)/\Below w.heap.size w w'
theorem lW (n:Nat) (w:World) (E:1<=n) (I:n<=40):Calls prog 22 #[.int .i64 n] w (TabNew w (ga n)):=by
 obtain ⟨i0,U,Y,Z,a0⟩:=info_parts Dj;have g1:(1:Int)<=(n:Int):=by omega
 have g2:(n:Int)<=40:=by omega
 have G1:=KL E;have z:=KL I;clear E I;go_in;go_wp2_with (at_make;go_loud (refine wpList_make_full _ rfl _ _ 38 rfl (w.heap.size+1) 167 i0 (.agg #[.int .i64 0,.bool false,.int .i64 0,.int .i64 0]) 4 underlying38 U Y Z .i64 .i64 n n n rfl rfl rfl rfl ?c1 ?c2 ?c3 ?_))
 case c1=>have:=z.out;rw [a0];omega
 case c2=>have:=z.out;unfold maxLen;omega
 case c3=>simp
 intro w1 J K;rw [zN] at J;have h:Below (w.heap.size+1) (w.alloc (Obj.cells #[Value.slice none 0 0] 40)) w1:=(KM _ _).grown K (by simp) (fun k W=>by cases W);obtain ⟨hc,hf⟩:=aX h;have hz:=fX h;go_wp2;refine LN (v:=.tuple #[.agg #[.slice (some ⟨w.heap.size+1,0,none⟩) n n],.int .i64 0]) ?_ rfl ?_
 ·simp [results,results22,go_sem, *]
 ·refine ⟨_,rfl,aJ (aG (ownsRow_setCell_below J (by simp) _) (by simp [ga]) (Cc n)) (by omega),?_⟩;exact (((KM _ _).alloc (KY _) _).trans (h.mono (by omega))).setCell (by simp) _
theorem uL (n:Int) (w:World) (Z:0<=n) (h2:n<=1099511627776):Calls prog 24 #[.int .i64 n] w (WheNew w n):=by
 obtain ⟨Y,I,K,U,W⟩:=info_parts xZ;go_in;go_wp2_with (at_make;go_loud (refine wpList_make_full _ rfl _ _ 52 rfl (w.heap.size+1) 181 Y (.slice none 0 0) 1 underlying52 I K U .i64 .i64 25 25 25 rfl rfl rfl rfl ?c1 ?c2 ?c3 ?_))
 case c1=>rw [W];omega
 case c2=>unfold maxLen;omega
 case c3=>simp
 intro w1 z E;rw [show (madeCells #[.slice none 0 0] 25).toList=(vj 25).flatten from CR 25] at z;have h:=(KM (w.heap.size+1) _).grown E (by simp) (fun k J=>by cases J);obtain ⟨hc,hf⟩:=aX h;have hz:=fX h;go_wp2;refine LN (v:=.tuple #[.agg #[.int .i64 n,.slice (some ⟨w.heap.size+1,0,none⟩) 25 25],.int .i64 0]) ?_ rfl ?_
 ·simp [results,results24,go_sem, *]
 ·refine ⟨_,rfl,aJ (aG (ownsRow_setCell_below (ownsRow_setCell_below z (by simp) _) (by simp) _) (by simp [vj]) (Fg 25)) (by omega),?_⟩;exact ((((KM _ _).alloc (KY _) _).trans (h.mono (by omega))).setCell (by simp) _).setCell (by simp) _
def Ki (w:World) (num den tries W drain idle connect U most K z h ww Y Z:Int) (N:Nat) (e:Ending) (w':World):Prop:=∃ J E I,e=.returned (.tuple #[.agg (ko (N:Int) num den tries W drain idle connect U most K z h ww Y Z J E (h*z) I),.int .i64 0])/\aK w' 4 J ((ga N).map Sl.cells)/\aK w' 4 E (iV 12)/\aK w' 1 I (vj 25)/\Below w.heap.size w w'
theorem hz_row {w:World} {b:Nat} (h:w.heap[b]?=some (.cells (iV 12).flatten.toArray 162 (0,0))):aK w 4 (.slice (some ⟨b,0,none⟩) 12 12) (iV 12):=
 fS (base:=0) (e:=162) (n:=12) (ry (n:=12) (sz:=4) (La _) h (by unfold maxLen;omega) (by rw [aP (lF 12),iv])) (iv 12) (lF 12)
theorem sO (num den tries warm drain idle connect retries most bn bd bb ww wf wh:Int) (N:Nat) (w:World) (h:jC ⟨N,num,den,tries,warm,drain,idle,connect,retries,most,bn,bd,bb,ww,wf,wh⟩):Calls prog 10 #[.agg #[.int .i64 (N:Int),.int .i64 num,.int .i64 den,.int .i64 tries,.int .i64 warm,.int .i64 drain,.int .i64 idle,.int .i64 connect,.int .i64 retries,.int .i64 most,.int .i64 bn,.int .i64 bd,.int .i64 bb,.int .i64 ww,.int .i64 wf,.int .i64 wh]] w (Ki w num den tries warm drain idle connect retries most bn bd bb ww wf wh N):=by
 have H:=KL h
 have HN:Hid (1<=N/\N<=40):=by
  obtain ⟨⟨_,_,a6,a7,_⟩,_,_⟩:=h;simp only at a6 a7;exact ⟨by omega,by omega⟩
 have HBd:Hid (io bn bd bb):=h.2.1;clear h;obtain ⟨Y,a4⟩:∃ Y,Y=(iV 12).flatten.toArray:=⟨_,rfl⟩
 have ab:∀ W,(Instr.makeSlice 49 (.int .i64 12) (.int .i64 12)).run prog W=.ok (.slice (some ⟨W.heap.size,0,none⟩) 12 12) (W.alloc (.cells Y 162)):=by
  intro W;subst a4
  kernel_rfl
 have HHZ:=KL a4;clear a4;go_in;go_wp2_with (go_at_call 21;refine (kF _ _ _ _ _ _ _ _ _ _ _ _ _ _ _ _ _ H.out).mono ?_;rintro e z ⟨rfl,hb1⟩);have E:=aj hb1 ((KQ (w:=w.alloc (.cells #[.int .i64 (N:Int),.int .i64 num,.int .i64 den,.int .i64 tries,.int .i64 warm,.int .i64 drain,.int .i64 idle,.int .i64 connect,.int .i64 retries,.int .i64 most,.int .i64 bn,.int .i64 bd,.int .i64 bb,.int .i64 ww,.int .i64 wf,.int .i64 wh] 36)) (.cells #[.int .i64 0,.int .i64 0,.int .i64 0,.int .i64 0,.int .i64 0,.int .i64 0,.int .i64 0,.int .i64 0,.int .i64 0,.int .i64 0,.int .i64 0,.int .i64 0,.int .i64 0,.int .i64 0,.int .i64 0,.int .i64 0,.int .i64 0,.slice none 0 0,.slice none 0 0,.slice none 0 0,.slice none 0 0,.slice none 0 0,.slice none 0 0,.int .i64 0,.int .i64 0,.slice none 0 0] 56) _ (by simp)).trans (aB (w:=w) (.cells #[.int .i64 (N:Int),.int .i64 num,.int .i64 den,.int .i64 tries,.int .i64 warm,.int .i64 drain,.int .i64 idle,.int .i64 connect,.int .i64 retries,.int .i64 most,.int .i64 bn,.int .i64 bd,.int .i64 bb,.int .i64 ww,.int .i64 wf,.int .i64 wh] 36) rfl)) Zs;have a5:=aj hb1 (aB (w:=w.alloc (.cells #[.int .i64 (N:Int),.int .i64 num,.int .i64 den,.int .i64 tries,.int .i64 warm,.int .i64 drain,.int .i64 idle,.int .i64 connect,.int .i64 retries,.int .i64 most,.int .i64 bn,.int .i64 bd,.int .i64 bb,.int .i64 ww,.int .i64 wf,.int .i64 wh] 36)) (k:=w.heap.size+1) (.cells #[.int .i64 0,.int .i64 0,.int .i64 0,.int .i64 0,.int .i64 0,.int .i64 0,.int .i64 0,.int .i64 0,.int .i64 0,.int .i64 0,.int .i64 0,.int .i64 0,.int .i64 0,.int .i64 0,.int .i64 0,.int .i64 0,.int .i64 0,.slice none 0 0,.slice none 0 0,.slice none 0 0,.slice none 0 0,.slice none 0 0,.slice none 0 0,.int .i64 0,.int .i64 0,.slice none 0 0] 56) (by simp)) Zs;have B0:=KL ((((KM w.heap.size w).alloc (KY _) (.cells #[.int .i64 (N:Int),.int .i64 num,.int .i64 den,.int .i64 tries,.int .i64 warm,.int .i64 drain,.int .i64 idle,.int .i64 connect,.int .i64 retries,.int .i64 most,.int .i64 bn,.int .i64 bd,.int .i64 bb,.int .i64 ww,.int .i64 wf,.int .i64 wh] 36)).alloc (by simp) (.cells #[.int .i64 0,.int .i64 0,.int .i64 0,.int .i64 0,.int .i64 0,.int .i64 0,.int .i64 0,.int .i64 0,.int .i64 0,.int .i64 0,.int .i64 0,.int .i64 0,.int .i64 0,.int .i64 0,.int .i64 0,.int .i64 0,.int .i64 0,.slice none 0 0,.slice none 0 0,.slice none 0 0,.slice none 0 0,.slice none 0 0,.slice none 0 0,.int .i64 0,.int .i64 0,.slice none 0 0] 56)).trans (hb1.mono Zs));have U:=ae E 0;have d1:=ae E 1;have d2:=ae E 2;have d3:=ae E 3;have d4:=ae E 4;have d5:=ae E 5;have d6:=ae E 6;have d7:=ae E 7;have d8:=ae E 8;have d9:=ae E 9;have d10:=ae E 10;have d11:=ae E 11;have d12:=ae E 12;have a1:=ae E 13;have a2:=ae E 14;have a3:=ae E 15;simp only [Le,Lc,Lb] at U d1 d2 d3 d4 d5 d6 d7 d8 d9 d10 d11 d12 a1 a2 a3;have x0:=KL E;have x1:=KL a5;have m0:w.heap.size<z.heap.size:=lt_of_block E;have m1:w.heap.size+1<z.heap.size:=lt_of_block a5;clear E a5 hb1;go_wp2_with fail;refine wp_region_noPanic ?_;refine wp_region_held_drew (S:=fun w'=>w'.heap[w.heap.size]?=some (.cells #[.int .i64 (N:Int),.int .i64 num,.int .i64 den,.int .i64 tries,.int .i64 warm,.int .i64 drain,.int .i64 idle,.int .i64 connect,.int .i64 retries,.int .i64 most,.int .i64 bn,.int .i64 bd,.int .i64 bb,.int .i64 ww,.int .i64 wf,.int .i64 wh] 36 (0,0))) (by kernel_rfl) ?hb (fun I=>?_)
 case hb=>exact x0.out
 clear U d1 d2 d3 d4 d5 d6 d7 d8 d9 d10 d11 d12 a1 a2 a3;refine wpAnyH_take (i:=0) (v:=?v0) (by simp only [Le,Lb];exact rfl) (by kernel_rfl) (by kernel_rfl) (by kernel_rfl) (fun _ _ _ h=>h) (Or.inl ⟨by rfl,?y0⟩) (by assumption) ?_
 case y0=>(intro w' hSw;(try dsimp only at hSw);have U:=ae hSw 0;have d1:=ae hSw 1;have d2:=ae hSw 2;have d3:=ae hSw 3;have d4:=ae hSw 4;have d5:=ae hSw 5;have d6:=ae hSw 6;have d7:=ae hSw 7;have d8:=ae hSw 8;have d9:=ae hSw 9;have d10:=ae hSw 10;have d11:=ae hSw 11;have d12:=ae hSw 12;have a1:=ae hSw 13;have a2:=ae hSw 14;have a3:=ae hSw 15;simp only [Le,Lc,Lb] at U d1 d2 d3 d4 d5 d6 d7 d8 d9 d10 d11 d12 a1 a2 a3;go_simp;(try with_reducible rfl))
 (try simp only [Act.put,List.setIfInBounds_toArray,List.set_cons_zero,List.set_cons_succ]);refine Z2 1 3 (fun K hK=>?_) (fun K hK=>?_)
 ·skip
  go_simp;refine Zk hK (hS:=by exact (KQ _ _ _ (by first|(simp;omega)|omega)).trans I) fun I=>?_;clear hK K;refine Zt 2 ?_;refine Z1 3 (fun K hK=>?_);go_simp;refine Zk hK (hS:=by exact (KQ _ _ _ (by first|(simp;omega)|omega)).trans I) fun I=>?_;clear hK K;refine Z1 4 (fun K hK=>?_);rw [if_pos (by rfl)];refine LQ 56 (.tmp 5) (.tmp 14) rfl (z.heap.size+1) (ko (N:Int) num den tries warm drain idle connect retries most bn bd bb ww wf wh (.slice none 0 0) (.slice (some ⟨z.heap.size,0,none⟩) 12 12) 0 (.slice none 0 0)) rfl rfl 56 bS (aB (w:=World.alloc (World.drew z) _) (k:=z.heap.size+1) _ (by simp)) (by kernel_rfl) rfl (rC _ _ _ _ _ _ _ _ _ _ _ _ _ _ _ _ _ _ _ _ _ _ _ _ _ _) ?_;refine hK.out _ _ ?s4 (fun I=>?_)
  case s4=>exact bD I (by omega)
  have U:=ae I 0;simp only [Le,Lb] at U;clear hK K I;(try simp only [Act.put]);refine Zd ?_;go_wp2_with fail;clear U;obtain ⟨S1,J⟩:∃ S1,S1=z.heap.size:=⟨_,rfl⟩;obtain ⟨TOP,hT⟩:∃ TOP,TOP=z.heap.size+1+1:=⟨_,rfl⟩;rw [<- J];refine (lW N _ HN.out.1 HN.out.2).mono ?_;rintro e w2 ⟨vt,rfl,Z,hb2⟩;have a0:=hb2.size;simp [World.setRow] at a0;have KB:Below z.heap.size z w2:=(aV ((((KM z.heap.size z).drew).alloc (KY _) _).alloc (by simp) _) (by omega)).trans (hb2.mono (by simp [World.setRow];omega));have xw:w2.heap[(S1+1)]?=some (.cells (ko (N:Int) num den tries warm drain idle connect retries most bn bd bb ww wf wh (.slice none 0 0) (.slice (some ⟨S1,0,none⟩) 12 12) 0 (.slice none 0 0)) 56 (0,0)):=aj hb2 (bB (aB (w:=World.alloc (World.drew z) _) (k:=S1+1) _ (by simp [J]))) (by simp [World.setRow];omega);have xm:w2.heap[S1]?=some (.cells Y 162 (0,0)):=aj hb2 (bD ((KQ (w:=World.alloc (World.drew z) _) _ _ (by simp [J])).trans (aB (w:=World.drew z) _ J)) (by omega)) (by simp [World.setRow];omega);have R2':=KL (aJ (B':=TOP) Z (by simp [World.setRow];omega));have a8:w.heap.size<(S1+1):=by omega
  have a9:w.heap.size+1<(S1+1):=by omega
  have nb3:(S1+1)<TOP:=by omega
  have nb4:(S1+1)≠S1:=by omega
  have aa:w.heap.size+1<S1:=by omega
  have nb6:z.heap.size<=(S1+1):=by omega
  have nb7:w.heap.size+1<TOP:=by omega
  clear hb2 Z hT a0;clear J;generalize S1+1=bw at *;generalize S1=bm at *;exact Q7
 ·skip
  go_simp;refine Zk hK (hS:=by exact (KQ _ _ _ (by first|(simp;omega)|omega)).trans I) fun I=>?_;clear hK K;refine Z1 1 (fun K hK=>?_);go_simp;refine Zk hK (hS:=by exact (KQ _ _ _ (by first|(simp;omega)|omega)).trans I) fun I=>?_;clear hK K;refine Zt 2 ?_;refine Z1 4 (fun K hK=>?_);rw [if_pos (by rfl)];refine LQ 56 (.tmp 5) (.tmp 14) rfl (z.heap.size) (ko (N:Int) num den tries warm drain idle connect retries most bn bd bb ww wf wh (.slice none 0 0) (.slice (some ⟨z.heap.size+1,0,none⟩) 12 12) 0 (.slice none 0 0)) rfl rfl 56 bS ((KQ (w:=World.alloc (World.drew z) _) _ _ (by simp)).trans (aB (w:=World.drew z) _ rfl)) (by kernel_rfl) rfl (rC _ _ _ _ _ _ _ _ _ _ _ _ _ _ _ _ _ _ _ _ _ _ _ _ _ _) ?_;refine hK.out _ _ ?s4b (fun I=>?_)
  case s4b=>exact bD I (by omega)
  have U:=ae I 0;simp only [Le,Lb] at U;clear hK K I;(try simp only [Act.put]);refine Zd ?_;go_wp2_with fail;clear U;obtain ⟨S1,J⟩:∃ S1,S1=z.heap.size:=⟨_,rfl⟩;obtain ⟨TOP,hT⟩:∃ TOP,TOP=z.heap.size+1+1:=⟨_,rfl⟩;rw [<- J];refine (lW N _ HN.out.1 HN.out.2).mono ?_;rintro e w2 ⟨vt,rfl,Z,hb2⟩;have a0:=hb2.size;simp [World.setRow] at a0;have KB:Below z.heap.size z w2:=(aV ((((KM z.heap.size z).drew).alloc (KY _) _).alloc (by simp) _) (by omega)).trans (hb2.mono (by simp [World.setRow];omega));have xw:w2.heap[S1]?=some (.cells (ko (N:Int) num den tries warm drain idle connect retries most bn bd bb ww wf wh (.slice none 0 0) (.slice (some ⟨(S1+1),0,none⟩) 12 12) 0 (.slice none 0 0)) 56 (0,0)):=aj hb2 (bB ((KQ (w:=World.alloc (World.drew z) _) _ _ (by simp [J])).trans (aB (w:=World.drew z) _ J))) (by simp [World.setRow];omega);have xm:w2.heap[(S1+1)]?=some (.cells Y 162 (0,0)):=aj hb2 (bD (aB (w:=World.alloc (World.drew z) _) (k:=S1+1) _ (by simp [J])) (by omega)) (by simp [World.setRow];omega);have R2':=KL (aJ (B':=TOP) Z (by simp [World.setRow];omega));have a8:w.heap.size<S1:=by omega
  have a9:w.heap.size+1<S1:=by omega
  have nb3:S1<TOP:=by omega
  have nb4:S1≠(S1+1):=by omega
  have aa:w.heap.size+1<(S1+1):=by omega
  have nb6:z.heap.size<=S1:=by omega
  have nb7:w.heap.size+1<TOP:=by omega
  clear hb2 Z hT a0;clear J;generalize S1+1=bm at *;generalize S1=bw at *;exact Q7
end
end Go.Proofs.YtennppmadmgfoaaGreatDoor
