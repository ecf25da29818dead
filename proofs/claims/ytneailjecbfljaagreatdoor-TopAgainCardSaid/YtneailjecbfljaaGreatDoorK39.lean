/- Texts of the row's proof. Conditions: none. -/
import Derived.Test.YtneailjecbfljaaGreatDoorK12
import Derived.Test.YtneailjecbfljaaGreatDoorK38
namespace Go.Proofs.YtneailjecbfljaaGreatDoor
set_option maxRecDepth 100000
set_option maxHeartbeats 8000000
section
open Go.RowKit
theorem vT:(Tryz.prog.info? 173).map (fun i=>(i.zero,i.size,i.bytes))=some (some (.slice none 0 0),1,24):=by kernel_rfl
def tS (n:Nat):List (List Value):=List.replicate n [.slice none 0 0]
theorem CV (n:Nat):∀ c∈tS n,c.length=1:=by
 intro c hc;rw [List.eq_of_mem_replicate hc]
 rfl
theorem AE (n:Nat):(madeCells #[.slice none 0 0] (n*1)).toList=(tS n).flatten:=fy #[.slice none 0 0] n (by decide)
def TabNew (w:World) (X:List Sl) (e:Ending) (w':World):Prop:=∃ v,e=.returned (.tuple #[.agg #[v],.int .i64 0])∧aM w.heap.size w' 4 v (X.map Sl.cells)∧Below w.heap.size w w'
def WheNew (w:World) (now:Int) (e:Ending) (w':World):Prop:=∃ v,e=.returned (.tuple #[.agg #[.int .i64 now,v],.int .i64 0])∧aM w.heap.size w' 1 v (tS 25)∧Below w.heap.size w w'
theorem ld (n:Nat) (w:World) (h1:1≤n) (h2:n≤40):Calls Tryz.prog 18 #[.int .i64 n] w (TabNew w (fS n)):=by
 obtain ⟨i0,hi,hz0,hz1,hz2⟩:=info_parts Bc;have g1:(1:Int)≤(n:Int):=by omega
 have g2:(n:Int)≤40:=by omega
 have G1:=Hp h1;have G2:=Hp h2;clear h1 h2;go_enter Tryz.func18,Tryz.ntmps18;go_wp2_with (at_make;go_loud (refine wpList_make_full _ rfl _ _ 37 rfl (w.heap.size+1) 161 i0 (.agg #[.int .i64 0,.bool false,.int .i64 0,.int .i64 0]) 4 Tryz.underlying37 hi hz0 hz1 .i64 .i64 n n n rfl rfl rfl rfl ?c1 ?c2 ?c3 ?_))
 case c1=>have:=G2.out;rw [hz2];omega
 case c2=>have:=G2.out;unfold maxLen;omega
 case c3=>simp
 intro w1 hown hgrow;rw [yf] at hown;have B0:Below (w.heap.size+1) (w.alloc (Obj.cells #[Value.slice none 0 0] 39)) w1:=(Hq _ _).grown hgrow (by simp) (fun k hk=>by cases hk);obtain ⟨hc,hf⟩:=aV B0;have hz:=fQ B0;go_wp2;refine It (v:=.tuple #[.agg #[.slice (some ⟨w.heap.size+1,0,none⟩) n n],.int .i64 0]) ?_ rfl ?_
 ·simp [results,Tryz.results18,go_sem, *]
 ·refine ⟨_,rfl,aG (aD (ownsRow_setCell_below hown (by simp) _) (by simp [fS]) (zY n)) (by omega),?_⟩;exact (((Hq _ _).alloc (Hz _) _).trans (B0.mono (by omega))).setCell (by simp) _
theorem tB (n:Int) (w:World) (h1:0≤n) (h2:n≤1099511627776):Calls Tryz.prog 20 #[.int .i64 n] w (WheNew w n):=by
 obtain ⟨i0,hi,hz0,hz1,hz2⟩:=info_parts vT;go_enter Tryz.func20,Tryz.ntmps20;go_wp2_with (at_make;go_loud (refine wpList_make_full _ rfl _ _ 51 rfl (w.heap.size+1) 173 i0 (.slice none 0 0) 1 Tryz.underlying51 hi hz0 hz1 .i64 .i64 25 25 25 rfl rfl rfl rfl ?c1 ?c2 ?c3 ?_))
 case c1=>rw [hz2];omega
 case c2=>unfold maxLen;omega
 case c3=>simp
 intro w1 hown hgrow;rw [show (madeCells #[.slice none 0 0] 25).toList=(tS 25).flatten from AE 25] at hown;have B0:=(Hq (w.heap.size+1) _).grown hgrow (by simp) (fun k hk=>by cases hk);obtain ⟨hc,hf⟩:=aV B0;have hz:=fQ B0;go_wp2;refine It (v:=.tuple #[.agg #[.int .i64 n,.slice (some ⟨w.heap.size+1,0,none⟩) 25 25],.int .i64 0]) ?_ rfl ?_
 ·simp [results,Tryz.results20,go_sem, *]
 ·refine ⟨_,rfl,aG (aD (ownsRow_setCell_below (ownsRow_setCell_below hown (by simp) _) (by simp) _) (by simp [tS]) (CV 25)) (by omega),?_⟩;exact ((((Hq _ _).alloc (Hz _) _).trans (B0.mono (by omega))).setCell (by simp) _).setCell (by simp) _
def GV (w:World) (num den tries warm drain idle connect retries most bn bd bb ww wf wh:Int) (N:Nat) (e:Ending) (w':World):Prop:=∃ vt vh vl,e=.returned (.tuple #[.agg (jU (N:Int) num den tries warm drain idle connect retries most bn bd bb ww wf wh vt vh (bb*bd) vl),.int .i64 0])∧aI w' 4 vt ((fS N).map Sl.cells)∧aI w' 4 vh (iL 12)∧aI w' 1 vl (tS 25)∧Below w.heap.size w w'
theorem hz_row {w:World} {b:Nat} (h:w.heap[b]?=some (.cells (iL 12).flatten.toArray 148 (0,0))):aI w 4 (.slice (some ⟨b,0,none⟩) 12 12) (iL 12):=
 fL (base:=0) (e:=148) (n:=12) (qm (n:=12) (sz:=4) (I0 _) h (by unfold maxLen;omega) (by rw [aN (kQ 12),ij])) (ij 12) (kQ 12)
theorem ry (num den tries warm drain idle connect retries most bn bd bb ww wf wh:Int) (N:Nat) (w:World) (h:jr ⟨N,num,den,tries,warm,drain,idle,connect,retries,most,bn,bd,bb,ww,wf,wh⟩):Calls Tryz.prog 10 #[.agg #[.int .i64 (N:Int),.int .i64 num,.int .i64 den,.int .i64 tries,.int .i64 warm,.int .i64 drain,.int .i64 idle,.int .i64 connect,.int .i64 retries,.int .i64 most,.int .i64 bn,.int .i64 bd,.int .i64 bb,.int .i64 ww,.int .i64 wf,.int .i64 wh]] w (GV w num den tries warm drain idle connect retries most bn bd bb ww wf wh N):=by
 have H:=Hp h
 have HN:Hid (1≤N∧N≤40):=by
  obtain ⟨⟨_,_,hf1,hf2,_⟩,_,_⟩:=h;simp only at hf1 hf2;exact ⟨by omega,by omega⟩
 have HBd:Hid (i7 bn bd bb):=h.2.1;clear h;obtain ⟨HZ,hHZ⟩:∃ HZ,HZ=(iL 12).flatten.toArray:=⟨_,rfl⟩
 have hmk:∀ W,(Instr.makeSlice 48 (.int .i64 12) (.int .i64 12)).run Tryz.prog W=.ok (.slice (some ⟨W.heap.size,0,none⟩) 12 12) (W.alloc (.cells HZ 148)):=by
  intro W;subst hHZ
  kernel_rfl
 have HHZ:=Hp hHZ;clear hHZ;go_enter Tryz.func10,Tryz.ntmps10;go_wp2_with (go_at_call 17;refine (kh _ _ _ _ _ _ _ _ _ _ _ _ _ _ _ _ _ H.out).mono ?_;rintro e w1 ⟨rfl,hb1⟩);have x0':=aj hb1 ((Hu (w:=w.alloc (.cells #[.int .i64 (N:Int),.int .i64 num,.int .i64 den,.int .i64 tries,.int .i64 warm,.int .i64 drain,.int .i64 idle,.int .i64 connect,.int .i64 retries,.int .i64 most,.int .i64 bn,.int .i64 bd,.int .i64 bb,.int .i64 ww,.int .i64 wf,.int .i64 wh] 35)) (.cells #[.int .i64 0,.int .i64 0,.int .i64 0,.int .i64 0,.int .i64 0,.int .i64 0,.int .i64 0,.int .i64 0,.int .i64 0,.int .i64 0,.int .i64 0,.int .i64 0,.int .i64 0,.int .i64 0,.int .i64 0,.int .i64 0,.int .i64 0,.slice none 0 0,.slice none 0 0,.slice none 0 0,.slice none 0 0,.slice none 0 0,.slice none 0 0,.int .i64 0,.int .i64 0,.slice none 0 0] 55) _ (by simp)).trans (az (w:=w) (.cells #[.int .i64 (N:Int),.int .i64 num,.int .i64 den,.int .i64 tries,.int .i64 warm,.int .i64 drain,.int .i64 idle,.int .i64 connect,.int .i64 retries,.int .i64 most,.int .i64 bn,.int .i64 bd,.int .i64 bb,.int .i64 ww,.int .i64 wf,.int .i64 wh] 35) rfl)) Zs;have x1':=aj hb1 (az (w:=w.alloc (.cells #[.int .i64 (N:Int),.int .i64 num,.int .i64 den,.int .i64 tries,.int .i64 warm,.int .i64 drain,.int .i64 idle,.int .i64 connect,.int .i64 retries,.int .i64 most,.int .i64 bn,.int .i64 bd,.int .i64 bb,.int .i64 ww,.int .i64 wf,.int .i64 wh] 35)) (k:=w.heap.size+1) (.cells #[.int .i64 0,.int .i64 0,.int .i64 0,.int .i64 0,.int .i64 0,.int .i64 0,.int .i64 0,.int .i64 0,.int .i64 0,.int .i64 0,.int .i64 0,.int .i64 0,.int .i64 0,.int .i64 0,.int .i64 0,.int .i64 0,.int .i64 0,.slice none 0 0,.slice none 0 0,.slice none 0 0,.slice none 0 0,.slice none 0 0,.slice none 0 0,.int .i64 0,.int .i64 0,.slice none 0 0] 55) (by simp)) Zs;have B0:=Hp ((((Hq w.heap.size w).alloc (Hz _) (.cells #[.int .i64 (N:Int),.int .i64 num,.int .i64 den,.int .i64 tries,.int .i64 warm,.int .i64 drain,.int .i64 idle,.int .i64 connect,.int .i64 retries,.int .i64 most,.int .i64 bn,.int .i64 bd,.int .i64 bb,.int .i64 ww,.int .i64 wf,.int .i64 wh] 35)).alloc (by simp) (.cells #[.int .i64 0,.int .i64 0,.int .i64 0,.int .i64 0,.int .i64 0,.int .i64 0,.int .i64 0,.int .i64 0,.int .i64 0,.int .i64 0,.int .i64 0,.int .i64 0,.int .i64 0,.int .i64 0,.int .i64 0,.int .i64 0,.int .i64 0,.slice none 0 0,.slice none 0 0,.slice none 0 0,.slice none 0 0,.slice none 0 0,.slice none 0 0,.int .i64 0,.int .i64 0,.slice none 0 0] 55)).trans (hb1.mono Zs));have d0:=ae x0' 0;have d1:=ae x0' 1;have d2:=ae x0' 2;have d3:=ae x0' 3;have d4:=ae x0' 4;have d5:=ae x0' 5;have d6:=ae x0' 6;have d7:=ae x0' 7;have d8:=ae x0' 8;have d9:=ae x0' 9;have d10:=ae x0' 10;have d11:=ae x0' 11;have d12:=ae x0' 12;have d13:=ae x0' 13;have d14:=ae x0' 14;have d15:=ae x0' 15;simp only [I3,I2,I1] at d0 d1 d2 d3 d4 d5 d6 d7 d8 d9 d10 d11 d12 d13 d14 d15;have x0:=Hp x0';have x1:=Hp x1';have m0:w.heap.size<w1.heap.size:=lt_of_block x0';have m1:w.heap.size+1<w1.heap.size:=lt_of_block x1';clear x0' x1' hb1;go_wp2_with fail;refine wp_region_noPanic ?_;refine wp_region_held_drew (S:=fun w'=>w'.heap[w.heap.size]?=some (.cells #[.int .i64 (N:Int),.int .i64 num,.int .i64 den,.int .i64 tries,.int .i64 warm,.int .i64 drain,.int .i64 idle,.int .i64 connect,.int .i64 retries,.int .i64 most,.int .i64 bn,.int .i64 bd,.int .i64 bb,.int .i64 ww,.int .i64 wf,.int .i64 wh] 35 (0,0))) (by kernel_rfl) ?hb (fun hHeld=>?_)
 case hb=>exact x0.out
 clear d0 d1 d2 d3 d4 d5 d6 d7 d8 d9 d10 d11 d12 d13 d14 d15;refine wpAnyH_take (i:=0) (v:=?v0) (by simp only [I3,I1];exact rfl) (by kernel_rfl) (by kernel_rfl) (by kernel_rfl) (fun _ _ _ h=>h) (Or.inl ⟨by rfl,?y0⟩) (by assumption) ?_
 case y0=>(intro w' hSw;(try dsimp only at hSw);have d0:=ae hSw 0;have d1:=ae hSw 1;have d2:=ae hSw 2;have d3:=ae hSw 3;have d4:=ae hSw 4;have d5:=ae hSw 5;have d6:=ae hSw 6;have d7:=ae hSw 7;have d8:=ae hSw 8;have d9:=ae hSw 9;have d10:=ae hSw 10;have d11:=ae hSw 11;have d12:=ae hSw 12;have d13:=ae hSw 13;have d14:=ae hSw 14;have d15:=ae hSw 15;simp only [I3,I2,I1] at d0 d1 d2 d3 d4 d5 d6 d7 d8 d9 d10 d11 d12 d13 d14 d15;go_simp;(try with_reducible rfl))
 (try simp only [Act.put,List.setIfInBounds_toArray,List.set_cons_zero,List.set_cons_succ]);refine Z2 1 3 (fun K hK=>?_) (fun K hK=>?_)
 ·skip
  go_simp;refine Zk hK (hS:=by exact (Hu _ _ _ (by first|(simp;omega)|omega)).trans hHeld) fun hHeld=>?_;clear hK K;refine Zt 2 ?_;refine Z1 3 (fun K hK=>?_);go_simp;refine Zk hK (hS:=by exact (Hu _ _ _ (by first|(simp;omega)|omega)).trans hHeld) fun hHeld=>?_;clear hK K;refine Z1 4 (fun K hK=>?_);rw [if_pos (by rfl)];refine Iw 55 (.tmp 5) (.tmp 14) rfl (w1.heap.size+1) (jU (N:Int) num den tries warm drain idle connect retries most bn bd bb ww wf wh (.slice none 0 0) (.slice (some ⟨w1.heap.size,0,none⟩) 12 12) 0 (.slice none 0 0)) rfl rfl 55 bP (az (w:=World.alloc (World.drew w1) _) (k:=w1.heap.size+1) _ (by simp)) (by kernel_rfl) rfl (qo _ _ _ _ _ _ _ _ _ _ _ _ _ _ _ _ _ _ _ _ _ _ _ _ _ _) ?_;refine hK.out _ _ ?s4 (fun hHeld=>?_)
  case s4=>exact b8 hHeld (by omega)
  have d0:=ae hHeld 0;simp only [I3,I1] at d0;clear hK K hHeld;(try simp only [Act.put]);refine Zd ?_;go_wp2_with fail;clear d0;obtain ⟨S1,hS1⟩:∃ S1,S1=w1.heap.size:=⟨_,rfl⟩;obtain ⟨TOP,hT⟩:∃ TOP,TOP=w1.heap.size+1+1:=⟨_,rfl⟩;rw [← hS1];refine (ld N _ HN.out.1 HN.out.2).mono ?_;rintro e w2 ⟨vt,rfl,R2,hb2⟩;have hs2:=hb2.size;simp [World.setRow] at hs2;have KB:Below w1.heap.size w1 w2:=(aW ((((Hq w1.heap.size w1).drew).alloc (Hz _) _).alloc (by simp) _) (by omega)).trans (hb2.mono (by simp [World.setRow];omega));have xw:w2.heap[(S1+1)]?=some (.cells (jU (N:Int) num den tries warm drain idle connect retries most bn bd bb ww wf wh (.slice none 0 0) (.slice (some ⟨S1,0,none⟩) 12 12) 0 (.slice none 0 0)) 55 (0,0)):=aj hb2 (aZ (az (w:=World.alloc (World.drew w1) _) (k:=S1+1) _ (by simp [hS1]))) (by simp [World.setRow];omega);have xm:w2.heap[S1]?=some (.cells HZ 148 (0,0)):=aj hb2 (b8 ((Hu (w:=World.alloc (World.drew w1) _) _ _ (by simp [hS1])).trans (az (w:=World.drew w1) _ hS1)) (by omega)) (by simp [World.setRow];omega);have R2':=Hp (aG (B':=TOP) R2 (by simp [World.setRow];omega));have nb1:w.heap.size<(S1+1):=by omega
  have nb2:w.heap.size+1<(S1+1):=by omega
  have nb3:(S1+1)<TOP:=by omega
  have nb4:(S1+1)≠S1:=by omega
  have nb5:w.heap.size+1<S1:=by omega
  have nb6:w1.heap.size≤(S1+1):=by omega
  have nb7:w.heap.size+1<TOP:=by omega
  clear hb2 R2 hT hs2;clear hS1;generalize S1+1=bw at *;generalize S1=bm at *;exact Q7
 ·skip
  go_simp;refine Zk hK (hS:=by exact (Hu _ _ _ (by first|(simp;omega)|omega)).trans hHeld) fun hHeld=>?_;clear hK K;refine Z1 1 (fun K hK=>?_);go_simp;refine Zk hK (hS:=by exact (Hu _ _ _ (by first|(simp;omega)|omega)).trans hHeld) fun hHeld=>?_;clear hK K;refine Zt 2 ?_;refine Z1 4 (fun K hK=>?_);rw [if_pos (by rfl)];refine Iw 55 (.tmp 5) (.tmp 14) rfl (w1.heap.size) (jU (N:Int) num den tries warm drain idle connect retries most bn bd bb ww wf wh (.slice none 0 0) (.slice (some ⟨w1.heap.size+1,0,none⟩) 12 12) 0 (.slice none 0 0)) rfl rfl 55 bP ((Hu (w:=World.alloc (World.drew w1) _) _ _ (by simp)).trans (az (w:=World.drew w1) _ rfl)) (by kernel_rfl) rfl (qo _ _ _ _ _ _ _ _ _ _ _ _ _ _ _ _ _ _ _ _ _ _ _ _ _ _) ?_;refine hK.out _ _ ?s4b (fun hHeld=>?_)
  case s4b=>exact b8 hHeld (by omega)
  have d0:=ae hHeld 0;simp only [I3,I1] at d0;clear hK K hHeld;(try simp only [Act.put]);refine Zd ?_;go_wp2_with fail;clear d0;obtain ⟨S1,hS1⟩:∃ S1,S1=w1.heap.size:=⟨_,rfl⟩;obtain ⟨TOP,hT⟩:∃ TOP,TOP=w1.heap.size+1+1:=⟨_,rfl⟩;rw [← hS1];refine (ld N _ HN.out.1 HN.out.2).mono ?_;rintro e w2 ⟨vt,rfl,R2,hb2⟩;have hs2:=hb2.size;simp [World.setRow] at hs2;have KB:Below w1.heap.size w1 w2:=(aW ((((Hq w1.heap.size w1).drew).alloc (Hz _) _).alloc (by simp) _) (by omega)).trans (hb2.mono (by simp [World.setRow];omega));have xw:w2.heap[S1]?=some (.cells (jU (N:Int) num den tries warm drain idle connect retries most bn bd bb ww wf wh (.slice none 0 0) (.slice (some ⟨(S1+1),0,none⟩) 12 12) 0 (.slice none 0 0)) 55 (0,0)):=aj hb2 (aZ ((Hu (w:=World.alloc (World.drew w1) _) _ _ (by simp [hS1])).trans (az (w:=World.drew w1) _ hS1))) (by simp [World.setRow];omega);have xm:w2.heap[(S1+1)]?=some (.cells HZ 148 (0,0)):=aj hb2 (b8 (az (w:=World.alloc (World.drew w1) _) (k:=S1+1) _ (by simp [hS1])) (by omega)) (by simp [World.setRow];omega);have R2':=Hp (aG (B':=TOP) R2 (by simp [World.setRow];omega));have nb1:w.heap.size<S1:=by omega
  have nb2:w.heap.size+1<S1:=by omega
  have nb3:S1<TOP:=by omega
  have nb4:S1≠(S1+1):=by omega
  have nb5:w.heap.size+1<(S1+1):=by omega
  have nb6:w1.heap.size≤S1:=by omega
  have nb7:w.heap.size+1<TOP:=by omega
  clear hb2 R2 hT hs2;clear hS1;generalize S1+1=bm at *;generalize S1=bw at *;exact Q7
end
end Go.Proofs.YtneailjecbfljaaGreatDoor
