/- Texts of the row's proof. Conditions: none. -/
import Derived.Test.YtocbhafgjepnjaaGreatK44
namespace Go.Proofs.YtocbhafgjepnjaaGreat
set_option maxRecDepth 100000
set_option maxHeartbeats 8000000
section
open Go.RowKit
def SK (L L':List Lf):Prop:=∀ b x,cW L' b=some x→x.state=2→cW L b=some x
theorem SK.refl (L:List Lf):SK L L:=fun _ _ h _=>h
theorem SK.trans {A B C:List Lf} (h:SK A B) (k:SK B C):SK A C:=fun b x hx h2=>h b x (k b x hx h2) h2
theorem tr:∀ {L:List Lf} {i:Nat} {y:Lf},y.backend=(L.getD i Lf.zero).backend→y.state≠2→SK L (L.set i y)
 | [],i,y,_,_=>by simp;exact SK.refl _
 | a :: L,0,y,hb,hy=>by
  intro b x hx h2;simp only [List.set_cons_zero] at hx;rw [ft] at hx ⊢;have hb':y.backend=a.backend:=hb;rw [hb'] at hx;by_cases g:a.backend=b
  ·rw [if_pos g] at hx;obtain rfl:y=x:=by injection hx
   exact absurd h2 hy
  ·rw [if_neg g] at hx ⊢;exact hx
 | a :: L,i+1,y,hb,hy=>by
  intro b x hx h2;simp only [List.set_cons_succ] at hx;rw [ft] at hx ⊢;by_cases g:a.backend=b
  ·rw [if_pos g] at hx ⊢;exact hx
  ·rw [if_neg g] at hx ⊢;exact tr (L:=L) (i:=i) hb hy b x hx h2
theorem sk_ins {L:List Lf} {k:Nat} {y:Lf} (hn:∀ x∈L,x.backend≠y.backend) (hy:y.state≠2):SK L (ea L k y):=by
 intro b x hx h2;rw [qs hn] at hx;by_cases g:y.backend=b
 ·rw [if_pos g] at hx;obtain rfl:y=x:=by injection hx
  exact absurd h2 hy
 ·rw [if_neg g] at hx;exact hx
theorem n8 (X:Wd) (b:Int):SK X.lives (bP X b).1.lives:=by
 unfold bP
 cases hl:cW X.lives b with
 | none=>exact SK.refl _
 | some x=>
  simp only;by_cases hc:x.state=3∧iO X.tab b X.tab.length=[]
  ·rw [if_pos hc];show SK X.lives (ju X.lives b)
   unfold ju
   cases X.lives.findIdx? (cq b) with
   | none=>exact SK.refl _
   | some i=>exact tr rfl (by simp [Lf.done])
  ·rw [if_neg hc];exact SK.refl _
theorem qH (X:Wd) (i:Nat) (k y:Int):SK X.lives (g9 X i k y).1.lives:=n8 (iJ X i _) _
theorem zJ (X:Wd) (i:Nat) (why:Int):SK X.lives (eu X i why).1.lives:=by
 unfold eu;simp only
 split
 ·exact qH (bO X _ true) _ _ _
 ·split
  ·exact qH (bO X _ true) _ _ _
  ·split
   ·exact SK.refl _
   ·exact n8 (fZ (bO X _ true) _ _) _
theorem due_sk (P:Wd×List Out) (s:Int):SK P.1.lives (ja P s).1.lives:=by
 unfold ja
 split
 ·exact qH _ _ 6 1
 ·exact zJ _ _ _
theorem cut_sk (P:Wd×List Out) (s:Int):SK P.1.lives (lX P s).1.lives:=qH _ _ 6 2
theorem p8 {α:Type} {f:Wd×List Out→α→Wd×List Out} (h:∀ P a,SK P.1.lives (f P a).1.lives):∀ (L:List α) (P:Wd×List Out),SK P.1.lives (L.foldl f P).1.lives
 | [],_=>SK.refl _
 | a :: L,P=>by rw [List.foldl_cons];exact (h P a).trans (p8 h L (f P a))
theorem E9 (P:Wd×List Out) (x:Lf):SK P.1.lives (eO P x).1.lives:=by
 unfold eO
 split
 ·exact SK.refl _
 ·exact p8 cut_sk _ _
def AK (L L':List Lf):Prop:=∀ b x,cW L' b=some x→x.state=2→cW L b=some x∨gp L b≠2
theorem SK.ak {L L':List Lf} (h:SK L L'):AK L L':=fun b x hx h2=>Or.inl (h b x hx h2)
theorem AK.sk {A B C:List Lf} (h:AK A B) (k:SK B C):AK A C:=fun b x hx h2=>h b x (k b x hx h2) h2
theorem Fj (L:List Lf) (now:Int):AK L (L.map (Lf.wk now)):=by
 intro b x hx h2;rw [mt] at hx
 cases hl:cW L b with
 | none=>rw [hl] at hx;simp at hx
 | some z=>
  rw [hl] at hx;simp only [Option.map_some,Option.some.injEq] at hx;unfold Lf.wk at hx;by_cases h1:z.state=1
  ·right
   unfold gp;rw [hl];show z.state≠2;omega
  ·rw [if_neg h1] at hx;left;rw [hx]
theorem uH (X:Wd):(fS X).lives=X.lives.map (Lf.wk (X.now+1)):=by
 have hf:=iv X;unfold fS;simp only;rw [hf]
 rfl
theorem Fu (X:Wd):AK X.lives (gX X).1.lives:=by
 have h:=Fj X.lives (X.now+1);rw [← uH] at h;exact (h.sk (p8 due_sk (ey X) (fS X,[]))).sk (p8 E9 _ _)
theorem jn_sk {L:List Lf} (r:Rq):SK L (Hx L r).1:=by
 unfold Hx
 split
 ·exact SK.refl _
 ·rcases b8 (cq r.backend) L Lf.zero with ⟨e,hn⟩|⟨i,hi,e,hp,_⟩
  ·rw [if_pos (by omega)];refine sk_ins (fun x hx=>?_) (by simp [jm]);have:=hn x hx;simpa [cq,jm] using this
  ·rw [if_neg (by omega)]
   split
   ·exact SK.refl _
   ·refine tr ?_ (by simp [jm]);rw [e,Iu];have:(L.getD i Lf.zero).backend=r.backend:=by simpa [cq] using hp
    rw [this]
    rfl
theorem rt_sk {L:List Lf} (r:Rq) (now drain:Int):SK L (Hr L r now drain).1:=by
 unfold Hr
 split
 ·exact SK.refl _
 ·split
  ·exact SK.refl _
  ·split
   ·exact SK.refl _
   ·refine tr ?_ ?_
    ·unfold iG
     split<;>rfl
    ·unfold iG
     split<;>simp
theorem GP (X:Wd) (e:Ev):SK X.lives (nF X e).L:=by
 unfold nF yI
 split
 ·exact SK.refl _
 ·split
  ·exact SK.refl _
  ·split
   ·exact jn_sk _
   ·exact rt_sk _ _ _
theorem ask_sk (X:Wd) (e:Ev):SK X.lives (oL X e).1.lives:=by
 have h:=GP X e;unfold oL jb;simp only
 split
 ·exact h
 ·split
  ·exact h
  ·exact h.trans (n8 { X with lives:=(nF X e).L,reqs:=(nF X e).R,ring:=bN (dK (nF X e).L) } _)
theorem Gt (X:Wd) (e:Ev):SK X.lives (ez X e).1.lives:=by
 unfold ez
 split
 ·exact SK.refl _
 ·split
  ·exact qH _ _ 7 0
  ·split
   ·simp only
    split<;>exact SK.refl _
   ·split
    ·exact SK.refl _
    ·split
     ·exact SK.refl _
     ·exact zJ _ _ _
theorem do_ak (X:Wd) (e:Ev):AK X.lives (ib X e).1.lives:=by
 unfold ib
 split
 ·refine SK.ak ?_;unfold ep
  split
  ·exact SK.refl _
  ·split<;>exact SK.refl _
 ·split
  ·exact (ask_sk X e).ak
  ·split
   ·exact Fu X
   ·exact (Gt X e).ak
theorem zn {w d m:Int} (h1:1≤w) (hd:0≤d) (hm:0≤m):eo w d m≤w:=by
 unfold eo
 split
 ·exact Int.le_refl _
 ·have:w*d / m≤w:=by
   exact Q148
  omega
theorem Av {w d d' m:Int} (h1:1≤w) (hd:0≤d) (hdd:d≤d') (hm:0≤m):eo w d m≤eo w d' m:=by
 by_cases h':m≤d'
 ·have:eo w d' m=w:=by unfold eo;rw [if_pos h']
  rw [this];exact zn h1 hd hm
 ·have h:¬ m≤d:=by omega
  unfold eo;rw [if_neg h,if_neg h'];have:w*d / m≤w*d' / m:=Int.ediv_le_ediv (by omega) (Int.mul_le_mul_of_nonneg_left hdd (by omega));omega
theorem Fi {X:Wd} (h:WdMay X) {e:Ev} (he:EvMay X e) {y:Lf} (hy:y∈(ib X e).1.lives) (h2:y.state=2) :
  l9 (ib X e).1 y.backend≤y.weight∧(l9 X y.backend≤l9 (ib X e).1 y.backend∨iT (ib X e).1.health y.backend=true):=by
 have hw:=zM h he
 have hn:=yz h he
 have hc:=Eb X e
 have hl:=gI (bZ hw.gw.bk) hy
 have hm:=dz hw.gw.bk hy
 have hs:=hw.gw.si y hy
 have e1:l9 (ib X e).1 y.backend=jn (ib X e).1 y:=by unfold l9;rw [hl];simp only;rw [if_pos h2]
 have w0:0≤X.cf.warm:=h.gw.cf.1.1.1
 rw [e1]
 unfold jn
 rw [hc]
 refine ⟨?_,?_⟩
 ·split
  ·have:=hm.2.2.1;omega
  ·exact zn hm.2.2.1 (by omega) w0
 ·by_cases ho:iT (ib X e).1.health y.backend=true
  ·exact Or.inr ho
  ·left;rw [if_neg ho]
   have hnn:X.now≤(ib X e).1.now:=by rw [hn];split<;>omega
   rcases do_ak X e _ _ hl h2 with g|g
   ·have hsx:=h.gw.si y (dj g).1
    have e2:l9 X y.backend=jn X y:=by unfold l9;rw [g];simp only;rw [if_pos h2]
    rw [e2];unfold jn
    split
    ·have:1≤eo y.weight ((ib X e).1.now - y.since) X.cf.warm:=by
      unfold eo
      split
      ·exact hm.2.2.1
      ·omega
     omega
    ·exact Av hm.2.2.1 (by omega) (by omega) w0
   ·have e2:l9 X y.backend=0:=by
     unfold l9
     cases hx:cW X.lives y.backend with
     | none=>rfl
     | some z=>
      simp only;rw [Cq hx] at g;rw [if_neg g]
    rw [e2];unfold eo
    split
    ·have:=hm.2.2.1;omega
    ·omega
end
end Go.Proofs.YtocbhafgjepnjaaGreat
