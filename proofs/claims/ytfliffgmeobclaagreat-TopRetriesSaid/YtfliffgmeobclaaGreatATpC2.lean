/- Texts of the row's proof. Conditions: none. -/
import Derived.Test.YtfliffgmeobclaaGreatATpC1
import Derived.Test.YtfliffgmeobclaaGreatATally
namespace Go.Proofs.YtfliffgmeobclaaGreat
set_option maxRecDepth 100000
set_option maxHeartbeats 8000000
open Go.RowKit
theorem fit_spared {X:Wd} {b:Int} {o:Out} (h:o∈(bZ X b).2):Fits o:=by
 unfold bZ at h
 cases hl:dt X.lives b with
 | none=>rw [hl] at h;simp at h
 | some x=>
  rw [hl] at h
  simp only at h
  split at h
  ·simp only [List.mem_singleton] at h;subst h;unfold Fits;simp only;omega
  ·simp at h
theorem fit_end {X:Wd} {i:Nat} {k y:Int} (hk:k=6∨k=7) (h0:0≤y) (h5:y≤5) {o:Out} (h:o∈(gQ X i k y).2):Fits o:=by
 unfold gQ at h
 rcases List.mem_cons.1 h with rfl|h
 ·unfold Fits;simp only;omega
 ·exact fit_spared h
theorem fit_fail {X:Wd} {i:Nat} {why:Int} (h0:0≤why) (h5:why≤5) {o:Out} (h:o∈(eU X i why).2):Fits o:=by
 unfold eU at h
 simp only at h
 split at h
 ·exact fit_end (Or.inl rfl) h0 h5 h
 ·split at h
  ·exact fit_end (Or.inl rfl) (by decide) (by decide) h
  ·split at h
   ·simp only [List.mem_singleton] at h;subst h;unfold Fits;simp only;omega
   ·rcases List.mem_cons.1 h with rfl|h
    ·unfold Fits;simp only;omega
    ·exact fit_spared h
theorem fit_cut {P:Wd×List Out} {s:Int} {o:Out} (h:o∈(oL P s).2):o∈P.2∨Fits o:=by
 unfold oL at h
 rcases List.mem_append.1 h with h|h
 ·exact Or.inl h
 ·exact Or.inr (fit_end (Or.inl rfl) (by decide) (by decide) h)
theorem fit_tick {X:Wd} {o:Out} (h:o∈(jc X).2):Fits o:=by
 unfold jc at h
 rcases mI (p:=Fits) (fun P a o h=>by
  unfold gb at h
  split at h
  ·exact Or.inl h
  ·exact mI (p:=Fits) (fun P a o h=>fit_cut h) _ _ _ h) _ _ _ h with h|h
 ·unfold bV at h
  rcases mI (p:=Fits) (fun P a o h=>by
   unfold lX at h
   split at h
   ·rcases List.mem_append.1 h with h|h
    ·exact Or.inl h
    ·exact Or.inr (fit_end (Or.inl rfl) (by decide) (by decide) h)
   ·rcases List.mem_append.1 h with h|h
    ·exact Or.inl h
    ·exact Or.inr (fit_fail (by decide) (by decide) h)) _ _ _ h with h|h
  ·simp at h
  ·exact h
 ·exact h
theorem fit_do {X:Wd} {e:Ev} {o:Out} (h:o∈(mP X e).2):Fits o:=by
 have one:∀ k s g b c,1≤k→k≤10→o=⟨k,s,g,b,0,c,0⟩→Fits o:=fun k s g b c h1 h2 e=>by
  subst e;unfold Fits;simp only;omega
 unfold mP at h
 split at h
 ·unfold gj at h
  split at h
  ·simp only [List.mem_singleton] at h;exact one _ _ _ _ _ (by decide) (by decide) h
  ·split at h
   ·simp only [List.mem_singleton] at h;exact one _ _ _ _ _ (by decide) (by decide) h
   ·simp only [List.mem_singleton] at h;exact one _ _ _ _ _ (by decide) (by decide) h
 ·split at h
  ·unfold uh jF at h
   simp only at h
   split at h
   ·simp only [List.mem_singleton] at h;subst h;unfold Fits;simp only;omega
   ·split at h
    ·rcases List.mem_cons.1 h with rfl|h
     ·unfold Fits;simp only;omega
     ·simp only [List.mem_singleton] at h;subst h;unfold Fits;simp only;omega
    ·rcases List.mem_cons.1 h with rfl|h
     ·unfold Fits;simp only;omega
     ·exact fit_spared h
  ·split at h
   ·exact fit_tick h
   ·unfold fj at h
    split at h
    ·simp only [List.mem_singleton] at h;exact one _ _ _ _ _ (by decide) (by decide) h
    ·split at h
     ·exact fit_end (Or.inr rfl) (by decide) (by decide) h
     ·split at h
      ·simp only [List.mem_singleton] at h;exact one _ _ _ _ _ (by decide) (by decide) h
      ·split at h
       ·simp only [List.mem_singleton] at h;exact one _ _ _ _ _ (by decide) (by decide) h
       ·split at h
        ·simp only [List.mem_singleton] at h;exact one _ _ _ _ _ (by decide) (by decide) h
        ·exact fit_fail (by decide) (by decide) h
theorem fit_all {c:Cf} {P:lA} (h:zH c P):∀ o∈outsA P,Fits o:=by
 intro o ho
 rw [outsA_is] at ho
 obtain ⟨s,hs,ho⟩:=List.mem_flatMap.1 ho
 rw [(h.st s hs).2.2.2.2.2.1] at ho
 exact fit_do ho
theorem cnt_kc (O:List Out) {j:Nat} (hj:j<11):cnt O j=kc (j:Nat) O:=by
 unfold cnt kc
 refine List.countP_congr fun o _=>?_
 unfold cntP
 rw [if_pos hj]
 by_cases h:o.kind=(j:Int)<;>simp [h]
def RetP (c:Cf) (P:lA):Prop:=P.last.cf=c∧P.last.tok+(kc 5 (outsA P):Nat)*c.bd≤c.bb*c.bd+(kc 1 (outsA P):Nat)*c.bn
theorem ret_do {c:Cf} (hc:0≤c.bn) {P:lA} (h:RetP c P) (e:Ev):RetP c (sD P e):=by
 refine ⟨(H9 P.last e).trans h.1,?_⟩
 have h1:=h.2
 have h2:=do_tk P.last e
 rw [h.1] at h2
 rw [outsA_do,kc_app,kc_app,Int.natCast_add,Int.natCast_add,Int.add_mul,Int.add_mul]
 show (mP P.last e).1.tok+_≤_
 rcases h2 with h2|h2
 ·omega
 ·omega
theorem reply_join (X:Wd):∀ {k:Nat},k≤3→k≤kc 8 (outsA (oj X k))
 | 0,_=>Hx _
 | k+1,hk=>by
  have h1:=reply_join X (k:=k) (by omega)
  have h2:1≤kc 8 (mP (oj X k).last (fp (1000+(k:Nat)) (k:Nat) (2+(k:Nat)))).2:=by
   have e5:(fp (1000+(k:Nat)) (k:Nat) (2+(k:Nat))).kind=5:=rfl
   unfold mP
   rw [if_neg (by rw [e5];decide),if_pos (Or.inl e5)]
   unfold uh jF
   simp only
   split
   ·rw [kc_cons];simp
   ·split
    ·rw [kc_cons];simp
    ·rw [kc_cons];simp
  rw [gD,outsA_do,kc_app]
  omega
theorem reply_fold:∀ (L:List Dd) (P:lA),3≤kc 8 (outsA P)→3≤kc 8 (outsA (L.foldl wD P))
 | [],_,h=>h
 | d :: L,P,h=>by
  rw [List.foldl_cons]
  refine reply_fold L _ ?_
  unfold wD
  rw [outsA_do,kc_app]
  omega
theorem reply_play (X:Wd) (L:List Dd) (most:Nat):3≤kc 8 (outsA (iI X L most)):=by
 refine reply_fold _ _ ?_
 rw [ue,outsA_do,kc_app]
 have:=reply_join X (Hv 3)
 omega
theorem ret_play {c:Cf} (hc:ju c) (L:List Dd) {most:Nat} (hm:most≤1000):(kc 5 (outsA (iI (dy c) L most)):Int)*c.bd≤c.bb*c.bd+(kc 1 (outsA (iI (dy c) L most)):Int)*c.bn:=by
 have hn:0≤c.bn:=by have h:=hc.2.1;unfold i8 at h;omega
 have h1:=play_ind hc (Q:=RetP c) L hm ⟨rfl,by show c.bb*c.bd+_≤_;simp [outsA,outsK,kc]⟩ (fun P n e _ _ _ q=>ret_do hn q e)
 have h2:=(xM hc L hm).ok.wd.gw.t0
 have h3:=h1.2
 omega
end Go.Proofs.YtfliffgmeobclaaGreat
