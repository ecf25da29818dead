/- Texts of the row's proof. Conditions: none. -/
import Derived.Test.YtfliffgmeobclaaGreatATally
import Derived.Test.YtfliffgmeobclaaGreatK02
namespace Go.Proofs.YtfliffgmeobclaaGreat
set_option maxRecDepth 100000
set_option maxHeartbeats 8000000
open Go.RowKit
theorem take_snoc {α:Type} (X:List α) (d:α) (k:Nat) (hk:k<X.length):X.take (k+1)=X.take k++[X.getD k d]:=by
 rw [I3 hk];simp [List.getD,hk]
def talV (X:List Out):Array Value:=((List.range 17).map fun j=>Value.int .i64 (cnt X j)).toArray
theorem talV_lit (X:List Out):talV X=#[.int .i64 (cnt X 0),.int .i64 (cnt X 1),.int .i64 (cnt X 2),.int .i64 (cnt X 3),.int .i64 (cnt X 4),.int .i64 (cnt X 5),.int .i64 (cnt X 6),.int .i64 (cnt X 7),.int .i64 (cnt X 8),.int .i64 (cnt X 9),.int .i64 (cnt X 10),.int .i64 (cnt X 11),.int .i64 (cnt X 12),.int .i64 (cnt X 13),.int .i64 (cnt X 14),.int .i64 (cnt X 15),.int .i64 (cnt X 16)]:=rfl
theorem IsTal.block {w:World} {b:Nat} {X:List Out} (h:IsTal w b X):∃ T,w.heap[b]?=some (.cells (talV X) T (0,0)):=by
 obtain ⟨arr,T,h1,h2,h3⟩:=h
 refine ⟨T,?_⟩
 rw [h1]
 congr 2
 refine Array.ext (by rw [h2];rfl) (fun i hi _=>?_)
 have h4:=h3 i (by omega)
 rw [Array.getElem?_eq_getElem hi] at h4
 simp only [Option.some.injEq] at h4
 rw [h4]
 simp [talV]
theorem size_talV (X:List Out):(talV X).size=17:=rfl
theorem one_talV (X:List Out):(talV X).all (·.oneCell')=true:=by simp [talV];intro x _;rfl
def TOfRel (w wr:World) (X:List Out) (k:Nat):Prop:=k≤X.length∧Below w.heap.size w wr∧IsTal wr w.heap.size []∧IsTal wr (w.heap.size+1) (X.take k)
theorem Of_row (b0 o0 c0:Nat) (X:List Out) (w:World) (hf:∀ x∈X,Fits x) (hb0:b0<w.heap.size) (hn:X.length*56≤140737488351232) (h1:∀ i j,i<X.length→j<7→w.cell? ⟨b0,o0+i*7+j,none⟩=(X.getD i Out.zero).cells[j]?) :
  Calls Tryz.prog 9 #[.slice (some ⟨b0,o0,none⟩) X.length c0] w fun e w'=>e=.returned (.tuple #[.agg (talV X),.int .i64 0])∧Below w.heap.size w w':=by
 have H1:=Hm h1
 have HF:=Hm hf
 clear h1 hf
 have hn2:X.length≤9223372036854775807:=by omega
 go_enter Tryz.func9,Tryz.ntmps9
 go_wp2
 go_loopw [9] (fun i wr=>∃ k:Nat,i=.int .i64 k∧TOfRel w wr X k) (fun i _=>X.length - (intOf i).toNat)
 case atStart=>
  have hz:∀ (w:World) (T:TypeId),IsTal (w.alloc (.cells #[.int .i64 0,.int .i64 0,.int .i64 0,.int .i64 0,.int .i64 0,.int .i64 0,.int .i64 0,.int .i64 0,.int .i64 0,.int .i64 0,.int .i64 0,.int .i64 0,.int .i64 0,.int .i64 0,.int .i64 0,.int .i64 0,.int .i64 0] T)) w.heap.size []:=by
   intro w T
   refine ⟨_,T,az _ rfl,rfl,fun j hj=>?_⟩
   rcases (show j=0∨j=1∨j=2∨j=3∨j=4∨j=5∨j=6∨j=7∨j=8∨j=9∨j=10∨j=11∨j=12∨j=13∨j=14∨j=15∨j=16 by omega) with rfl|rfl|rfl|rfl|rfl|rfl|rfl|rfl|rfl|rfl|rfl|rfl|rfl|rfl|rfl|rfl|rfl<;>rfl
  refine ⟨0,rfl,Hx _,((Hn _ _).alloc (Hv _) _).alloc (by simp) _,?_,?_⟩
  ·exact (hz w _).below ((Hn _ _).alloc (Hv _) _) (by simp)
  ·simpa using hz (w.alloc _) _
 case round=>
  obtain ⟨k,rfl,hk,hbel,t0,t1⟩:=hrel
  rcases (show k<X.length∨X.length=k by omega) with hlt|heq
  ·have hlt':(k:Int)<(X.length:Int):=by omega
   obtain ⟨o,ho⟩:∃ o,o=X.getD k Out.zero:=⟨_,rfl⟩
   have hfo:Fits o:=HF.out o (by rw [ho];simp only [List.getD,I4 hlt,Il];exact I8 _)
   have hts:X.take (k+1)=X.take k++[o]:=by rw [ho];exact take_snoc X _ k hlt
   have hold:∀ j,j<7→wr.cell? ⟨b0,o0+k*7+j,none⟩=o.cells[j]?:=fun j hj=>by
    rw [hbel.cell (p:=⟨b0,o0+k*7+j,none⟩) hb0,ho];exact H1.out k j hlt hj
   have HT:=Hm hts
   clear ho hts
   have a0:=hold 0 (by omega)
   have a1:=hold 1 (by omega)
   have a2:=hold 2 (by omega)
   have a3:=hold 3 (by omega)
   have a4:=hold 4 (by omega)
   have a5:=hold 5 (by omega)
   have a6:=hold 6 (by omega)
   clear hold
   have HFo:=Hm hfo
   obtain ⟨f1,f2,f3,f4⟩:=hfo
   obtain ⟨kd,sl,gn,bk,rq,cd,wy⟩:=o
   simp only [Out.cells,Hy,Hz,Nat.add_zero] at a0 a1 a2 a3 a4 a5 a6 f1 f2 f3 f4
   obtain ⟨K,rfl⟩:=Ia (by omega:0≤kd)
   obtain ⟨Y,rfl⟩:=Ia (by omega:0≤wy)
   have lt1:=t1.lt
   have leK:=cnt_le (X.take k) K
   have leY:=cnt_le (X.take k) (11+Y)
   have ltk:(X.take k).length≤X.length:=by simp;omega
   have T0:=Hm t0
   have T1:=Hm t1
   clear t0 t1
   go_wp2_with fail
   refine (fits_yes ⟨_,_,_,_,_,_,_⟩ _ HFo.out).mono ?_
   rintro e w1 ⟨rfl,hb1⟩
   obtain ⟨hc1,hf1⟩:=aV hb1
   have hz1:=fQ hb1
   have hy1:=hb1.size
   simp at hy1
   have hB:Below (w.heap.size+2) wr w1:=((Hn _ _).alloc (by omega) _).trans (hb1.mono (by simp;omega))
   have t0:=T0.out.below hB (by omega)
   have t1:=T1.out.below hB (by omega)
   have cK:=t1.cell (j:=K) (by omega)
   have cY:=t1.cell (j:=11+Y) (by omega)
   have fK:=t1.free K
   have fY:=t1.free (11+Y)
   have hz2:w.heap.size+1<w1.heap.size:=by omega
   have hbw:Below w.heap.size w w1:=hbel.trans (hB.mono (by omega))
   have T0':=Hm t0
   have T1':=Hm t1
   have HB:=Hm hbw
   clear t0 t1 T0 T1 hB hbw hb1
   rcases (show K≠6∨K=6 by omega) with h6|h6
   ·have h6':(((K:Nat):Int) == 6)=false:=by simp;omega
    go_wp2
    go_roundw
    case rel=>exact ⟨k+1,by go_num,by omega,HB.out.setCell (by simp) _,T0'.out.below ((Hn (w.heap.size+1) _).setCell (by simp) _) (by omega),by rw [HT.out];exact T1'.out.one _ K rfl (by omega) h6⟩
    case measure=>simp [intOf];omega
   ·subst h6
    go_wp2
    go_roundw
    case rel=>exact ⟨k+1,by go_num,by omega,(HB.out.setCell (by simp) _).setCell (by simp) _,T0'.out.below (((Hn (w.heap.size+1) _).setCell (by simp) _).setCell (by simp) _) (by omega),by rw [HT.out];exact T1'.out.two _ Y rfl rfl (by omega)⟩
    case measure=>simp [intOf];omega
  ·have hge:¬ (k:Int)<(X.length:Int):=by omega
   have hX:X.take k=X:=I7 (by omega)
   rw [hX] at t1
   obtain ⟨T1,g1⟩:=t1.block
   obtain ⟨T0,g0⟩:=t0.block
   have HB:=Hm hbel
   have G1:=Hm g1
   have G0:=Hm g0
   clear t0 t1 hX heq hbel g1 g0
   go_wp2_with (first|(refine Iq rfl 32 (.tmp 4) rfl (w.heap.size+1) rfl T1 (talV X) (0,0) _ G1.out Tryz.underlying32 rfl (by kernel_rfl) ?_)|(refine Ir rfl 32 (.tmp 2) (.tmp 37) rfl w.heap.size (talV X) rfl rfl T0 (talV []) G0.out (by kernel_rfl) rfl (one_talV X) ?_))
   refine Ip (v:=.tuple #[.agg (talV X),.int .i64 0]) ?_ rfl ?_
   ·exact eQ Tryz.results9 _ _ w.heap.size T0 (talV X) (0,0) _ _ rfl rfl (aZ G0.out) Tryz.underlying32 rfl (by kernel_rfl)
   ·exact ⟨rfl,aW HB.out (Hv _)⟩
theorem Of_nil (a:Option Addr) (c:Nat) (w:World):Calls Tryz.prog 9 #[.slice a 0 c] w fun e w'=>e=.returned (.tuple #[.agg (talV []),.int .i64 0])∧Below w.heap.size w w':=by
 go_enter Tryz.func9,Tryz.ntmps9
 go_wp2
 refine wp_loop_rounds 1 ?_
 rw [rounds_succ]
 have hz:∀ (w:World) (T:TypeId),(w.alloc (.cells #[.int .i64 0,.int .i64 0,.int .i64 0,.int .i64 0,.int .i64 0,.int .i64 0,.int .i64 0,.int .i64 0,.int .i64 0,.int .i64 0,.int .i64 0,.int .i64 0,.int .i64 0,.int .i64 0,.int .i64 0,.int .i64 0,.int .i64 0] T)).heap[w.heap.size]?=some (.cells (talV []) T (0,0)):=fun w T=>az _ rfl
 have g1:=hz (w.alloc (.cells #[.int .i64 0,.int .i64 0,.int .i64 0,.int .i64 0,.int .i64 0,.int .i64 0,.int .i64 0,.int .i64 0,.int .i64 0,.int .i64 0,.int .i64 0,.int .i64 0,.int .i64 0,.int .i64 0,.int .i64 0,.int .i64 0,.int .i64 0] 32)) 32
 have g0:=hz w 32
 have G1:=Hm g1
 have G0:=Hm ((Hq _ (.cells #[.int .i64 0,.int .i64 0,.int .i64 0,.int .i64 0,.int .i64 0,.int .i64 0,.int .i64 0,.int .i64 0,.int .i64 0,.int .i64 0,.int .i64 0,.int .i64 0,.int .i64 0,.int .i64 0,.int .i64 0,.int .i64 0,.int .i64 0] 32) w.heap.size (by simp)).trans g0)
 clear hz g1 g0
 go_wp2_with (first|(refine Iq rfl 32 (.tmp 4) rfl (w.heap.size+1) rfl _ (talV []) (0,0) _ G1.out Tryz.underlying32 rfl (by kernel_rfl) ?_)|(refine Ir rfl 32 (.tmp 2) (.tmp 37) rfl w.heap.size (talV []) rfl rfl _ (talV []) G0.out (by kernel_rfl) rfl (one_talV []) ?_))
 refine Ip (v:=.tuple #[.agg (talV []),.int .i64 0]) ?_ rfl ?_
 ·exact eQ Tryz.results9 _ _ w.heap.size _ (talV []) (0,0) _ _ rfl rfl (aZ G0.out) Tryz.underlying32 rfl (by kernel_rfl)
 ·exact ⟨rfl,aW (((Hn _ _).alloc (Hv _) _).alloc (by simp) _) (Hv _)⟩
theorem prog_TOf_ok (v:Value) (X:List Out) (w:World) (r:aI w 7 v (X.map Out.cells)) (hn:X.length*56≤140737488351232) (hf:∀ x∈X,Fits x) :
  Calls Tryz.prog 9 #[v] w fun e w'=>e=.returned (.tuple #[.agg (talV X),.int .i64 0])∧Below w.heap.size w w':=by
 obtain ⟨a,c,rfl,l,m,n,p⟩:=aK Out.zero r
 by_cases hX:X=[]
 ·subst hX;exact Of_nil a c w
 ·obtain ⟨b,o,rfl,hb,q⟩:=p hX
  exact Of_row b o c X w hf hb hn q
end Go.Proofs.YtfliffgmeobclaaGreat
