/- Texts of the row's proof. Conditions: none. -/
import Derived.Test.YtfliffgmeobclaaGreatK05
namespace Go.Proofs.YtfliffgmeobclaaGreat
set_option maxRecDepth 100000
set_option maxHeartbeats 8000000
section
open Go.RowKit
theorem FU:(Tryz.prog.info? 70).map (fun i=>(i.zero,i.size,i.bytes))=some (some (.agg #[.int .i64 0,.int .i64 0]),2,16):=by kernel_rfl
def iX (X:List Sl) (b:Int):Nat→List Hd
 | 0=>[]
 | n+1=>iX X b n++(if (X.getD n Sl.zero).used=true∧(X.getD n Sl.zero).backend=b then [⟨n,(X.getD n Sl.zero).gen⟩] else [])
theorem kL (X:List Sl) (b:Int):∀ n,(iX X b n).length≤n
 | 0=>I3 _
 | n+1=>by
  have:=kL X b n;simp only [iX,Ic]
  split<;>simp<;>omega
theorem tR {X:List Sl} {b:Int} {n:Nat} {s:Sl} (hs:s=X.getD n Sl.zero) (h1:s.used=true) (h2:s.backend=b):iX X b (n+1)=iX X b n++[⟨n,s.gen⟩]:=by
 subst hs;simp only [iX];rw [if_pos ⟨h1,h2⟩]
theorem tS {X:List Sl} {b:Int} {n:Nat} {s:Sl} (hs:s=X.getD n Sl.zero) (h:¬ (s.used=true∧s.backend=b)):iX X b (n+1)=iX X b n:=by
 subst hs;simp only [iX];rw [if_neg h,List.append_nil]
theorem hd_len (L:List Hd):∀ c∈L.map Hd.cells,c.length=2:=by
 exact Q29
theorem FZ (L:List Hd) (x:Hd):((L++[x]).map Hd.cells).flatten=(L.map Hd.cells).flatten++x.cells:=by
 rw [Ir,Il];simp
theorem sc {wr w1:World} {B sz n cap:Nat} {t:TypeId} {a:Option Addr} {cs:List Value} {o:Obj} (hB:B≤wr.heap.size) (hown:wr.ownsRow B t sz (.slice a n cap) n cs) (hgrow:(wr.alloc o).grownBy w1 (Value.slice a n cap).ownBlock):Below B wr w1:=
 ((Hv _ _).alloc hB _).trans ((Hv _ _).grown hgrow (by simp;omega) (by
  intro r hr;obtain ⟨_,_,e,_,hb2⟩:=aC hown
  cases a with
  | none=>cases hr
  | some ad=>
   simp only [Value.slice.injEq] at e;have:=(hb2 ad e.1.symm).1;simp only [Value.ownBlock,Option.some.injEq] at hr
   omega))
def Eu (w:World) (X:List Sl) (b:Int) (e:Ending) (w':World):Prop:=∃ v,e=.returned (.tuple #[v,.int .i64 0])∧aM w.heap.size w' 2 v ((iX X b X.length).map Hd.cells)∧Below w.heap.size w w'
def Et (w wr:World) (s:Value) (X:List Sl) (b:Int) (k:Nat) (l:Value):Prop:=Below w.heap.size w wr∧w.heap.size<wr.heap.size∧wr.cell? ⟨w.heap.size,0,none⟩=some s∧
 ∃ (a:Option Addr) (cap:Nat),l=.slice a (iX X b k).length cap∧wr.ownsRow (w.heap.size+1) 70 2 (.slice a (iX X b k).length cap) (iX X b k).length ((iX X b k).map Hd.cells).flatten
theorem jh {wr w':World} {B sz n:Nat} {t:TypeId} {v:Value} {cs:List Value} (h:wr.ownsRow B t sz v n cs) (hb:Below wr.heap.size wr w'):w'.ownsRow B t sz v n cs:=by
 exact Q105
theorem jB {w:World} {n:Nat} (h:n=w.heap.size) (cs:List Value) (t:TypeId):∀ (j:Nat) (u:Value),cs[j]?=some u→(w.alloc (Obj.cells cs.toArray t)).cell? ((⟨n,0,none⟩:Addr).add j)=some u:=by
 subst h;exact ko cs t
theorem qc (b0 o0 c0:Nat) (X:List Sl) (b:Int) (w:World) (hb0:b0<w.heap.size) (hm:dN X) (r:aI w 4 (.slice (some ⟨b0,o0,none⟩) X.length c0) (X.map Sl.cells)) (h1:∀ i j,i<X.length→j<4→w.cell? ⟨b0,o0+i*4+j,none⟩=(X.getD i Sl.zero).cells[j]?) :
  Calls Tryz.prog 75 #[.agg #[.slice (some ⟨b0,o0,none⟩) X.length c0],.int .i64 b] w (Eu w X b):=by
 obtain ⟨i0,hi,hz0,hz1,hz2⟩:=info_parts FU
 have H1:=Hu h1
 have R:=Hu r
 have M:=Hu hm
 have g2:X.length≤40:=hm.2.1
 clear h1 r hm
 go_enter Tryz.func75,Tryz.ntmps75
 go_wp2_with (go_at_call 41;refine (fc _ X _ (ai R.out _) M.out).mono ?_;rintro e w1 ⟨rfl,hb1⟩;obtain ⟨hc1,hf1⟩:=aV hb1;have hz1:=fQ hb1;have hy1:=hb1.size;(try simp at hy1))
 go_loopw [7,18] (fun l i wr=>∃ k:Nat,k≤X.length∧i=.int .i64 k∧Et w wr (.slice (some ⟨b0,o0,none⟩) X.length c0) X b k l) (fun _ i _=>X.length - (intOf i).toNat)
 case atStart=>
  refine ⟨0,I4 _,rfl,((Hv _ _).alloc (I3 _) _).trans (hb1.mono (by simp)),by omega,?_,none,0,rfl,Iv _ _ _ _⟩;rw [hc1 _ _ (by simp)];go_simp
 case round=>
  obtain ⟨k,hk,rfl,hb,hsz,c1,a,cap,rfl,hown⟩:=hrel;have hL:=kL X b k;rcases (show k<X.length∨X.length=k by omega) with hlt|heq
  ·have hlt':(k:Int)<(X.length:Int):=by omega
   obtain ⟨s,hs⟩:∃ s,s=X.getD k Sl.zero:=⟨_,rfl⟩
   have hold:∀ j,j<4→wr.cell? ⟨b0,o0+k*4+j,none⟩=s.cells[j]?:=fun j hj=>by
    exact Q170
   have a0:=hold 0 (by omega);have a1:=hold 1 (by omega);have a2:=hold 2 (by omega);have a3:=hold 3 (by omega);clear hold;have HS:=Hu hs;have HB:=Hu hb;have HO:=Hu hown;clear hs hb hown hc1 hf1 hz1 hb1;obtain ⟨g,u,ky,bb⟩:=s;simp only [Sl.cells,I5,I6,Nat.add_zero] at a0 a1 a2 a3
   cases u with
   | false=>
    have KB:=Hu ((Hv wr.heap.size wr).alloc (I3 _) (.cells #[.int .i64 g,.bool false,.int .i64 ky,.int .i64 bb] 143));go_wp2;go_roundw
    case rel=>exact ⟨k+1,by omega,by go_num,by unfold Et;rw [tS HS.out (by simp)];exact ⟨HB.out.trans (KB.out.mono (by omega)),by simp;omega,by go_simp,a,cap,rfl,jh HO.out KB.out⟩⟩
    case measure=>simp [intOf];omega
   | true=>
    have KB:=Hu ((Hv wr.heap.size wr).alloc (I3 _) (.cells #[.int .i64 g,.bool true,.int .i64 ky,.int .i64 bb] 143));by_cases hbb:bb=b
    ·subst hbb;go_wp2_with (at_builtin;go_loud (refine wpList_append_own _ rfl _ _ 64 rfl (w.heap.size+1) 70 i0 (.agg #[.int .i64 0,.int .i64 0]) 2 16 Tryz.underlying64 hi hz0 hz1 hz2 rfl (by decide) _ (iX X bb k).length _ rfl ((jh HO.out KB.out).alloc _) ⟨wr.heap.size+1,0,none⟩ 1 1 (Hd.cells ⟨k,g⟩) rfl rfl (jB (w:=wr.alloc (.cells #[.int .i64 g,.bool true,.int .i64 ky,.int .i64 bb] 143)) (by simp) (Hd.cells ⟨k,g⟩) 70) ?c1 ?c2 ?c3 ?c4 ?_))
     case c1=>intro u hu;simp [Hd.cells] at hu;rcases hu with rfl|rfl<;>rfl
     case c2=>unfold maxLen;omega
     case c3=>omega
     case c4=>simp;omega
     intro v' w1 hown' hgrow _;have hB:=sc (by simp;omega) (jh HO.out KB.out) hgrow;obtain ⟨a',cap',rfl,_,_⟩:=aC hown';have HB2:=Hu ((HB.out.trans (KB.out.mono (by omega))).trans (hB.mono (by omega)))
     have hsz2:w.heap.size<w1.heap.size:=by have:=hB.size;simp at this;omega
     have c2:w1.cell? ⟨w.heap.size,0,none⟩=some (.slice (some ⟨b0,o0,none⟩) X.length c0):=(hB.cell (p:=⟨w.heap.size,0,none⟩) (by simp)).trans ((KB.out.cell (p:=⟨w.heap.size,0,none⟩) hsz).trans c1);have HO2:=Hu hown';clear hown' hgrow hB;go_wp2;go_roundw
     case rel=>
      refine ⟨k+1,by omega,by go_num,HB2.out,hsz2,c2,a',cap',?_,?_⟩
      ·rw [tR HS.out rfl rfl];simp
      ·rw [tR HS.out rfl rfl,FZ];simpa using HO2.out
     case measure=>simp [intOf];omega
    ·have hd:(bb == b)=false:=by simpa using hbb
     go_wp2;go_roundw
     case rel=>exact ⟨k+1,by omega,by go_num,by unfold Et;rw [tS HS.out (by simpa using hbb)];exact ⟨HB.out.trans (KB.out.mono (by omega)),by simp;omega,by go_simp,a,cap,rfl,jh HO.out KB.out⟩⟩
     case measure=>simp [intOf];omega
  ·have hge:¬ (k:Int)<(X.length:Int):=by omega
   have HB:=Hu hb;have HO:=Hu hown;clear hb hown hc1 hf1 hz1 hb1;go_wp2;refine Ix (v:=.tuple #[.slice a (iX X b k).length cap,.int .i64 0]) ?_ rfl ?_
   ·simp [results,Tryz.results75,go_sem, *]
   ·exact ⟨_,rfl,by rw [heq];exact aG (aD HO.out (by simp) (hd_len _)) (by omega),HB.out⟩
def gN (weight d warm:Int):Int:=if warm≤d then weight else max (weight*d / warm) 1
theorem mul_bd {a d:Int} (A D:Int) (h1:0≤a) (h2:a≤A) (h3:0≤d) (h4:d≤D):0≤a*d∧a*d≤A*D:=
 ⟨Int.mul_nonneg h1 h3,Int.mul_le_mul h2 h4 h3 (by omega)⟩
theorem gW (weight since now warm:Int) (w:World) (h1:1≤weight) (h2:weight≤8) (h3:0≤warm) (h4:warm≤500) (h5:0≤since) (h6:since≤1099511627776) (h7:since≤now) (h8:now≤1099511627776) :
  Calls Tryz.prog 141 #[.int .i64 weight,.int .i64 since,.int .i64 now,.int .i64 warm] w fun e w'=>e=.returned (.tuple #[.int .i64 (gN weight (now - since) warm),.int .i64 0])∧w=w':=by
 have hX:=mul_bd (a:=weight) (d:=now - since) 8 1099511627776 (by omega) (by omega) (by omega) (by omega)
 obtain ⟨hX0,hX1⟩:=hX
 by_cases hc:warm≤now - since
 ·go_enter Tryz.func141,Tryz.ntmps141;go_wp2
  all_goals first|(go_ret2;exact ⟨rII (by rw [gN,if_pos hc]) rfl,rfl⟩)|exact Zx
 ·by_cases hd:weight*(now - since) / warm<1
  all_goals
   go_enter Tryz.func141,Tryz.ntmps141
   go_wp2
   all_goals first|(go_ret2;exact ⟨rII (by rw [gN,if_neg (by omega)];omega) rfl,rfl⟩)|exact Zx
def Ld.agg (x:Ld):Value:=.agg #[.int .i64 x.backend,.int .i64 x.weight,.int .i64 x.flows]
theorem Di (N:Nat) (caps:Array Value) (hN:∀ args w,(callFunc N args).run Tryz.prog w=.ok (.enter N args) w) (p:Ld→Bool) (b0 o0 c0:Nat) (X:List Ld) (w:World) (hb0:b0<w.heap.size) (hn:X.length≤4611686018427387903) (h1:∀ i j,i<X.length→j<3→w.cell? ⟨b0,o0+i*3+j,none⟩=(X.getD i Ld.zero).cells[j]?)
  (hf:∀ x∈X,∀ w',Below w.heap.size w w'→Calls Tryz.prog N (caps.push (Ld.agg x)) w' fun e w''=>e=.returned (.bool (p x))∧Below w'.heap.size w' w'') :
  Calls Tryz.prog 159 #[.slice (some ⟨b0,o0,none⟩) X.length c0,.func (.func N) caps #[]] w fun e w'=>e=.returned (.int .i64 (aQ p X))∧Below w.heap.size w w':=by
 have H1:=Hu h1
 have HF:=Hu hf
 have hn2:X.length≤9223372036854775807:=by omega
 clear h1 hf
 go_enter Tryz.func159,Tryz.ntmps159
 go_wp2
 go_loopw [8] (fun i wr=>∃ k:Nat,k≤X.length∧i=.int .i64 k∧Below w.heap.size w wr∧∀ x∈X.take k,p x=false) (fun i _=>X.length - (intOf i).toNat)
 case atStart=>exact ⟨0,I4 _,rfl,Hv _ _,fun x hx=>by simp at hx⟩
 case round=>
  exact Q67
theorem Dj (N:Nat) (caps:Array Value) (a:Option Addr) (c:Nat) (w:World):Calls Tryz.prog 159 #[.slice a 0 c,.func (.func N) caps #[]] w fun e w'=>e=.returned (.int .i64 (-1))∧Below w.heap.size w w':=by
 go_enter Tryz.func159,Tryz.ntmps159;exact Q25
theorem Dk (N:Nat) (caps:Array Value) (hN:∀ args w,(callFunc N args).run Tryz.prog w=.ok (.enter N args) w) (p:Ld→Bool) (v:Value) (X:List Ld) (w:World) (r:aI w 3 v (X.map Ld.cells)) (hn:X.length≤4611686018427387903)
  (hf:∀ x∈X,∀ w',Below w.heap.size w w'→Calls Tryz.prog N (caps.push (Ld.agg x)) w' fun e w''=>e=.returned (.bool (p x))∧Below w'.heap.size w' w'') :
  Calls Tryz.prog 159 #[v,.func (.func N) caps #[]] w fun e w'=>e=.returned (.int .i64 (aQ p X))∧Below w.heap.size w w':=by
 obtain ⟨a,c,rfl,l,m,n,q⟩:=aK Ld.zero r
 by_cases hX:X=[]
 ·subst hX;exact Dj N caps a c w
 ·obtain ⟨b,o,rfl,hb,q⟩:=q hX;exact Di N caps hN p b o c X w hb hn q hf
theorem mR (N:Nat) (caps:Array Value) (hN:∀ args w,(callFunc N args).run Tryz.prog w=.ok (.enter N args) w) (p:Ld→Bool) (v:Value) (X:List Ld) (w:World) (r:aI w 3 v (X.map Ld.cells)) (hn:X.length≤4611686018427387903)
  (hf:∀ x∈X,∀ w',Below w.heap.size w w'→Calls Tryz.prog N (caps.push (Ld.agg x)) w' fun e w''=>e=.returned (.bool (p x))∧Below w'.heap.size w' w'') :
  Calls Tryz.prog 137 #[v,.func (.func N) caps #[]] w fun e w'=>e=.returned (.bool (X.any p))∧Below w.heap.size w w':=by
 have K:=Hu (Dk N caps hN p v X w r hn hf)
 have HI:=ir p X
 obtain ⟨a,c,rfl,_⟩:=aq r
 clear r hf
 obtain ⟨i,hi⟩:∃ i,i=aQ p X:=⟨_,rfl⟩
 rw [← hi] at K HI
 clear hi
 cases hx:X.any p with
 | true=>
  have hi0:0≤i:=HI.1.1 hx;clear HI hx;go_enter Tryz.func137,Tryz.ntmps137;exact Q38
 | false=>
  have hi0:decide (0≤i)=false:=by have:=HI.2.1 hx;simp;omega
  clear HI hx;go_enter Tryz.func137,Tryz.ntmps137;exact Q38
theorem AV (N:Nat) (cp:Addr) (hN:∀ args w,(callFunc N args).run Tryz.prog w=.ok (.enter N args) w) (p:Ld→Bool) (b0 o0 c0:Nat) (X:List Ld) (w:World) (hb0:b0<w.heap.size) (hn:X.length≤4611686018427387903) (h1:∀ i j,i<X.length→j<3→w.cell? ⟨b0,o0+i*3+j,none⟩=(X.getD i Ld.zero).cells[j]?)
  (hf:∀ x∈X,∀ w',Below w.heap.size w w'→Calls Tryz.prog N #[Ld.agg x,.pointer (some cp)] w' fun e w''=>e=.returned (.bool (p x))∧Below w'.heap.size w' w'') :
  Calls Tryz.prog 159 #[.slice (some ⟨b0,o0,none⟩) X.length c0,.func (.func N) #[] #[.pointer (some cp)]] w fun e w'=>e=.returned (.int .i64 (aQ p X))∧Below w.heap.size w w':=by
 have H1:=Hu h1
 have HF:=Hu hf
 have hn2:X.length≤9223372036854775807:=by omega
 clear h1 hf
 go_enter Tryz.func159,Tryz.ntmps159
 go_wp2
 go_loopw [8] (fun i wr=>∃ k:Nat,k≤X.length∧i=.int .i64 k∧Below w.heap.size w wr∧∀ x∈X.take k,p x=false) (fun i _=>X.length - (intOf i).toNat)
 case atStart=>exact ⟨0,I4 _,rfl,Hv _ _,fun x hx=>by simp at hx⟩
 case round=>
  exact Q67
theorem AY (N:Nat) (cp:Addr) (a:Option Addr) (c:Nat) (w:World):Calls Tryz.prog 159 #[.slice a 0 c,.func (.func N) #[] #[.pointer (some cp)]] w fun e w'=>e=.returned (.int .i64 (-1))∧Below w.heap.size w w':=by
 go_enter Tryz.func159,Tryz.ntmps159;exact Q25
theorem B7 (N:Nat) (cp:Addr) (hN:∀ args w,(callFunc N args).run Tryz.prog w=.ok (.enter N args) w) (p:Ld→Bool) (v:Value) (X:List Ld) (w:World) (r:aI w 3 v (X.map Ld.cells)) (hn:X.length≤4611686018427387903)
  (hf:∀ x∈X,∀ w',Below w.heap.size w w'→Calls Tryz.prog N #[Ld.agg x,.pointer (some cp)] w' fun e w''=>e=.returned (.bool (p x))∧Below w'.heap.size w' w'') :
  Calls Tryz.prog 159 #[v,.func (.func N) #[] #[.pointer (some cp)]] w fun e w'=>e=.returned (.int .i64 (aQ p X))∧Below w.heap.size w w':=by
 obtain ⟨a,c,rfl,l,m,n,q⟩:=aK Ld.zero r
 by_cases hX:X=[]
 ·subst hX;exact AY N cp a c w
 ·obtain ⟨b,o,rfl,hb,q⟩:=q hX;exact AV N cp hN p b o c X w hb hn q hf
theorem vm (K:Nat) (w:World) (h:K<4294967296):Calls Tryz.prog 134 #[.int .i64 K] w fun e w'=>e=.returned (.tuple #[.int .i64 (ye (K % 256) (K / 256 % 256) (K / 65536 % 256) (K / 16777216)),.int .i64 0])∧Below w.heap.size w w':=by
 go_enter Tryz.func134,Tryz.ntmps134;go_wp2_with fail;refine (uY w.heap.size (K % 256) (K / 256 % 256) (K / 65536 % 256) (K / 16777216) _ (by omega) (by omega) (by omega) (by omega) (by simp) (by simp) (by simp) (by simp)).mono ?_;exact Q146
theorem tD (k:Int) (w:World) (h:k<0∨(0≤k∧4294967295<k)):Calls Tryz.prog 134 #[.int .i64 k] w fun e w'=>e=.returned (.tuple #[.int .i64 0,.int .i64 2])∧Below w.heap.size w w':=by
 rcases h with h|⟨h,h2⟩
 all_goals
  go_enter Tryz.func134,Tryz.ntmps134
  go_wp2
  all_goals first|(go_ret2;exact ⟨rII rfl rfl,Zb⟩)|exact Zx
theorem tB (b i:Nat) (w:World) (hb:b≤11) (hi:i≤31):Calls Tryz.prog 149 #[.int .i64 b,.int .i64 i] w fun e w'=>e=.returned (.tuple #[.int .i64 (ye 98 b i 115),.int .i64 0])∧Below w.heap.size w w':=by
 have eb:(b:Int) % 256=b:=by omega
 have ei:(i:Int) % 256=i:=by omega
 go_enter Tryz.func149,Tryz.ntmps149;go_wp2_with fail;refine (uY w.heap.size 98 b i 115 _ (by omega) (by omega) (by omega) (by omega) (by simp) (by simp) (by simp) (by simp)).mono ?_;exact Q146
def Tm.agg (x:Tm):Value:=.agg #[.int .i64 x.at_,.int .i64 x.id]
theorem AL (N:Nat) (cp:Addr) (hN:∀ args w,(callFunc N args).run Tryz.prog w=.ok (.enter N args) w) (p:Tm→Bool) (b0 o0 c0:Nat) (X:List Tm) (w:World) (hb0:b0<w.heap.size) (hn:X.length≤4611686018427387903) (h1:∀ i j,i<X.length→j<2→w.cell? ⟨b0,o0+i*2+j,none⟩=(X.getD i Tm.zero).cells[j]?)
  (hf:∀ x∈X,∀ w',Below w.heap.size w w'→Calls Tryz.prog N #[Tm.agg x,.pointer (some cp)] w' fun e w''=>e=.returned (.bool (p x))∧Below w'.heap.size w' w'') :
  Calls Tryz.prog 130 #[.slice (some ⟨b0,o0,none⟩) X.length c0,.func (.func N) #[] #[.pointer (some cp)]] w fun e w'=>e=.returned (.int .i64 (aQ p X))∧Below w.heap.size w w':=by
 have H1:=Hu h1
 have HF:=Hu hf
 have hn2:X.length≤9223372036854775807:=by omega
 clear h1 hf
 go_enter Tryz.func130,Tryz.ntmps130
 go_wp2
 go_loopw [8] (fun i wr=>∃ k:Nat,k≤X.length∧i=.int .i64 k∧Below w.heap.size w wr∧∀ x∈X.take k,p x=false) (fun i _=>X.length - (intOf i).toNat)
 case atStart=>exact ⟨0,I4 _,rfl,Hv _ _,fun x hx=>by simp at hx⟩
 case round=>
  obtain ⟨k,hk,rfl,hbel,hall⟩:=hrel;have HA:=Hu hall;clear hall;rcases (show k<X.length∨X.length=k by omega) with hlt|heq
  ·have hlt':(k:Int)<(X.length:Int):=by omega
   obtain ⟨o,ho⟩:∃ o,o=X.getD k Tm.zero:=⟨_,rfl⟩;have HO:=Hu ho
   have hm:o∈X:=by rw [ho];simp only [List.getD,Ib hlt,Iu];exact If _
   have HC:=Hu (HF.out o hm _ hbel)
   have hold:∀ j,j<2→wr.cell? ⟨b0,o0+k*2+j,none⟩=o.cells[j]?:=fun j hj=>by
    exact Q168
   have a0:=hold 0 (by omega);have a1:=hold 1 (by omega);clear hold ho hm;have HB:=Hu hbel;clear hbel;simp only [Tm.cells,I5,I6,Nat.add_zero] at a0 a1;exact Q11
  ·exact Q23
theorem AM (N:Nat) (cp:Addr) (a:Option Addr) (c:Nat) (w:World):Calls Tryz.prog 130 #[.slice a 0 c,.func (.func N) #[] #[.pointer (some cp)]] w fun e w'=>e=.returned (.int .i64 (-1))∧Below w.heap.size w w':=by
 go_enter Tryz.func130,Tryz.ntmps130;exact Q25
theorem su (N:Nat) (cp:Addr) (hN:∀ args w,(callFunc N args).run Tryz.prog w=.ok (.enter N args) w) (p:Tm→Bool) (v:Value) (X:List Tm) (w:World) (r:aI w 2 v (X.map Tm.cells)) (hn:X.length≤4611686018427387903)
  (hf:∀ x∈X,∀ w',Below w.heap.size w w'→Calls Tryz.prog N #[Tm.agg x,.pointer (some cp)] w' fun e w''=>e=.returned (.bool (p x))∧Below w'.heap.size w' w'') :
  Calls Tryz.prog 130 #[v,.func (.func N) #[] #[.pointer (some cp)]] w fun e w'=>e=.returned (.int .i64 (aQ p X))∧Below w.heap.size w w':=by
 obtain ⟨a,c,rfl,l,m,n,q⟩:=aK Tm.zero r
 by_cases hX:X=[]
 ·subst hX;exact AM N cp a c w
 ·obtain ⟨b,o,rfl,hb,q⟩:=q hX;exact AL N cp hN p b o c X w hb hn q hf
def nT (X:List Sl) (sl gn:Int) (o:Sl) (code:Int):Prop:=
 (¬ dN X∧o=Sl.zero∧code=6)∨(dN X∧(sl<0∨(0≤sl∧(X.length:Int)≤sl))∧o=Sl.zero∧code=8)∨
 (dN X∧∃ i:Nat,i<X.length∧sl=i∧(((X.getD i Sl.zero).used=true∧(X.getD i Sl.zero).gen=gn∧o=X.getD i Sl.zero∧code=0)∨
  (((X.getD i Sl.zero).used=false∨((X.getD i Sl.zero).used=true∧(X.getD i Sl.zero).gen≠gn))∧o=Sl.zero∧code=10)))
theorem fW (X:List Sl) (sl gn:Int) (o:Sl) (code:Int) (v:Value) (w:World) (r:aI w 4 v (X.map Sl.cells)) (h:nT X sl gn o code) :
  Calls Tryz.prog 76 #[.agg #[v],.agg #[.int .i64 sl,.int .i64 gn]] w fun e w'=>e=.returned (.tuple #[.agg #[.int .i64 o.gen,.bool o.used,.int .i64 o.key,.int .i64 o.backend],.int .i64 code])∧Below w.heap.size w w':=by
 have R:=Hu r
 obtain ⟨a,c,rfl,l,m,n,p⟩:=aK Sl.zero r
 clear r
 rcases h with ⟨h,rfl,rfl⟩|⟨h,h2,rfl,rfl⟩|⟨h,i,hi,rfl,hc⟩
 ·have H:=Hu h;clear h l m n p;go_enter Tryz.func76,Tryz.ntmps76;go_wp2_with (go_at_call 41;refine (tq _ X _ (ai (ai (ai R.out _) _) _) H.out).mono ?_;rintro e w1 ⟨rfl,hb1⟩;obtain ⟨hc1,hf1⟩:=aV hb1;have hz1:=fQ hb1;have hy1:=hb1.size;(try simp at hy1));refine Ix (v:=.tuple #[.agg #[.int .i64 0,.bool false,.int .i64 0,.int .i64 0],.int .i64 6]) ?_ rfl ?_;(focus (first|(simp [results,Tryz.results76,go_sem];done)|(simp [results,Tryz.results76,go_sem, *];done)));exact ⟨rfl,Zb⟩
 ·have H:=Hu h;have hX:X.length≤40:=h.2.1;clear h l m n p;rcases h2 with h2|⟨h2,h3⟩
  all_goals
   go_enter Tryz.func76,Tryz.ntmps76
   go_wp2_with (go_at_call 41;refine (fc _ X _ (ai (ai (ai R.out _) _) _) H.out).mono ?_;rintro e w1 ⟨rfl,hb1⟩;obtain ⟨hc1,hf1⟩:=aV hb1;have hz1:=fQ hb1;have hy1:=hb1.size;(try simp at hy1))
   (refine Ix (v:=.tuple #[.agg #[.int .i64 0,.bool false,.int .i64 0,.int .i64 0],.int .i64 8]) ?_ rfl ?_;(focus (first|(simp [results,Tryz.results76,go_sem];done)|(simp [results,Tryz.results76,go_sem, *];done)));exact ⟨rfl,Zb⟩)
 ·have H:=Hu h;have hX:X.length≤40:=h.2.1;obtain ⟨b0,o0,rfl,hb0,q⟩:=p (by intro hX;rw [hX] at hi;simp at hi);have hi':(i:Int)<(X.length:Int):=by omega
  obtain ⟨s,hs⟩:∃ s,s=X.getD i Sl.zero:=⟨_,rfl⟩;rw [← hs] at hc
  have hold:∀ j,j<4→w.cell? ⟨b0,o0+i*4+j,none⟩=s.cells[j]?:=fun j hj=>by rw [hs];exact q i j hi hj
  have a0:=hold 0 (by omega);have a1:=hold 1 (by omega);have a2:=hold 2 (by omega);have a3:=hold 3 (by omega);clear hold hs q p h l m n;obtain ⟨g,u,ky,b⟩:=s;simp only [Sl.cells,I5,I6,Nat.add_zero] at a0 a1 a2 a3 hc;rcases hc with ⟨rfl,rfl,rfl,rfl⟩|⟨hc,rfl,rfl⟩
  ·go_enter Tryz.func76,Tryz.ntmps76;go_wp2_with fail;refine (fc _ X _ (ai (ai (ai R.out _) _) _) H.out).mono ?_;rintro e w1 ⟨rfl,hb1⟩;obtain ⟨hc1,hf1⟩:=aV hb1;have hz1:=fQ hb1;have hy1:=hb1.size;simp at hy1;have hb2:b0<w.heap.size+1:=by omega
   have hb3:b0<w.heap.size+1+1:=by omega
   have hb4:b0<w.heap.size+1+1+1:=by omega
   go_wp2;refine Ix (v:=.tuple #[.agg #[.int .i64 g,.bool true,.int .i64 ky,.int .i64 b],.int .i64 0]) ?_ rfl ?_;(focus (first|(simp [results,Tryz.results76,go_sem];done)|(simp [results,Tryz.results76,go_sem, *];done)));exact ⟨rfl,Zb⟩
  ·rcases hc with rfl|⟨rfl,hg⟩
   ·exact Q36
   ·have hd:(g == gn)=false:=by simpa using hg
    clear hg;exact Q36
def Rq.agg (x:Rq):Value:=.agg #[.int .i64 x.id,.int .i64 x.kind,.int .i64 x.backend,.int .i64 x.weight,.int .i64 x.answer]
theorem AQ (N:Nat) (cp:Addr) (hN:∀ args w,(callFunc N args).run Tryz.prog w=.ok (.enter N args) w) (p:Rq→Bool) (b0 o0 c0:Nat) (X:List Rq) (w:World) (hb0:b0<w.heap.size) (hn:X.length≤4611686018427387903) (h1:∀ i j,i<X.length→j<5→w.cell? ⟨b0,o0+i*5+j,none⟩=(X.getD i Rq.zero).cells[j]?)
  (hf:∀ x∈X,∀ w',Below w.heap.size w w'→Calls Tryz.prog N #[Rq.agg x,.pointer (some cp)] w' fun e w''=>e=.returned (.bool (p x))∧Below w'.heap.size w' w'') :
  Calls Tryz.prog 105 #[.slice (some ⟨b0,o0,none⟩) X.length c0,.func (.func N) #[] #[.pointer (some cp)]] w fun e w'=>e=.returned (.int .i64 (aQ p X))∧Below w.heap.size w w':=by
 have H1:=Hu h1
 have HF:=Hu hf
 have hn2:X.length≤9223372036854775807:=by omega
 clear h1 hf
 go_enter Tryz.func105,Tryz.ntmps105
 go_wp2
 go_loopw [8] (fun i wr=>∃ k:Nat,k≤X.length∧i=.int .i64 k∧Below w.heap.size w wr∧∀ x∈X.take k,p x=false) (fun i _=>X.length - (intOf i).toNat)
 case atStart=>exact ⟨0,I4 _,rfl,Hv _ _,fun x hx=>by simp at hx⟩
 case round=>
  obtain ⟨k,hk,rfl,hbel,hall⟩:=hrel;have HA:=Hu hall;clear hall;rcases (show k<X.length∨X.length=k by omega) with hlt|heq
  ·have hlt':(k:Int)<(X.length:Int):=by omega
   obtain ⟨o,ho⟩:∃ o,o=X.getD k Rq.zero:=⟨_,rfl⟩;have HO:=Hu ho
   have hm:o∈X:=by rw [ho];simp only [List.getD,Ib hlt,Iu];exact If _
   have HC:=Hu (HF.out o hm _ hbel)
   have hold:∀ j,j<5→wr.cell? ⟨b0,o0+k*5+j,none⟩=o.cells[j]?:=fun j hj=>by
    rw [hbel.cell (p:=⟨b0,o0+k*5+j,none⟩) hb0,ho];exact H1.out k j hlt hj
   have a0:=hold 0 (by omega);have a1:=hold 1 (by omega);have a2:=hold 2 (by omega);have a3:=hold 3 (by omega);have a4:=hold 4 (by omega);clear hold ho hm;have HB:=Hu hbel;clear hbel;simp only [Rq.cells,I5,I6,Nat.add_zero] at a0 a1 a2 a3 a4;exact Q11
  ·exact Q23
theorem AS (N:Nat) (cp:Addr) (a:Option Addr) (c:Nat) (w:World):Calls Tryz.prog 105 #[.slice a 0 c,.func (.func N) #[] #[.pointer (some cp)]] w fun e w'=>e=.returned (.int .i64 (-1))∧Below w.heap.size w w':=by
 go_enter Tryz.func105,Tryz.ntmps105;exact Q25
theorem kO (N:Nat) (cp:Addr) (hN:∀ args w,(callFunc N args).run Tryz.prog w=.ok (.enter N args) w) (p:Rq→Bool) (v:Value) (X:List Rq) (w:World) (r:aI w 5 v (X.map Rq.cells)) (hn:X.length≤4611686018427387903)
  (hf:∀ x∈X,∀ w',Below w.heap.size w w'→Calls Tryz.prog N #[Rq.agg x,.pointer (some cp)] w' fun e w''=>e=.returned (.bool (p x))∧Below w'.heap.size w' w'') :
  Calls Tryz.prog 105 #[v,.func (.func N) #[] #[.pointer (some cp)]] w fun e w'=>e=.returned (.int .i64 (aQ p X))∧Below w.heap.size w w':=by
 obtain ⟨a,c,rfl,l,m,n,q⟩:=aK Rq.zero r
 by_cases hX:X=[]
 ·subst hX;exact AS N cp a c w
 ·obtain ⟨b,o,rfl,hb,q⟩:=q hX;exact AQ N cp hN p b o c X w hb hn q hf
def Fl.agg (x:Fl):Value:=.agg #[.int .i64 x.slot,.int .i64 x.gen,.int .i64 x.key,.int .i64 x.backend,.bool x.serving,.int .i64 x.retries,.int .i64 x.due]
theorem B8 (N:Nat) (cp:Addr) (hN:∀ args w,(callFunc N args).run Tryz.prog w=.ok (.enter N args) w) (p:Fl→Bool) (b0 o0 c0:Nat) (X:List Fl) (w:World) (hb0:b0<w.heap.size) (hn:X.length≤4611686018427387903) (h1:∀ i j,i<X.length→j<7→w.cell? ⟨b0,o0+i*7+j,none⟩=(X.getD i Fl.zero).cells[j]?)
  (hf:∀ x∈X,∀ w',Below w.heap.size w w'→Calls Tryz.prog N #[Fl.agg x,.pointer (some cp)] w' fun e w''=>e=.returned (.bool (p x))∧Below w'.heap.size w' w'') :
  Calls Tryz.prog 118 #[.slice (some ⟨b0,o0,none⟩) X.length c0,.func (.func N) #[] #[.pointer (some cp)]] w fun e w'=>e=.returned (.int .i64 (aQ p X))∧Below w.heap.size w w':=by
 have H1:=Hu h1
 have HF:=Hu hf
 have hn2:X.length≤9223372036854775807:=by omega
 clear h1 hf
 go_enter Tryz.func118,Tryz.ntmps118
 go_wp2
 go_loopw [8] (fun i wr=>∃ k:Nat,k≤X.length∧i=.int .i64 k∧Below w.heap.size w wr∧∀ x∈X.take k,p x=false) (fun i _=>X.length - (intOf i).toNat)
 case atStart=>exact ⟨0,I4 _,rfl,Hv _ _,fun x hx=>by simp at hx⟩
 case round=>
  obtain ⟨k,hk,rfl,hbel,hall⟩:=hrel;have HA:=Hu hall;clear hall;rcases (show k<X.length∨X.length=k by omega) with hlt|heq
  ·have hlt':(k:Int)<(X.length:Int):=by omega
   obtain ⟨o,ho⟩:∃ o,o=X.getD k Fl.zero:=⟨_,rfl⟩;have HO:=Hu ho
   have hm:o∈X:=by rw [ho];simp only [List.getD,Ib hlt,Iu];exact If _
   have HC:=Hu (HF.out o hm _ hbel)
   have hold:∀ j,j<7→wr.cell? ⟨b0,o0+k*7+j,none⟩=o.cells[j]?:=fun j hj=>by
    rw [hbel.cell (p:=⟨b0,o0+k*7+j,none⟩) hb0,ho];exact H1.out k j hlt hj
   have a0:=hold 0 (by omega);have a1:=hold 1 (by omega);have a2:=hold 2 (by omega);have a3:=hold 3 (by omega);have a4:=hold 4 (by omega);have a5:=hold 5 (by omega);have a6:=hold 6 (by omega);clear hold ho hm;have HB:=Hu hbel;clear hbel;simp only [Fl.cells,I5,I6,Nat.add_zero] at a0 a1 a2 a3 a4 a5 a6;exact Q11
  ·exact Q23
theorem B9 (N:Nat) (cp:Addr) (a:Option Addr) (c:Nat) (w:World):Calls Tryz.prog 118 #[.slice a 0 c,.func (.func N) #[] #[.pointer (some cp)]] w fun e w'=>e=.returned (.int .i64 (-1))∧Below w.heap.size w w':=by
 go_enter Tryz.func118,Tryz.ntmps118;exact Q25
theorem Ba (N:Nat) (cp:Addr) (hN:∀ args w,(callFunc N args).run Tryz.prog w=.ok (.enter N args) w) (p:Fl→Bool) (v:Value) (X:List Fl) (w:World) (r:aI w 7 v (X.map Fl.cells)) (hn:X.length≤4611686018427387903)
  (hf:∀ x∈X,∀ w',Below w.heap.size w w'→Calls Tryz.prog N #[Fl.agg x,.pointer (some cp)] w' fun e w''=>e=.returned (.bool (p x))∧Below w'.heap.size w' w'') :
  Calls Tryz.prog 118 #[v,.func (.func N) #[] #[.pointer (some cp)]] w fun e w'=>e=.returned (.int .i64 (aQ p X))∧Below w.heap.size w w':=by
 obtain ⟨a,c,rfl,l,m,n,q⟩:=aK Fl.zero r
 by_cases hX:X=[]
 ·subst hX;exact B9 N cp a c w
 ·obtain ⟨b,o,rfl,hb,q⟩:=q hX;exact B8 N cp hN p b o c X w hb hn q hf
def Sl.agg (x:Sl):Value:=.agg #[.int .i64 x.gen,.bool x.used,.int .i64 x.key,.int .i64 x.backend]
theorem Dc (N:Nat) (caps:Array Value) (hN:∀ args w,(callFunc N args).run Tryz.prog w=.ok (.enter N args) w) (p:Sl→Bool) (b0 o0 c0:Nat) (X:List Sl) (w:World) (hb0:b0<w.heap.size) (hn:X.length≤4611686018427387903) (h1:∀ i j,i<X.length→j<4→w.cell? ⟨b0,o0+i*4+j,none⟩=(X.getD i Sl.zero).cells[j]?)
  (hf:∀ x∈X,∀ w',Below w.heap.size w w'→Calls Tryz.prog N (caps.push (Sl.agg x)) w' fun e w''=>e=.returned (.bool (p x))∧Below w'.heap.size w' w'') :
  Calls Tryz.prog 95 #[.slice (some ⟨b0,o0,none⟩) X.length c0,.func (.func N) caps #[]] w fun e w'=>e=.returned (.int .i64 (aQ p X))∧Below w.heap.size w w':=by
 have H1:=Hu h1
 have HF:=Hu hf
 have hn2:X.length≤9223372036854775807:=by omega
 clear h1 hf
 go_enter Tryz.func95,Tryz.ntmps95
 go_wp2
 go_loopw [8] (fun i wr=>∃ k:Nat,k≤X.length∧i=.int .i64 k∧Below w.heap.size w wr∧∀ x∈X.take k,p x=false) (fun i _=>X.length - (intOf i).toNat)
 case atStart=>exact ⟨0,I4 _,rfl,Hv _ _,fun x hx=>by simp at hx⟩
 case round=>
  obtain ⟨k,hk,rfl,hbel,hall⟩:=hrel;have HA:=Hu hall;clear hall;rcases (show k<X.length∨X.length=k by omega) with hlt|heq
  ·have hlt':(k:Int)<(X.length:Int):=by omega
   obtain ⟨o,ho⟩:∃ o,o=X.getD k Sl.zero:=⟨_,rfl⟩;have HO:=Hu ho
   have hm:o∈X:=by rw [ho];simp only [List.getD,Ib hlt,Iu];exact If _
   have HC:=Hu (HF.out o hm _ hbel)
   have hold:∀ j,j<4→wr.cell? ⟨b0,o0+k*4+j,none⟩=o.cells[j]?:=fun j hj=>by
    exact Q124
   have a0:=hold 0 (by omega);have a1:=hold 1 (by omega);have a2:=hold 2 (by omega);have a3:=hold 3 (by omega);clear hold ho hm;have HB:=Hu hbel;clear hbel;simp only [Sl.cells,I5,I6,Nat.add_zero] at a0 a1 a2 a3;exact Q11
  ·exact Q23
theorem De (N:Nat) (caps:Array Value) (a:Option Addr) (c:Nat) (w:World):Calls Tryz.prog 95 #[.slice a 0 c,.func (.func N) caps #[]] w fun e w'=>e=.returned (.int .i64 (-1))∧Below w.heap.size w w':=by
 go_enter Tryz.func95,Tryz.ntmps95;exact Q25
theorem vJ (N:Nat) (caps:Array Value) (hN:∀ args w,(callFunc N args).run Tryz.prog w=.ok (.enter N args) w) (p:Sl→Bool) (v:Value) (X:List Sl) (w:World) (r:aI w 4 v (X.map Sl.cells)) (hn:X.length≤4611686018427387903)
  (hf:∀ x∈X,∀ w',Below w.heap.size w w'→Calls Tryz.prog N (caps.push (Sl.agg x)) w' fun e w''=>e=.returned (.bool (p x))∧Below w'.heap.size w' w'') :
  Calls Tryz.prog 95 #[v,.func (.func N) caps #[]] w fun e w'=>e=.returned (.int .i64 (aQ p X))∧Below w.heap.size w w':=by
 obtain ⟨a,c,rfl,l,m,n,q⟩:=aK Sl.zero r
 by_cases hX:X=[]
 ·subst hX;exact De N caps a c w
 ·obtain ⟨b,o,rfl,hb,q⟩:=q hX;exact Dc N caps hN p b o c X w hb hn q hf
theorem wM (N:Nat) (caps:Array Value) (hN:∀ args w,(callFunc N args).run Tryz.prog w=.ok (.enter N args) w) (p:Sl→Bool) (v:Value) (X:List Sl) (w:World) (r:aI w 4 v (X.map Sl.cells)) (hn:X.length≤4611686018427387903)
  (hf:∀ x∈X,∀ w',Below w.heap.size w w'→Calls Tryz.prog N (caps.push (Sl.agg x)) w' fun e w''=>e=.returned (.bool (p x))∧Below w'.heap.size w' w'') :
  Calls Tryz.prog 57 #[v,.func (.func N) caps #[]] w fun e w'=>e=.returned (.bool (X.any p))∧Below w.heap.size w w':=by
 have K:=Hu (vJ N caps hN p v X w r hn hf)
 have HI:=ir p X
 obtain ⟨a,c,rfl,_⟩:=aq r
 clear r hf
 obtain ⟨i,hi⟩:∃ i,i=aQ p X:=⟨_,rfl⟩
 rw [← hi] at K HI
 clear hi
 cases hx:X.any p with
 | true=>
  have hi0:0≤i:=HI.1.1 hx;clear HI hx;go_enter Tryz.func57,Tryz.ntmps57;exact Q38
 | false=>
  have hi0:decide (0≤i)=false:=by have:=HI.2.1 hx;simp;omega
  clear HI hx;go_enter Tryz.func57,Tryz.ntmps57;exact Q38
def Sp.agg (x:Sp):Value:=.agg #[.int .i64 x.hash,.int .i64 x.backend]
theorem AN (N:Nat) (cp:Addr) (hN:∀ args w,(callFunc N args).run Tryz.prog w=.ok (.enter N args) w) (p:Sp→Bool) (b0 o0 c0:Nat) (X:List Sp) (w:World) (hb0:b0<w.heap.size) (hn:X.length≤4611686018427387903) (h1:∀ i j,i<X.length→j<2→w.cell? ⟨b0,o0+i*2+j,none⟩=(X.getD i Sp.zero).cells[j]?)
  (hf:∀ x∈X,∀ w',Below w.heap.size w w'→Calls Tryz.prog N #[Sp.agg x,.pointer (some cp)] w' fun e w''=>e=.returned (.bool (p x))∧Below w'.heap.size w' w'') :
  Calls Tryz.prog 144 #[.slice (some ⟨b0,o0,none⟩) X.length c0,.func (.func N) #[] #[.pointer (some cp)]] w fun e w'=>e=.returned (.int .i64 (aQ p X))∧Below w.heap.size w w':=by
 have H1:=Hu h1
 have HF:=Hu hf
 have hn2:X.length≤9223372036854775807:=by omega
 clear h1 hf
 go_enter Tryz.func144,Tryz.ntmps144
 go_wp2
 go_loopw [8] (fun i wr=>∃ k:Nat,k≤X.length∧i=.int .i64 k∧Below w.heap.size w wr∧∀ x∈X.take k,p x=false) (fun i _=>X.length - (intOf i).toNat)
 case atStart=>exact ⟨0,I4 _,rfl,Hv _ _,fun x hx=>by simp at hx⟩
 case round=>
  obtain ⟨k,hk,rfl,hbel,hall⟩:=hrel;have HA:=Hu hall;clear hall;rcases (show k<X.length∨X.length=k by omega) with hlt|heq
  ·have hlt':(k:Int)<(X.length:Int):=by omega
   obtain ⟨o,ho⟩:∃ o,o=X.getD k Sp.zero:=⟨_,rfl⟩;have HO:=Hu ho
   have hm:o∈X:=by rw [ho];simp only [List.getD,Ib hlt,Iu];exact If _
   have HC:=Hu (HF.out o hm _ hbel)
   have hold:∀ j,j<2→wr.cell? ⟨b0,o0+k*2+j,none⟩=o.cells[j]?:=fun j hj=>by
    exact Q168
   have a0:=hold 0 (by omega);have a1:=hold 1 (by omega);clear hold ho hm;have HB:=Hu hbel;clear hbel;simp only [Sp.cells,I5,I6,Nat.add_zero] at a0 a1;exact Q11
  ·exact Q23
theorem AO (N:Nat) (cp:Addr) (a:Option Addr) (c:Nat) (w:World):Calls Tryz.prog 144 #[.slice a 0 c,.func (.func N) #[] #[.pointer (some cp)]] w fun e w'=>e=.returned (.int .i64 (-1))∧Below w.heap.size w w':=by
 go_enter Tryz.func144,Tryz.ntmps144;exact Q25
theorem AP (N:Nat) (cp:Addr) (hN:∀ args w,(callFunc N args).run Tryz.prog w=.ok (.enter N args) w) (p:Sp→Bool) (v:Value) (X:List Sp) (w:World) (r:aI w 2 v (X.map Sp.cells)) (hn:X.length≤4611686018427387903)
  (hf:∀ x∈X,∀ w',Below w.heap.size w w'→Calls Tryz.prog N #[Sp.agg x,.pointer (some cp)] w' fun e w''=>e=.returned (.bool (p x))∧Below w'.heap.size w' w'') :
  Calls Tryz.prog 144 #[v,.func (.func N) #[] #[.pointer (some cp)]] w fun e w'=>e=.returned (.int .i64 (aQ p X))∧Below w.heap.size w w':=by
 obtain ⟨a,c,rfl,l,m,n,q⟩:=aK Sp.zero r
 by_cases hX:X=[]
 ·subst hX;exact AO N cp a c w
 ·obtain ⟨b,o,rfl,hb,q⟩:=q hX;exact AN N cp hN p b o c X w hb hn q hf
structure FD where
 a:Addr
 lo:Int
 hi:Int
 val:Int
def FD.cells (f:FD):List Value:=[.pointer (some f.a),.int .i64 f.lo,.int .i64 f.hi]
def eG (e:Ev) (be bg:Nat) (g:Int):List FD:=
 if e.kind=1 then [⟨⟨be,1,none⟩,0,4294967295,e.key⟩]
 else if e.kind=2∨e.kind=3 then [⟨⟨be,2,none⟩,0,39,e.slot⟩,⟨⟨be,3,none⟩,0,1048576,e.gen⟩]
 else if e.kind=4 then [⟨⟨be,2,none⟩,0,39,e.slot⟩,⟨⟨be,3,none⟩,0,1048576,e.gen⟩,⟨⟨bg,0,none⟩,0,1,g⟩]
 else if e.kind=5 then [⟨⟨be,5,none⟩,0,1048576,e.request⟩,⟨⟨be,6,none⟩,0,11,e.backend⟩,⟨⟨be,7,none⟩,1,8,e.weight⟩]
 else if e.kind=6 then [⟨⟨be,5,none⟩,0,1048576,e.request⟩,⟨⟨be,6,none⟩,0,11,e.backend⟩]
 else []
def FdPost (w:World) (F:List FD) (ok:Bool) (e:Ending) (w':World):Prop:=∃ v,e=.returned (.tuple #[v,.bool ok])∧aM w.heap.size w' 3 v (F.map FD.cells)∧Below w.heap.size w w'
theorem kJ {w:World} {base b n T sz:Nat} {cs:List Value} (hb:base≤b) (hh:w.heap[b]?=some (.cells cs.toArray T (0,0))) (hn:n≤maxLen) (hl:cs.length=n*sz):w.ownsRow base T sz (.slice (some ⟨b,0,none⟩) n n) n cs:=
 ⟨hl,.inr ⟨b,n,cs.toArray,rfl,hb,hh,I3 _,hn,by simpa using hl,by simp [← hl]⟩⟩
theorem AH (F:List FD):∀ c∈F.map FD.cells,c.length=3:=by
 exact Q29
theorem sm {w:World} {n k:Nat} (h:n=w.heap.size) (cs:List Value) (t:TypeId):∀ (j:Nat) (u:Value),cs[j]?=some u→((w.alloc (Obj.cells cs.toArray t)).drewN k).cell? ((⟨n,0,none⟩:Addr).add j)=some u:=fG h cs t
theorem FX:(Tryz.prog.info? 139).map (fun i=>(i.zero,i.size,i.bytes))=some (some (.agg #[.pointer none,.int .i64 0,.int .i64 0]),3,24):=by kernel_rfl
theorem eD (x:Ev) (be bg:Nat) (g:Int) (ok:Bool) (w:World) (hk:w.cell? ⟨be,0,none⟩=some (.int .i64 x.kind)) (hok:ok=decide (1≤x.kind∧x.kind≤7)) :
  Calls Tryz.prog 48 #[.pointer (some ⟨be,0,none⟩),.pointer (some ⟨bg,0,none⟩)] w (FdPost w (eG x be bg g) ok):=by
 have lb:=bR hk
 obtain ⟨kd,ky,sl,gn,gd,rq,bk,wt⟩:=x
 simp only at hk hok
 obtain ⟨i0,ji,ji0,ji1,ji2⟩:=info_parts FX
 have HOK:=Hu hok
 clear hok
 go_enter Tryz.func48,Tryz.ntmps48
 go_wp2_with fail
 (refine Zr ((fun _=>True)) (fun hHeld=>?_) (by (try dsimp only);(try trivial));refine ep 0 ?_;refine Z1 8 (fun K hK=>?_);go_simp;refine Zk hK (hS:=by (try dsimp only);(try trivial)) fun hHeld=>?_;clear hK K;refine Zt 9 ?_;refine Zd ?_)
 go_wp2_with fail
 (refine Zr ((fun _=>True)) (fun hHeld=>?_) (by (try dsimp only);(try trivial));refine ep 0 ?_;refine Z1 8 (fun K hK=>?_);go_simp;refine Zk hK (hS:=by (try dsimp only);(try trivial)) fun hHeld=>?_;clear hK K;refine Zt 9 ?_;refine Zd ?_)
 rcases (show kd=1∨kd=2∨kd=3∨kd=4∨kd=5∨kd=6∨kd=7∨(kd<1∨7<kd) by omega) with rfl|rfl|rfl|rfl|rfl|rfl|rfl|hno
 ·obtain rfl:ok=true:=by rw [HOK.out];rfl
  clear HOK;go_wp2;refine Ix (v:=.tuple #[.slice (some ⟨w.heap.size+1+1,0,none⟩) 1 1,.bool true]) ?_ rfl ⟨_,rfl,aD (base:=w.heap.size) (e:=139) (n:=1) (L:=(eG ⟨1,ky,sl,gn,gd,rq,bk,wt⟩ be bg g).map FD.cells) (kJ (by omega) (by (try simp only [hp_drewN]);first|exact az _ rfl|exact az _ (by simp)|(refine (Hz _ _ _ Zs).trans ?_;first|exact az _ rfl|exact az _ (by simp))|(refine (Hz _ _ _ Zs).trans ((Hz _ _ _ Zs).trans ?_);first|exact az _ rfl|exact az _ (by simp))) (by decide) rfl) rfl (AH _),Zb⟩;simp [results,Tryz.results48,go_sem, *]
 ·obtain rfl:ok=true:=by rw [HOK.out];rfl
  clear HOK;go_wp2;refine Ix (v:=.tuple #[.slice (some ⟨w.heap.size,0,none⟩) 2 2,.bool true]) ?_ rfl ⟨_,rfl,aD (base:=w.heap.size) (e:=139) (n:=2) (L:=(eG ⟨2,ky,sl,gn,gd,rq,bk,wt⟩ be bg g).map FD.cells) (kJ (by omega) (by (try simp only [hp_drewN]);first|exact az _ rfl|exact az _ (by simp)|(refine (Hz _ _ _ Zs).trans ?_;first|exact az _ rfl|exact az _ (by simp))|(refine (Hz _ _ _ Zs).trans ((Hz _ _ _ Zs).trans ?_);first|exact az _ rfl|exact az _ (by simp))) (by decide) rfl) rfl (AH _),Zb⟩;simp [results,Tryz.results48,go_sem, *]
 ·obtain rfl:ok=true:=by rw [HOK.out];rfl
  clear HOK;go_wp2;refine Ix (v:=.tuple #[.slice (some ⟨w.heap.size,0,none⟩) 2 2,.bool true]) ?_ rfl ⟨_,rfl,aD (base:=w.heap.size) (e:=139) (n:=2) (L:=(eG ⟨3,ky,sl,gn,gd,rq,bk,wt⟩ be bg g).map FD.cells) (kJ (by omega) (by (try simp only [hp_drewN]);first|exact az _ rfl|exact az _ (by simp)|(refine (Hz _ _ _ Zs).trans ?_;first|exact az _ rfl|exact az _ (by simp))|(refine (Hz _ _ _ Zs).trans ((Hz _ _ _ Zs).trans ?_);first|exact az _ rfl|exact az _ (by simp))) (by decide) rfl) rfl (AH _),Zb⟩;simp [results,Tryz.results48,go_sem, *]
 ·obtain rfl:ok=true:=by rw [HOK.out];rfl
  clear HOK;have OW:=Hu (kJ (w:=(w.alloc (.cells #[.pointer (some ⟨be,2,none⟩),.int .i64 0,.int .i64 39,.pointer (some ⟨be,3,none⟩),.int .i64 0,.int .i64 1048576] 139)).alloc (.cells #[.pointer (some ⟨be,5,none⟩),.int .i64 0,.int .i64 1048576,.pointer (some ⟨be,6,none⟩),.int .i64 0,.int .i64 11] 139)) (base:=w.heap.size) (b:=w.heap.size) (n:=2) (T:=139) (sz:=3) (cs:=((eG ⟨2,ky,sl,gn,gd,rq,bk,wt⟩ be bg g).map FD.cells).flatten) (by omega) ((Hz _ _ _ (by simp)).trans (az _ rfl)) (by decide) rfl);have HSZ:Hid (w.heap.size+1+1=((w.alloc (.cells #[.pointer (some ⟨be,2,none⟩),.int .i64 0,.int .i64 39,.pointer (some ⟨be,3,none⟩),.int .i64 0,.int .i64 1048576] 139)).alloc (.cells #[.pointer (some ⟨be,5,none⟩),.int .i64 0,.int .i64 1048576,.pointer (some ⟨be,6,none⟩),.int .i64 0,.int .i64 11] 139)).heap.size):=by simp [Hid]
  go_wp2_with (at_builtin;go_loud (refine wpList_append_own _ rfl _ _ 133 rfl w.heap.size 139 i0 (.agg #[.pointer none,.int .i64 0,.int .i64 0]) 3 24 Tryz.underlying133 ji ji0 ji1 ji2 rfl (by decide) _ 2 ((eG ⟨2,ky,sl,gn,gd,rq,bk,wt⟩ be bg g).map FD.cells).flatten rfl ?c5 ⟨w.heap.size+1+1,0,none⟩ 1 1 [.pointer (some ⟨bg,0,none⟩),.int .i64 0,.int .i64 1] rfl rfl ?c6 ?c1 ?c2 ?c3 ?c4 ?_))
  case c5=>exact ((OW.out.alloc _).drew).drew
  case c6=>exact sm (k:=2) HSZ.out _ 139
  case c1=>intro u hu;simp at hu;rcases hu with rfl|rfl|rfl<;>rfl
  case c2=>unfold maxLen;omega
  case c3=>omega
  case c4=>first|omega|(simp;omega)
  intro v' w1 hown' hgrow _;obtain ⟨a',cap',rfl,_,_⟩:=aC hown'
  have B1:Hid (Below w.heap.size w w1):=by
   exact Q45
  have O1:Hid (aM w.heap.size w1 3 (.slice a' 3 cap') ((eG ⟨4,ky,sl,gn,gd,rq,bk,wt⟩ be bg g).map FD.cells)):=aD (e:=139) (n:=3) hown' rfl (AH _);exact Q101
 ·obtain rfl:ok=true:=by rw [HOK.out];rfl
  clear HOK;have OW:=Hu (kJ (w:=(w.alloc (.cells #[.pointer (some ⟨be,2,none⟩),.int .i64 0,.int .i64 39,.pointer (some ⟨be,3,none⟩),.int .i64 0,.int .i64 1048576] 139)).alloc (.cells #[.pointer (some ⟨be,5,none⟩),.int .i64 0,.int .i64 1048576,.pointer (some ⟨be,6,none⟩),.int .i64 0,.int .i64 11] 139)) (base:=w.heap.size) (b:=w.heap.size+1) (n:=2) (T:=139) (sz:=3) (cs:=((eG ⟨6,ky,sl,gn,gd,rq,bk,wt⟩ be bg g).map FD.cells).flatten) (by omega) (az _ (by simp)) (by decide) rfl);have HSZ:Hid (w.heap.size+1+1=((w.alloc (.cells #[.pointer (some ⟨be,2,none⟩),.int .i64 0,.int .i64 39,.pointer (some ⟨be,3,none⟩),.int .i64 0,.int .i64 1048576] 139)).alloc (.cells #[.pointer (some ⟨be,5,none⟩),.int .i64 0,.int .i64 1048576,.pointer (some ⟨be,6,none⟩),.int .i64 0,.int .i64 11] 139)).heap.size):=by simp [Hid]
  go_wp2_with (at_builtin;go_loud (refine wpList_append_own _ rfl _ _ 133 rfl w.heap.size 139 i0 (.agg #[.pointer none,.int .i64 0,.int .i64 0]) 3 24 Tryz.underlying133 ji ji0 ji1 ji2 rfl (by decide) _ 2 ((eG ⟨6,ky,sl,gn,gd,rq,bk,wt⟩ be bg g).map FD.cells).flatten rfl ?c5 ⟨w.heap.size+1+1,0,none⟩ 1 1 [.pointer (some ⟨be,7,none⟩),.int .i64 1,.int .i64 8] rfl rfl ?c6 ?c1 ?c2 ?c3 ?c4 ?_))
  case c5=>exact ((OW.out.alloc _).drew).drew
  case c6=>exact sm (k:=2) HSZ.out _ 139
  case c1=>intro u hu;simp at hu;rcases hu with rfl|rfl|rfl<;>rfl
  case c2=>unfold maxLen;omega
  case c3=>omega
  case c4=>first|omega|(simp;omega)
  intro v' w1 hown' hgrow _;obtain ⟨a',cap',rfl,_,_⟩:=aC hown'
  have B1:Hid (Below w.heap.size w w1):=by
   exact Q45
  have O1:Hid (aM w.heap.size w1 3 (.slice a' 3 cap') ((eG ⟨5,ky,sl,gn,gd,rq,bk,wt⟩ be bg g).map FD.cells)):=aD (e:=139) (n:=3) hown' rfl (AH _);exact Q101
 ·obtain rfl:ok=true:=by rw [HOK.out];rfl
  clear HOK;go_wp2;refine Ix (v:=.tuple #[.slice (some ⟨w.heap.size+1,0,none⟩) 2 2,.bool true]) ?_ rfl ⟨_,rfl,aD (base:=w.heap.size) (e:=139) (n:=2) (L:=(eG ⟨6,ky,sl,gn,gd,rq,bk,wt⟩ be bg g).map FD.cells) (kJ (by omega) (by (try simp only [hp_drewN]);first|exact az _ rfl|exact az _ (by simp)|(refine (Hz _ _ _ Zs).trans ?_;first|exact az _ rfl|exact az _ (by simp))|(refine (Hz _ _ _ Zs).trans ((Hz _ _ _ Zs).trans ?_);first|exact az _ rfl|exact az _ (by simp))) (by decide) rfl) rfl (AH _),Zb⟩;simp [results,Tryz.results48,go_sem, *]
 ·obtain rfl:ok=true:=by rw [HOK.out];rfl
  clear HOK;go_wp2;refine Ix (v:=.tuple #[.slice none 0 0,.bool true]) ?_ rfl ⟨_,rfl,bD _ _ _,Zb⟩;simp [results,Tryz.results48,go_sem, *]
 ·obtain rfl:ok=false:=by rw [HOK.out];simp;omega
  have HE:Hid (eG ⟨kd,ky,sl,gn,gd,rq,bk,wt⟩ be bg g=[]):=by
   show _=_
   unfold eG;simp only;rw [if_neg (by omega),if_neg (by omega),if_neg (by omega),if_neg (by omega),if_neg (by omega)]
  have e1:(kd == 1)=false:=by simp;omega
  have e2:(kd == 2)=false:=by simp;omega
  have e3:(kd == 3)=false:=by simp;omega
  have e4:(kd == 4)=false:=by simp;omega
  have e5:(kd == 5)=false:=by simp;omega
  have e6:(kd == 6)=false:=by simp;omega
  have e7:(kd == 7)=false:=by simp;omega
  clear HOK hno;go_wp2;refine Ix (v:=.tuple #[.slice none 0 0,.bool false]) ?_ rfl ⟨_,rfl,by rw [HE.out];exact bD _ _ _,Zb⟩;simp [results,Tryz.results48,go_sem, *]
end
end Go.Proofs.YtfliffgmeobclaaGreat
