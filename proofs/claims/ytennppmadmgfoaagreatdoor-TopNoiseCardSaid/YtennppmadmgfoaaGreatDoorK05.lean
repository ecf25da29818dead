/- Texts of the row's proof. Conditions: none. -/
import Derived.Test.YtennppmadmgfoaaGreatDoorK04
namespace Go.Proofs.YtennppmadmgfoaaGreatDoor
open Proofs.Tryz
set_option maxRecDepth 100000
set_option maxHeartbeats 8000000
section
open Go.RowKit
theorem jq {wr w':World} {B sz n:Nat} {t:TypeId} {v:Value} {cs:List Value} (h:wr.ownsRow B t sz v n cs) (hb:Below wr.heap.size wr w'):w'.ownsRow B t sz v n cs:=by
 exact Q94
theorem jK {w:World} {n:Nat} (h:n=w.heap.size) (cs:List Value) (t:TypeId):∀ (j:Nat) (u:Value),cs[j]?=some u->(w.alloc (Obj.cells cs.toArray t)).cell? ((⟨n,0,none⟩:Addr).add j)=some u:=by
 subst h;exact kJ cs t
theorem rj (b0 o0 Y:Nat) (X:List Sl) (b:Int) (w:World) (hb0:b0<w.heap.size) (hm:dR X) (r:aK w 4 (.slice (some ⟨b0,o0,none⟩) X.length Y) (X.map Sl.cells)) (h1:∀ i j,i<X.length->j<4->w.cell? ⟨b0,o0+i*4+j,none⟩=(X.getD i Sl.zero).cells[j]?) :
  Calls prog 79 #[.agg #[.slice (some ⟨b0,o0,none⟩) X.length Y],.int .i64 b] w (Hv w X b):=by
 obtain ⟨i0,hi,am,a5,an⟩:=info_parts Jg
 have H1:=KL h1
 have R:=KL r
 have M:=KL hm
 have g2:X.length<=40:=hm.2.1
 clear h1 r hm
 go_in
 go_wp2_with (go_at_call 47;refine (fp _ X _ (ai R.out _) M.out).mono ?_;rintro e w1 ⟨rfl,J⟩;obtain ⟨a7,a9⟩:=aX J;have a5:=fX J;have al:=J.size;(try simp at al))
 go_loopw [7,18] (fun l i wr=>∃ k:Nat,k<=X.length/\i=.int .i64 k/\Hu w wr (.slice (some ⟨b0,o0,none⟩) X.length Y) X b k l) (fun _ i _=>X.length - (intOf i).toNat)
 case atStart=>
  refine ⟨0,La _,rfl,((KM _ _).alloc (KY _) _).trans (J.mono (by simp)),by omega,?_,none,0,rfl,LJ _ _ _ _⟩;rw [a7 _ _ (by simp)];go_simp
 case round=>
  obtain ⟨k,hk,rfl,hb,ag,c1,a,a6,rfl,a4⟩:=hrel;have hL:=lc X b k;rcases (show k<X.length\/X.length=k by omega) with hlt|af
  ·have ar:(k:Int)<(X.length:Int):=by omega
   obtain ⟨s,hs⟩:∃ s,s=X.getD k Sl.zero:=⟨_,rfl⟩
   have hold:∀ j,j<4->wr.cell? ⟨b0,o0+k*4+j,none⟩=s.cells[j]?:=fun j hj=>by
    exact Q157
   have a0:=hold 0 (by omega);have a1:=hold 1 (by omega);have a2:=hold 2 (by omega);have a3:=hold 3 (by omega);clear hold;have W:=KL hs;have K:=KL hb;have E:=KL a4;clear hs hb a4 a7 a9 a5 J;obtain ⟨U,u,ky,I⟩:=s;simp only [Sl.cells,Lb,Lc,Nat.add_zero] at a0 a1 a2 a3
   cases u with
   | false=>
    have z:=KL ((KM wr.heap.size wr).alloc (KY _) (.cells #[.int .i64 U,.bool false,.int .i64 ky,.int .i64 I] 167));go_wp2;go_roundw
    case rel=>exact ⟨k+1,by omega,by go_num,by unfold Hu;rw [vi W.out (by simp)];exact ⟨K.out.trans (z.out.mono (by omega)),by simp;omega,by go_simp,a,a6,rfl,jq E.out z.out⟩⟩
    case measure=>simp [intOf];omega
   | true=>
    have z:=KL ((KM wr.heap.size wr).alloc (KY _) (.cells #[.int .i64 U,.bool true,.int .i64 ky,.int .i64 I] 167));by_cases hbb:I=b
    ·subst hbb;go_wp2_with (at_builtin;go_loud (refine wpList_append_own _ rfl _ _ 57 rfl (w.heap.size+1) 111 i0 (.agg #[.int .i64 0,.int .i64 0]) 2 16 underlying57 hi am a5 an rfl (by decide) _ (j8 X I k).length _ rfl ((jq E.out z.out).alloc _) ⟨wr.heap.size+1,0,none⟩ 1 1 (Hd.cells ⟨k,U⟩) rfl rfl (jK (w:=wr.alloc (.cells #[.int .i64 U,.bool true,.int .i64 ky,.int .i64 I] 167)) (by simp) (Hd.cells ⟨k,U⟩) 111) ?c1 ?c2 ?c3 ?c4 ?_))
     case c1=>intro u hu;simp [Hd.cells] at hu;rcases hu with rfl|rfl<;>rfl
     case c2=>unfold maxLen;omega
     case c3=>omega
     case c4=>simp;omega
     intro v' w1 a8 aa _;have Z:=tD (by simp;omega) (jq E.out z.out) aa;obtain ⟨a',ad,rfl,_,_⟩:=aE a8;have ab:=KL ((K.out.trans (z.out.mono (by omega))).trans (Z.mono (by omega)))
     have ak:w.heap.size<w1.heap.size:=by have:=Z.size;simp at this;omega
     have c2:w1.cell? ⟨w.heap.size,0,none⟩=some (.slice (some ⟨b0,o0,none⟩) X.length Y):=(Z.cell (p:=⟨w.heap.size,0,none⟩) (by simp)).trans ((z.out.cell (p:=⟨w.heap.size,0,none⟩) ag).trans c1);have ac:=KL a8;clear a8 aa Z;go_wp2;go_roundw
     case rel=>
      refine ⟨k+1,by omega,by go_num,ab.out,ak,c2,a',ad,?_,?_⟩
      ·rw [ve W.out rfl rfl];simp
      ·rw [ve W.out rfl rfl,Jj];simpa using ac.out
     case measure=>simp [intOf];omega
    ·have hd:(I == b)=false:=by simpa using hbb
     go_wp2;go_roundw
     case rel=>exact ⟨k+1,by omega,by go_num,by unfold Hu;rw [vi W.out (by simpa using hbb)];exact ⟨K.out.trans (z.out.mono (by omega)),by simp;omega,by go_simp,a,a6,rfl,jq E.out z.out⟩⟩
     case measure=>simp [intOf];omega
  ·have ao:¬ (k:Int)<(X.length:Int):=by omega
   have K:=KL hb;have E:=KL a4;clear hb a4 a7 a9 a5 J;go_wp2;refine LN (v:=.tuple #[.slice a (j8 X b k).length a6,.int .i64 0]) ?_ rfl ?_
   ·simp [results,results79,go_sem, *]
   ·exact ⟨_,rfl,by rw [af];exact aJ (aG E.out (by simp) (hd_len _)) (by omega),K.out⟩
def ip (z d h:Int):Int:=if h<=d then z else max (z*d / h) 1
theorem mul_bd {a d:Int} (A D:Int) (z:0<=a) (E:a<=A) (h:0<=d) (I:d<=D):0<=a*d/\a*d<=A*D:=
 ⟨Int.mul_nonneg z h,Int.mul_le_mul E I h (by omega)⟩
theorem ig (I z now E:Int) (w:World) (K:1<=I) (U:I<=8) (W:0<=E) (Y:E<=500) (Z:0<=z) (h6:z<=1099511627776) (h7:z<=now) (h8:now<=1099511627776) :
  Calls prog 145 #[.int .i64 I,.int .i64 z,.int .i64 now,.int .i64 E] w fun e w'=>e=.returned (.tuple #[.int .i64 (ip I (now - z) E),.int .i64 0])/\w=w':=by
 have J:=mul_bd (a:=I) (d:=now - z) 8 1099511627776 (by omega) (by omega) (by omega) (by omega)
 obtain ⟨a0,a1⟩:=J
 by_cases hc:E<=now - z
 ·go_in;go_wp2
  all_goals first|(go_ret2;exact ⟨rII (by rw [ip,if_pos hc]) rfl,rfl⟩)|exact Zx
 ·by_cases hd:I*(now - z) / E<1
  all_goals
   go_in
   go_wp2
   all_goals first|(go_ret2;exact ⟨rII (by rw [ip,if_neg (by omega)];omega) rfl,rfl⟩)|exact Zx
def Ld.agg (x:Ld):Value:=.agg #[.int .i64 x.backend,.int .i64 x.weight,.int .i64 x.flows]
theorem FE (N:Nat) (z:Array Value) (W:∀ args w,(callFunc N args).run prog w=.ok (.enter N args) w) (p:Ld->Bool) (b0 o0 J:Nat) (X:List Ld) (w:World) (hb0:b0<w.heap.size) (Y:X.length<=4611686018427387903) (E:∀ i j,i<X.length->j<3->w.cell? ⟨b0,o0+i*3+j,none⟩=(X.getD i Ld.zero).cells[j]?)
  (I:∀ x∈X,∀ w',Below w.heap.size w w'->Calls prog N (z.push (Ld.agg x)) w' fun e U=>e=.returned (.bool (p x))/\Below w'.heap.size w' U) :
  Calls prog 163 #[.slice (some ⟨b0,o0,none⟩) X.length J,.func (.func N) z #[]] w fun e w'=>e=.returned (.int .i64 (aU p X))/\Below w.heap.size w w':=by
 have H1:=KL E
 have HF:=KL I
 have Z:X.length<=9223372036854775807:=by omega
 clear E I
 go_in
 go_wp2
 go_loopw [8] (fun i wr=>∃ k:Nat,k<=X.length/\i=.int .i64 k/\Below w.heap.size w wr/\∀ x∈X.take k,p x=false) (fun i _=>X.length - (intOf i).toNat)
 case atStart=>exact ⟨0,La _,rfl,KM _ _,fun x K=>by simp at K⟩
 case round=>
  exact Q67
theorem FF (N:Nat) (z:Array Value) (a:Option Addr) (c:Nat) (w:World):Calls prog 163 #[.slice a 0 c,.func (.func N) z #[]] w fun e w'=>e=.returned (.int .i64 (-1))/\Below w.heap.size w w':=by
 go_in;exact Q24
theorem FG (N:Nat) (h:Array Value) (K:∀ args w,(callFunc N args).run prog w=.ok (.enter N args) w) (p:Ld->Bool) (v:Value) (X:List Ld) (w:World) (r:aK w 3 v (X.map Ld.cells)) (Y:X.length<=4611686018427387903)
  (W:∀ x∈X,∀ w',Below w.heap.size w w'->Calls prog N (h.push (Ld.agg x)) w' fun e a0=>e=.returned (.bool (p x))/\Below w'.heap.size w' a0) :
  Calls prog 163 #[v,.func (.func N) h #[]] w fun e w'=>e=.returned (.int .i64 (aU p X))/\Below w.heap.size w w':=by
 obtain ⟨I,E,rfl,l,m,n,z⟩:=aO Ld.zero r
 by_cases hX:X=[]
 ·subst hX;exact FF N h I E w
 ·obtain ⟨J,Z,rfl,U,z⟩:=z hX;exact FE N h K p J Z E X w U Y z W
theorem nO (N:Nat) (E:Array Value) (U:∀ args w,(callFunc N args).run prog w=.ok (.enter N args) w) (p:Ld->Bool) (v:Value) (X:List Ld) (w:World) (r:aK w 3 v (X.map Ld.cells)) (Y:X.length<=4611686018427387903)
  (I:∀ x∈X,∀ w',Below w.heap.size w w'->Calls prog N (E.push (Ld.agg x)) w' fun e Z=>e=.returned (.bool (p x))/\Below w'.heap.size w' Z) :
  Calls prog 141 #[v,.func (.func N) E #[]] w fun e w'=>e=.returned (.bool (X.any p))/\Below w.heap.size w w':=by
 have K:=KL (FG N E U p v X w r Y I)
 have z:=iE p X
 obtain ⟨a,c,rfl,_⟩:=ap r
 clear r I
 obtain ⟨i,J⟩:∃ i,i=aU p X:=⟨_,rfl⟩
 rw [<- J] at K z
 clear J
 cases hx:X.any p with
 | true=>
  have W:0<=i:=z.1.1 hx;clear z hx;go_in;exact Q36
 | false=>
  have W:decide (0<=i)=false:=by have:=z.2.1 hx;simp;omega
  clear z hx;go_in;exact Q36
theorem D9 (N:Nat) (z:Addr) (W:∀ args w,(callFunc N args).run prog w=.ok (.enter N args) w) (p:Ld->Bool) (b0 o0 J:Nat) (X:List Ld) (w:World) (hb0:b0<w.heap.size) (Y:X.length<=4611686018427387903) (E:∀ i j,i<X.length->j<3->w.cell? ⟨b0,o0+i*3+j,none⟩=(X.getD i Ld.zero).cells[j]?)
  (I:∀ x∈X,∀ w',Below w.heap.size w w'->Calls prog N #[Ld.agg x,.pointer (some z)] w' fun e U=>e=.returned (.bool (p x))/\Below w'.heap.size w' U) :
  Calls prog 163 #[.slice (some ⟨b0,o0,none⟩) X.length J,.func (.func N) #[] #[.pointer (some z)]] w fun e w'=>e=.returned (.int .i64 (aU p X))/\Below w.heap.size w w':=by
 have H1:=KL E
 have HF:=KL I
 have Z:X.length<=9223372036854775807:=by omega
 clear E I
 go_in
 go_wp2
 go_loopw [8] (fun i wr=>∃ k:Nat,k<=X.length/\i=.int .i64 k/\Below w.heap.size w wr/\∀ x∈X.take k,p x=false) (fun i _=>X.length - (intOf i).toNat)
 case atStart=>exact ⟨0,La _,rfl,KM _ _,fun x K=>by simp at K⟩
 case round=>
  exact Q67
theorem Da (N:Nat) (z:Addr) (a:Option Addr) (c:Nat) (w:World):Calls prog 163 #[.slice a 0 c,.func (.func N) #[] #[.pointer (some z)]] w fun e w'=>e=.returned (.int .i64 (-1))/\Below w.heap.size w w':=by
 go_in;exact Q24
theorem Db (N:Nat) (h:Addr) (K:∀ args w,(callFunc N args).run prog w=.ok (.enter N args) w) (p:Ld->Bool) (v:Value) (X:List Ld) (w:World) (r:aK w 3 v (X.map Ld.cells)) (Y:X.length<=4611686018427387903)
  (W:∀ x∈X,∀ w',Below w.heap.size w w'->Calls prog N #[Ld.agg x,.pointer (some h)] w' fun e a0=>e=.returned (.bool (p x))/\Below w'.heap.size w' a0) :
  Calls prog 163 #[v,.func (.func N) #[] #[.pointer (some h)]] w fun e w'=>e=.returned (.int .i64 (aU p X))/\Below w.heap.size w w':=by
 obtain ⟨I,E,rfl,l,m,n,z⟩:=aO Ld.zero r
 by_cases hX:X=[]
 ·subst hX;exact Da N h I E w
 ·obtain ⟨J,Z,rfl,U,z⟩:=z hX;exact D9 N h K p J Z E X w U Y z W
theorem xu (K:Nat) (w:World) (h:K<4294967296):Calls prog 138 #[.int .i64 K] w fun e w'=>e=.returned (.tuple #[.int .i64 (zL (K % 256) (K / 256 % 256) (K / 65536 % 256) (K / 16777216)),.int .i64 0])/\Below w.heap.size w w':=by
 go_in;go_wp2_with fail;refine (xi w.heap.size (K % 256) (K / 256 % 256) (K / 65536 % 256) (K / 16777216) _ (by omega) (by omega) (by omega) (by omega) (by simp) (by simp) (by simp) (by simp)).mono ?_;exact Q133
theorem uM (k:Int) (w:World) (h:k<0\/(0<=k/\4294967295<k)):Calls prog 138 #[.int .i64 k] w fun e w'=>e=.returned (.tuple #[.int .i64 0,.int .i64 2])/\Below w.heap.size w w':=by
 rcases h with h|⟨h,z⟩
 all_goals
  go_in
  go_wp2
  all_goals first|(go_ret2;exact ⟨rII rfl rfl,Zb⟩)|exact Zx
theorem uK (b i:Nat) (w:World) (I:b<=11) (J:i<=31):Calls prog 153 #[.int .i64 b,.int .i64 i] w fun e w'=>e=.returned (.tuple #[.int .i64 (zL 98 b i 115),.int .i64 0])/\Below w.heap.size w w':=by
 have z:(b:Int) % 256=b:=by omega
 have E:(i:Int) % 256=i:=by omega
 go_in;go_wp2_with fail;refine (xi w.heap.size 98 b i 115 _ (by omega) (by omega) (by omega) (by omega) (by simp) (by simp) (by simp) (by simp)).mono ?_;exact Q133
def Tm.agg (x:Tm):Value:=.agg #[.int .i64 x.at_,.int .i64 x.id]
theorem CZ (N:Nat) (z:Addr) (hN:∀ args w,(callFunc N args).run prog w=.ok (.enter N args) w) (p:Tm->Bool) (b0 o0 Z:Nat) (X:List Tm) (w:World) (hb0:b0<w.heap.size) (hn:X.length<=4611686018427387903) (E:∀ i j,i<X.length->j<2->w.cell? ⟨b0,o0+i*2+j,none⟩=(X.getD i Tm.zero).cells[j]?)
  (J:∀ x∈X,∀ w',Below w.heap.size w w'->Calls prog N #[Tm.agg x,.pointer (some z)] w' fun e a2=>e=.returned (.bool (p x))/\Below w'.heap.size w' a2) :
  Calls prog 134 #[.slice (some ⟨b0,o0,none⟩) X.length Z,.func (.func N) #[] #[.pointer (some z)]] w fun e w'=>e=.returned (.int .i64 (aU p X))/\Below w.heap.size w w':=by
 have H1:=KL E
 have U:=KL J
 have a4:X.length<=9223372036854775807:=by omega
 clear E J
 go_in
 go_wp2
 go_loopw [8] (fun i wr=>∃ k:Nat,k<=X.length/\i=.int .i64 k/\Below w.heap.size w wr/\∀ x∈X.take k,p x=false) (fun i _=>X.length - (intOf i).toNat)
 case atStart=>exact ⟨0,La _,rfl,KM _ _,fun x hx=>by simp at hx⟩
 case round=>
  obtain ⟨k,hk,rfl,hbel,I⟩:=hrel;have HA:=KL I;clear I;rcases (show k<X.length\/X.length=k by omega) with hlt|heq
  ·have a3:(k:Int)<(X.length:Int):=by omega
   obtain ⟨o,ho⟩:∃ o,o=X.getD k Tm.zero:=⟨_,rfl⟩;have HO:=KL ho
   have K:o∈X:=by rw [ho];simp only [List.getD,Lj hlt,LI];exact Lp _
   have HC:=KL (U.out o K _ hbel)
   have hold:∀ j,j<2->wr.cell? ⟨b0,o0+k*2+j,none⟩=o.cells[j]?:=fun j hj=>by
    exact Q155
   have W:=hold 0 (by omega);have Y:=hold 1 (by omega);clear hold ho K;have HB:=KL hbel;clear hbel;simp only [Tm.cells,Lb,Lc,Nat.add_zero] at W Y;exact Q11
  ·exact Q22
theorem D0 (N:Nat) (z:Addr) (a:Option Addr) (c:Nat) (w:World):Calls prog 134 #[.slice a 0 c,.func (.func N) #[] #[.pointer (some z)]] w fun e w'=>e=.returned (.int .i64 (-1))/\Below w.heap.size w w':=by
 go_in;exact Q24
theorem tM (N:Nat) (h:Addr) (K:∀ args w,(callFunc N args).run prog w=.ok (.enter N args) w) (p:Tm->Bool) (v:Value) (X:List Tm) (w:World) (r:aK w 2 v (X.map Tm.cells)) (Y:X.length<=4611686018427387903)
  (W:∀ x∈X,∀ w',Below w.heap.size w w'->Calls prog N #[Tm.agg x,.pointer (some h)] w' fun e a0=>e=.returned (.bool (p x))/\Below w'.heap.size w' a0) :
  Calls prog 134 #[v,.func (.func N) #[] #[.pointer (some h)]] w fun e w'=>e=.returned (.int .i64 (aU p X))/\Below w.heap.size w w':=by
 obtain ⟨I,E,rfl,l,m,n,z⟩:=aO Tm.zero r
 by_cases hX:X=[]
 ·subst hX;exact D0 N h I E w
 ·obtain ⟨J,Z,rfl,U,z⟩:=z hX;exact CZ N h K p J Z E X w U Y z W
def oY (X:List Sl) (z E:Int) (o:Sl) (code:Int):Prop:=
 (¬ dR X/\o=Sl.zero/\code=6)\/(dR X/\(z<0\/(0<=z/\(X.length:Int)<=z))/\o=Sl.zero/\code=8)\/
 (dR X/\∃ h:Nat,h<X.length/\z=h/\(((X.getD h Sl.zero).used=true/\(X.getD h Sl.zero).gen=E/\o=X.getD h Sl.zero/\code=0)\/
  (((X.getD h Sl.zero).used=false\/((X.getD h Sl.zero).used=true/\(X.getD h Sl.zero).gen≠E))/\o=Sl.zero/\code=10)))
theorem ge (X:List Sl) (sl K:Int) (o:Sl) (code:Int) (v:Value) (w:World) (r:aK w 4 v (X.map Sl.cells)) (h:oY X sl K o code) :
  Calls prog 80 #[.agg #[v],.agg #[.int .i64 sl,.int .i64 K]] w fun e w'=>e=.returned (.tuple #[.agg #[.int .i64 o.gen,.bool o.used,.int .i64 o.key,.int .i64 o.backend],.int .i64 code])/\Below w.heap.size w w':=by
 have R:=KL r
 obtain ⟨a,c,rfl,l,m,n,p⟩:=aO Sl.zero r
 clear r
 rcases h with ⟨h,rfl,rfl⟩|⟨h,U,rfl,rfl⟩|⟨h,I,Y,rfl,z⟩
 ·have H:=KL h;clear h l m n p;go_in;go_wp2_with (go_at_call 47;refine (uC _ X _ (ai (ai (ai R.out _) _) _) H.out).mono ?_;rintro e w1 ⟨rfl,hb1⟩;obtain ⟨hc1,hf1⟩:=aX hb1;have hz1:=fX hb1;have hy1:=hb1.size;(try simp at hy1));refine LN (v:=.tuple #[.agg #[.int .i64 0,.bool false,.int .i64 0,.int .i64 0],.int .i64 6]) ?_ rfl ?_;(focus (first|(simp [results,results80,go_sem];done)|(simp [results,results80,go_sem, *];done)));exact ⟨rfl,Zb⟩
 ·have H:=KL h;have W:X.length<=40:=h.2.1;clear h l m n p;rcases U with U|⟨U,h3⟩
  all_goals
   go_in
   go_wp2_with (go_at_call 47;refine (fp _ X _ (ai (ai (ai R.out _) _) _) H.out).mono ?_;rintro e w1 ⟨rfl,hb1⟩;obtain ⟨hc1,hf1⟩:=aX hb1;have hz1:=fX hb1;have hy1:=hb1.size;(try simp at hy1))
   (refine LN (v:=.tuple #[.agg #[.int .i64 0,.bool false,.int .i64 0,.int .i64 0],.int .i64 8]) ?_ rfl ?_;(focus (first|(simp [results,results80,go_sem];done)|(simp [results,results80,go_sem, *];done)));exact ⟨rfl,Zb⟩)
 ·have H:=KL h;have W:X.length<=40:=h.2.1;obtain ⟨b0,o0,rfl,a4,q⟩:=p (by intro W;rw [W] at Y;simp at Y);have a5:(I:Int)<(X.length:Int):=by omega
  obtain ⟨J,Z⟩:∃ J,J=X.getD I Sl.zero:=⟨_,rfl⟩;rw [<- Z] at z
  have hold:∀ E,E<4->w.cell? ⟨b0,o0+I*4+E,none⟩=J.cells[E]?:=fun E hj=>by rw [Z];exact q I E Y hj
  have a0:=hold 0 (by omega);have a1:=hold 1 (by omega);have a2:=hold 2 (by omega);have a3:=hold 3 (by omega);clear hold Z q p h l m n;obtain ⟨g,u,ky,b⟩:=J;simp only [Sl.cells,Lb,Lc,Nat.add_zero] at a0 a1 a2 a3 z;rcases z with ⟨rfl,rfl,rfl,rfl⟩|⟨z,rfl,rfl⟩
  ·go_in;go_wp2_with fail;refine (fp _ X _ (ai (ai (ai R.out _) _) _) H.out).mono ?_;rintro e w1 ⟨rfl,hb1⟩;obtain ⟨hc1,hf1⟩:=aX hb1;have hz1:=fX hb1;have hy1:=hb1.size;simp at hy1;have hb2:b0<w.heap.size+1:=by omega
   have hb3:b0<w.heap.size+1+1:=by omega
   have hb4:b0<w.heap.size+1+1+1:=by omega
   go_wp2;refine LN (v:=.tuple #[.agg #[.int .i64 g,.bool true,.int .i64 ky,.int .i64 b],.int .i64 0]) ?_ rfl ?_;(focus (first|(simp [results,results80,go_sem];done)|(simp [results,results80,go_sem, *];done)));exact ⟨rfl,Zb⟩
  ·rcases z with rfl|⟨rfl,hg⟩
   ·exact Q34
   ·have hd:(g == K)=false:=by simpa using hg
    clear hg;exact Q34
def Rq.agg (x:Rq):Value:=.agg #[.int .i64 x.id,.int .i64 x.kind,.int .i64 x.backend,.int .i64 x.weight,.int .i64 x.answer]
theorem D5 (N:Nat) (J:Addr) (hN:∀ args w,(callFunc N args).run prog w=.ok (.enter N args) w) (p:Rq->Bool) (z I c0:Nat) (X:List Rq) (w:World) (a5:z<w.heap.size) (hn:X.length<=4611686018427387903) (K:∀ i j,i<X.length->j<5->w.cell? ⟨z,I+i*5+j,none⟩=(X.getD i Rq.zero).cells[j]?)
  (W:∀ x∈X,∀ w',Below w.heap.size w w'->Calls prog N #[Rq.agg x,.pointer (some J)] w' fun e a6=>e=.returned (.bool (p x))/\Below w'.heap.size w' a6) :
  Calls prog 109 #[.slice (some ⟨z,I,none⟩) X.length c0,.func (.func N) #[] #[.pointer (some J)]] w fun e w'=>e=.returned (.int .i64 (aU p X))/\Below w.heap.size w w':=by
 have Z:=KL K
 have HF:=KL W
 have a8:X.length<=9223372036854775807:=by omega
 clear K W
 go_in
 go_wp2
 go_loopw [8] (fun i wr=>∃ k:Nat,k<=X.length/\i=.int .i64 k/\Below w.heap.size w wr/\∀ x∈X.take k,p x=false) (fun i _=>X.length - (intOf i).toNat)
 case atStart=>exact ⟨0,La _,rfl,KM _ _,fun x hx=>by simp at hx⟩
 case round=>
  obtain ⟨k,hk,rfl,hbel,U⟩:=hrel;have HA:=KL U;clear U;rcases (show k<X.length\/X.length=k by omega) with hlt|heq
  ·have a7:(k:Int)<(X.length:Int):=by omega
   obtain ⟨o,E⟩:∃ o,o=X.getD k Rq.zero:=⟨_,rfl⟩;have HO:=KL E
   have Y:o∈X:=by rw [E];simp only [List.getD,Lj hlt,LI];exact Lp _
   have HC:=KL (HF.out o Y _ hbel)
   have hold:∀ j,j<5->wr.cell? ⟨z,I+k*5+j,none⟩=o.cells[j]?:=fun j hj=>by
    rw [hbel.cell (p:=⟨z,I+k*5+j,none⟩) a5,E];exact Z.out k j hlt hj
   have a0:=hold 0 (by omega);have a1:=hold 1 (by omega);have a2:=hold 2 (by omega);have a3:=hold 3 (by omega);have a4:=hold 4 (by omega);clear hold E Y;have HB:=KL hbel;clear hbel;simp only [Rq.cells,Lb,Lc,Nat.add_zero] at a0 a1 a2 a3 a4;exact Q11
  ·exact Q22
theorem D6 (N:Nat) (z:Addr) (a:Option Addr) (c:Nat) (w:World):Calls prog 109 #[.slice a 0 c,.func (.func N) #[] #[.pointer (some z)]] w fun e w'=>e=.returned (.int .i64 (-1))/\Below w.heap.size w w':=by
 go_in;exact Q24
theorem lu (N:Nat) (h:Addr) (K:∀ args w,(callFunc N args).run prog w=.ok (.enter N args) w) (p:Rq->Bool) (v:Value) (X:List Rq) (w:World) (r:aK w 5 v (X.map Rq.cells)) (Y:X.length<=4611686018427387903)
  (W:∀ x∈X,∀ w',Below w.heap.size w w'->Calls prog N #[Rq.agg x,.pointer (some h)] w' fun e a0=>e=.returned (.bool (p x))/\Below w'.heap.size w' a0) :
  Calls prog 109 #[v,.func (.func N) #[] #[.pointer (some h)]] w fun e w'=>e=.returned (.int .i64 (aU p X))/\Below w.heap.size w w':=by
 obtain ⟨I,E,rfl,l,m,n,z⟩:=aO Rq.zero r
 by_cases hX:X=[]
 ·subst hX;exact D6 N h I E w
 ·obtain ⟨J,Z,rfl,U,z⟩:=z hX;exact D5 N h K p J Z E X w U Y z W
def Fl.agg (x:Fl):Value:=.agg #[.int .i64 x.slot,.int .i64 x.gen,.int .i64 x.key,.int .i64 x.backend,.bool x.serving,.int .i64 x.retries,.int .i64 x.due]
theorem Dc (N:Nat) (J:Addr) (hN:∀ args w,(callFunc N args).run prog w=.ok (.enter N args) w) (p:Fl->Bool) (z I c0:Nat) (X:List Fl) (w:World) (a7:z<w.heap.size) (hn:X.length<=4611686018427387903) (K:∀ i j,i<X.length->j<7->w.cell? ⟨z,I+i*7+j,none⟩=(X.getD i Fl.zero).cells[j]?)
  (W:∀ x∈X,∀ w',Below w.heap.size w w'->Calls prog N #[Fl.agg x,.pointer (some J)] w' fun e a8=>e=.returned (.bool (p x))/\Below w'.heap.size w' a8) :
  Calls prog 122 #[.slice (some ⟨z,I,none⟩) X.length c0,.func (.func N) #[] #[.pointer (some J)]] w fun e w'=>e=.returned (.int .i64 (aU p X))/\Below w.heap.size w w':=by
 have Z:=KL K
 have HF:=KL W
 have aa:X.length<=9223372036854775807:=by omega
 clear K W
 go_in
 go_wp2
 go_loopw [8] (fun i wr=>∃ k:Nat,k<=X.length/\i=.int .i64 k/\Below w.heap.size w wr/\∀ x∈X.take k,p x=false) (fun i _=>X.length - (intOf i).toNat)
 case atStart=>exact ⟨0,La _,rfl,KM _ _,fun x hx=>by simp at hx⟩
 case round=>
  obtain ⟨k,hk,rfl,hbel,U⟩:=hrel;have HA:=KL U;clear U;rcases (show k<X.length\/X.length=k by omega) with hlt|heq
  ·have a9:(k:Int)<(X.length:Int):=by omega
   obtain ⟨o,E⟩:∃ o,o=X.getD k Fl.zero:=⟨_,rfl⟩;have HO:=KL E
   have Y:o∈X:=by rw [E];simp only [List.getD,Lj hlt,LI];exact Lp _
   have HC:=KL (HF.out o Y _ hbel)
   have hold:∀ j,j<7->wr.cell? ⟨z,I+k*7+j,none⟩=o.cells[j]?:=fun j hj=>by
    rw [hbel.cell (p:=⟨z,I+k*7+j,none⟩) a7,E];exact Z.out k j hlt hj
   have a0:=hold 0 (by omega);have a1:=hold 1 (by omega);have a2:=hold 2 (by omega);have a3:=hold 3 (by omega);have a4:=hold 4 (by omega);have a5:=hold 5 (by omega);have a6:=hold 6 (by omega);clear hold E Y;have HB:=KL hbel;clear hbel;simp only [Fl.cells,Lb,Lc,Nat.add_zero] at a0 a1 a2 a3 a4 a5 a6;exact Q11
  ·exact Q22
theorem De (N:Nat) (z:Addr) (a:Option Addr) (c:Nat) (w:World):Calls prog 122 #[.slice a 0 c,.func (.func N) #[] #[.pointer (some z)]] w fun e w'=>e=.returned (.int .i64 (-1))/\Below w.heap.size w w':=by
 go_in;exact Q24
theorem Df (N:Nat) (h:Addr) (K:∀ args w,(callFunc N args).run prog w=.ok (.enter N args) w) (p:Fl->Bool) (v:Value) (X:List Fl) (w:World) (r:aK w 7 v (X.map Fl.cells)) (Y:X.length<=4611686018427387903)
  (W:∀ x∈X,∀ w',Below w.heap.size w w'->Calls prog N #[Fl.agg x,.pointer (some h)] w' fun e a0=>e=.returned (.bool (p x))/\Below w'.heap.size w' a0) :
  Calls prog 122 #[v,.func (.func N) #[] #[.pointer (some h)]] w fun e w'=>e=.returned (.int .i64 (aU p X))/\Below w.heap.size w w':=by
 obtain ⟨I,E,rfl,l,m,n,z⟩:=aO Fl.zero r
 by_cases hX:X=[]
 ·subst hX;exact De N h I E w
 ·obtain ⟨J,Z,rfl,U,z⟩:=z hX;exact Dc N h K p J Z E X w U Y z W
def Sl.agg (x:Sl):Value:=.agg #[.int .i64 x.gen,.bool x.used,.int .i64 x.key,.int .i64 x.backend]
theorem Fw (N:Nat) (z:Array Value) (hN:∀ args w,(callFunc N args).run prog w=.ok (.enter N args) w) (p:Sl->Bool) (b0 o0 c0:Nat) (X:List Sl) (w:World) (hb0:b0<w.heap.size) (hn:X.length<=4611686018427387903) (E:∀ i j,i<X.length->j<4->w.cell? ⟨b0,o0+i*4+j,none⟩=(X.getD i Sl.zero).cells[j]?)
  (J:∀ x∈X,∀ w',Below w.heap.size w w'->Calls prog N (z.push (Sl.agg x)) w' fun e a4=>e=.returned (.bool (p x))/\Below w'.heap.size w' a4) :
  Calls prog 99 #[.slice (some ⟨b0,o0,none⟩) X.length c0,.func (.func N) z #[]] w fun e w'=>e=.returned (.int .i64 (aU p X))/\Below w.heap.size w w':=by
 have H1:=KL E
 have U:=KL J
 have a6:X.length<=9223372036854775807:=by omega
 clear E J
 go_in
 go_wp2
 go_loopw [8] (fun i wr=>∃ k:Nat,k<=X.length/\i=.int .i64 k/\Below w.heap.size w wr/\∀ x∈X.take k,p x=false) (fun i _=>X.length - (intOf i).toNat)
 case atStart=>exact ⟨0,La _,rfl,KM _ _,fun x hx=>by simp at hx⟩
 case round=>
  obtain ⟨k,hk,rfl,hbel,I⟩:=hrel;have HA:=KL I;clear I;rcases (show k<X.length\/X.length=k by omega) with hlt|heq
  ·have a5:(k:Int)<(X.length:Int):=by omega
   obtain ⟨o,ho⟩:∃ o,o=X.getD k Sl.zero:=⟨_,rfl⟩;have HO:=KL ho
   have K:o∈X:=by rw [ho];simp only [List.getD,Lj hlt,LI];exact Lp _
   have HC:=KL (U.out o K _ hbel)
   have hold:∀ j,j<4->wr.cell? ⟨b0,o0+k*4+j,none⟩=o.cells[j]?:=fun j hj=>by
    exact Q111
   have W:=hold 0 (by omega);have Y:=hold 1 (by omega);have Z:=hold 2 (by omega);have a3:=hold 3 (by omega);clear hold ho K;have HB:=KL hbel;clear hbel;simp only [Sl.cells,Lb,Lc,Nat.add_zero] at W Y Z a3;exact Q11
  ·exact Q22
theorem Fx (N:Nat) (z:Array Value) (a:Option Addr) (c:Nat) (w:World):Calls prog 99 #[.slice a 0 c,.func (.func N) z #[]] w fun e w'=>e=.returned (.int .i64 (-1))/\Below w.heap.size w w':=by
 go_in;exact Q24
theorem xQ (N:Nat) (h:Array Value) (K:∀ args w,(callFunc N args).run prog w=.ok (.enter N args) w) (p:Sl->Bool) (v:Value) (X:List Sl) (w:World) (r:aK w 4 v (X.map Sl.cells)) (Y:X.length<=4611686018427387903)
  (W:∀ x∈X,∀ w',Below w.heap.size w w'->Calls prog N (h.push (Sl.agg x)) w' fun e a0=>e=.returned (.bool (p x))/\Below w'.heap.size w' a0) :
  Calls prog 99 #[v,.func (.func N) h #[]] w fun e w'=>e=.returned (.int .i64 (aU p X))/\Below w.heap.size w w':=by
 obtain ⟨I,E,rfl,l,m,n,z⟩:=aO Sl.zero r
 by_cases hX:X=[]
 ·subst hX;exact Fx N h I E w
 ·obtain ⟨J,Z,rfl,U,z⟩:=z hX;exact Fw N h K p J Z E X w U Y z W
theorem yy (N:Nat) (E:Array Value) (U:∀ args w,(callFunc N args).run prog w=.ok (.enter N args) w) (p:Sl->Bool) (v:Value) (X:List Sl) (w:World) (r:aK w 4 v (X.map Sl.cells)) (Y:X.length<=4611686018427387903)
  (I:∀ x∈X,∀ w',Below w.heap.size w w'->Calls prog N (E.push (Sl.agg x)) w' fun e Z=>e=.returned (.bool (p x))/\Below w'.heap.size w' Z) :
  Calls prog 61 #[v,.func (.func N) E #[]] w fun e w'=>e=.returned (.bool (X.any p))/\Below w.heap.size w w':=by
 have K:=KL (xQ N E U p v X w r Y I)
 have z:=iE p X
 obtain ⟨a,c,rfl,_⟩:=ap r
 clear r I
 obtain ⟨i,J⟩:∃ i,i=aU p X:=⟨_,rfl⟩
 rw [<- J] at K z
 clear J
 cases hx:X.any p with
 | true=>
  have W:0<=i:=z.1.1 hx;clear z hx;go_in;exact Q36
 | false=>
  have W:decide (0<=i)=false:=by have:=z.2.1 hx;simp;omega
  clear z hx;go_in;exact Q36
def Sp.agg (x:Sp):Value:=.agg #[.int .i64 x.hash,.int .i64 x.backend]
theorem D1 (N:Nat) (z:Addr) (hN:∀ args w,(callFunc N args).run prog w=.ok (.enter N args) w) (p:Sp->Bool) (b0 o0 Z:Nat) (X:List Sp) (w:World) (hb0:b0<w.heap.size) (hn:X.length<=4611686018427387903) (E:∀ i j,i<X.length->j<2->w.cell? ⟨b0,o0+i*2+j,none⟩=(X.getD i Sp.zero).cells[j]?)
  (J:∀ x∈X,∀ w',Below w.heap.size w w'->Calls prog N #[Sp.agg x,.pointer (some z)] w' fun e a2=>e=.returned (.bool (p x))/\Below w'.heap.size w' a2) :
  Calls prog 148 #[.slice (some ⟨b0,o0,none⟩) X.length Z,.func (.func N) #[] #[.pointer (some z)]] w fun e w'=>e=.returned (.int .i64 (aU p X))/\Below w.heap.size w w':=by
 have H1:=KL E
 have U:=KL J
 have a4:X.length<=9223372036854775807:=by omega
 clear E J
 go_in
 go_wp2
 go_loopw [8] (fun i wr=>∃ k:Nat,k<=X.length/\i=.int .i64 k/\Below w.heap.size w wr/\∀ x∈X.take k,p x=false) (fun i _=>X.length - (intOf i).toNat)
 case atStart=>exact ⟨0,La _,rfl,KM _ _,fun x hx=>by simp at hx⟩
 case round=>
  obtain ⟨k,hk,rfl,hbel,I⟩:=hrel;have HA:=KL I;clear I;rcases (show k<X.length\/X.length=k by omega) with hlt|heq
  ·have a3:(k:Int)<(X.length:Int):=by omega
   obtain ⟨o,ho⟩:∃ o,o=X.getD k Sp.zero:=⟨_,rfl⟩;have HO:=KL ho
   have K:o∈X:=by rw [ho];simp only [List.getD,Lj hlt,LI];exact Lp _
   have HC:=KL (U.out o K _ hbel)
   have hold:∀ j,j<2->wr.cell? ⟨b0,o0+k*2+j,none⟩=o.cells[j]?:=fun j hj=>by
    exact Q155
   have W:=hold 0 (by omega);have Y:=hold 1 (by omega);clear hold ho K;have HB:=KL hbel;clear hbel;simp only [Sp.cells,Lb,Lc,Nat.add_zero] at W Y;exact Q11
  ·exact Q22
theorem D3 (N:Nat) (z:Addr) (a:Option Addr) (c:Nat) (w:World):Calls prog 148 #[.slice a 0 c,.func (.func N) #[] #[.pointer (some z)]] w fun e w'=>e=.returned (.int .i64 (-1))/\Below w.heap.size w w':=by
 go_in;exact Q24
theorem D4 (N:Nat) (h:Addr) (K:∀ args w,(callFunc N args).run prog w=.ok (.enter N args) w) (p:Sp->Bool) (v:Value) (X:List Sp) (w:World) (r:aK w 2 v (X.map Sp.cells)) (Y:X.length<=4611686018427387903)
  (W:∀ x∈X,∀ w',Below w.heap.size w w'->Calls prog N #[Sp.agg x,.pointer (some h)] w' fun e a0=>e=.returned (.bool (p x))/\Below w'.heap.size w' a0) :
  Calls prog 148 #[v,.func (.func N) #[] #[.pointer (some h)]] w fun e w'=>e=.returned (.int .i64 (aU p X))/\Below w.heap.size w w':=by
 obtain ⟨I,E,rfl,l,m,n,z⟩:=aO Sp.zero r
 by_cases hX:X=[]
 ·subst hX;exact D3 N h I E w
 ·obtain ⟨J,Z,rfl,U,z⟩:=z hX;exact D1 N h K p J Z E X w U Y z W
structure FD where
 a:Addr
 lo:Int
 hi:Int
 val:Int
def FD.cells (f:FD):List Value:=[.pointer (some f.a),.int .i64 f.lo,.int .i64 f.hi]
def jO (e:Ev) (be bg:Nat) (g:Int):List FD:=
 if e.kind=1 then [⟨⟨be,1,none⟩,0,4294967295,e.key⟩]
 else if e.kind=2\/e.kind=3 then [⟨⟨be,2,none⟩,0,39,e.slot⟩,⟨⟨be,3,none⟩,0,1048576,e.gen⟩]
 else if e.kind=4 then [⟨⟨be,2,none⟩,0,39,e.slot⟩,⟨⟨be,3,none⟩,0,1048576,e.gen⟩,⟨⟨bg,0,none⟩,0,1,g⟩]
 else if e.kind=5 then [⟨⟨be,5,none⟩,0,1048576,e.request⟩,⟨⟨be,6,none⟩,0,11,e.backend⟩,⟨⟨be,7,none⟩,1,8,e.weight⟩]
 else if e.kind=6 then [⟨⟨be,5,none⟩,0,1048576,e.request⟩,⟨⟨be,6,none⟩,0,11,e.backend⟩]
 else []
def FdPost (w:World) (F:List FD) (ok:Bool) (e:Ending) (w':World):Prop:=∃ v,e=.returned (.tuple #[v,.bool ok])/\aN w.heap.size w' 3 v (F.map FD.cells)/\Below w.heap.size w w'
theorem kZ {w:World} {base b n T sz:Nat} {cs:List Value} (z:base<=b) (E:w.heap[b]?=some (.cells cs.toArray T (0,0))) (I:n<=maxLen) (h:cs.length=n*sz):w.ownsRow base T sz (.slice (some ⟨b,0,none⟩) n n) n cs:=
 ⟨h,.inr ⟨b,n,cs.toArray,rfl,z,E,KY _,I,by simpa using h,by simp [<- h]⟩⟩
theorem CU (F:List FD):∀ c∈F.map FD.cells,c.length=3:=by
 exact Q28
theorem tI {w:World} {n k:Nat} (h:n=w.heap.size) (cs:List Value) (t:TypeId):∀ (j:Nat) (u:Value),cs[j]?=some u->((w.alloc (Obj.cells cs.toArray t)).drewN k).cell? ((⟨n,0,none⟩:Addr).add j)=some u:=fO h cs t
theorem Jh:(prog.info? 91).map (fun i=>(i.zero,i.size,i.bytes))=some (some (.agg #[.pointer none,.int .i64 0,.int .i64 0]),3,24):=by kernel_rfl
theorem po (x:Ev) (be bg:Nat) (g:Int) (ok:Bool) (w:World) (hk:w.cell? ⟨be,0,none⟩=some (.int .i64 x.kind)) (a2:ok=decide (1<=x.kind/\x.kind<=7)) :
  Calls prog 13 #[.pointer (some ⟨be,0,none⟩),.pointer (some ⟨bg,0,none⟩)] w (FdPost w (jO x be bg g) ok):=by
 have lb:=bV hk
 obtain ⟨z,W,Z,U,J,Y,I,wt⟩:=x
 simp only at hk a2
 obtain ⟨i0,ji,a3,a4,a5⟩:=info_parts Jh
 have E:=KL a2
 clear a2
 go_in
 go_wp2_with fail
 (refine Zr ((fun _=>True)) (fun a1=>?_) (by (try dsimp only);(try trivial));refine eD 0 ?_;refine Z1 8 (fun K hK=>?_);go_simp;refine Zk hK (hS:=by (try dsimp only);(try trivial)) fun a1=>?_;clear hK K;refine Zt 9 ?_;refine Zd ?_)
 go_wp2_with fail
 (refine Zr ((fun _=>True)) (fun a1=>?_) (by (try dsimp only);(try trivial));refine eD 0 ?_;refine Z1 8 (fun K hK=>?_);go_simp;refine Zk hK (hS:=by (try dsimp only);(try trivial)) fun a1=>?_;clear hK K;refine Zt 9 ?_;refine Zd ?_)
 rcases (show z=1\/z=2\/z=3\/z=4\/z=5\/z=6\/z=7\/(z<1\/7<z) by omega) with rfl|rfl|rfl|rfl|rfl|rfl|rfl|a6
 ·obtain rfl:ok=true:=by rw [E.out];rfl
  clear E;go_wp2;refine LN (v:=.tuple #[.slice (some ⟨w.heap.size+1+1,0,none⟩) 1 1,.bool true]) ?_ rfl ⟨_,rfl,aG (base:=w.heap.size) (e:=91) (n:=1) (L:=(jO ⟨1,W,Z,U,J,Y,I,wt⟩ be bg g).map FD.cells) (kZ (by omega) (by (try simp only [hp_drewN]);first|exact aB _ rfl|exact aB _ (by simp)|(refine (KQ _ _ _ Zs).trans ?_;first|exact aB _ rfl|exact aB _ (by simp))|(refine (KQ _ _ _ Zs).trans ((KQ _ _ _ Zs).trans ?_);first|exact aB _ rfl|exact aB _ (by simp))) (by decide) rfl) rfl (CU _),Zb⟩;simp [results,results13,go_sem, *]
 ·obtain rfl:ok=true:=by rw [E.out];rfl
  clear E;go_wp2;refine LN (v:=.tuple #[.slice (some ⟨w.heap.size,0,none⟩) 2 2,.bool true]) ?_ rfl ⟨_,rfl,aG (base:=w.heap.size) (e:=91) (n:=2) (L:=(jO ⟨2,W,Z,U,J,Y,I,wt⟩ be bg g).map FD.cells) (kZ (by omega) (by (try simp only [hp_drewN]);first|exact aB _ rfl|exact aB _ (by simp)|(refine (KQ _ _ _ Zs).trans ?_;first|exact aB _ rfl|exact aB _ (by simp))|(refine (KQ _ _ _ Zs).trans ((KQ _ _ _ Zs).trans ?_);first|exact aB _ rfl|exact aB _ (by simp))) (by decide) rfl) rfl (CU _),Zb⟩;simp [results,results13,go_sem, *]
 ·obtain rfl:ok=true:=by rw [E.out];rfl
  clear E;go_wp2;refine LN (v:=.tuple #[.slice (some ⟨w.heap.size,0,none⟩) 2 2,.bool true]) ?_ rfl ⟨_,rfl,aG (base:=w.heap.size) (e:=91) (n:=2) (L:=(jO ⟨3,W,Z,U,J,Y,I,wt⟩ be bg g).map FD.cells) (kZ (by omega) (by (try simp only [hp_drewN]);first|exact aB _ rfl|exact aB _ (by simp)|(refine (KQ _ _ _ Zs).trans ?_;first|exact aB _ rfl|exact aB _ (by simp))|(refine (KQ _ _ _ Zs).trans ((KQ _ _ _ Zs).trans ?_);first|exact aB _ rfl|exact aB _ (by simp))) (by decide) rfl) rfl (CU _),Zb⟩;simp [results,results13,go_sem, *]
 ·obtain rfl:ok=true:=by rw [E.out];rfl
  clear E;have OW:=KL (kZ (w:=(w.alloc (.cells #[.pointer (some ⟨be,2,none⟩),.int .i64 0,.int .i64 39,.pointer (some ⟨be,3,none⟩),.int .i64 0,.int .i64 1048576] 91)).alloc (.cells #[.pointer (some ⟨be,5,none⟩),.int .i64 0,.int .i64 1048576,.pointer (some ⟨be,6,none⟩),.int .i64 0,.int .i64 11] 91)) (base:=w.heap.size) (b:=w.heap.size) (n:=2) (T:=91) (sz:=3) (cs:=((jO ⟨2,W,Z,U,J,Y,I,wt⟩ be bg g).map FD.cells).flatten) (by omega) ((KQ _ _ _ (by simp)).trans (aB _ rfl)) (by decide) rfl);have a0:Hid (w.heap.size+1+1=((w.alloc (.cells #[.pointer (some ⟨be,2,none⟩),.int .i64 0,.int .i64 39,.pointer (some ⟨be,3,none⟩),.int .i64 0,.int .i64 1048576] 91)).alloc (.cells #[.pointer (some ⟨be,5,none⟩),.int .i64 0,.int .i64 1048576,.pointer (some ⟨be,6,none⟩),.int .i64 0,.int .i64 11] 91)).heap.size):=by simp [Hid]
  go_wp2_with (at_builtin;go_loud (refine wpList_append_own _ rfl _ _ 85 rfl w.heap.size 91 i0 (.agg #[.pointer none,.int .i64 0,.int .i64 0]) 3 24 underlying85 ji a3 a4 a5 rfl (by decide) _ 2 ((jO ⟨2,W,Z,U,J,Y,I,wt⟩ be bg g).map FD.cells).flatten rfl ?c5 ⟨w.heap.size+1+1,0,none⟩ 1 1 [.pointer (some ⟨bg,0,none⟩),.int .i64 0,.int .i64 1] rfl rfl ?c6 ?c1 ?c2 ?c3 ?c4 ?_))
  case c5=>exact ((OW.out.alloc _).drew).drew
  case c6=>exact tI (k:=2) a0.out _ 91
  case c1=>intro u hu;simp at hu;rcases hu with rfl|rfl|rfl<;>rfl
  case c2=>unfold maxLen;omega
  case c3=>omega
  case c4=>first|omega|(simp;omega)
  intro v' w1 hown' hgrow _;obtain ⟨a',cap',rfl,_,_⟩:=aE hown'
  have B1:Hid (Below w.heap.size w w1):=by
   exact Q43
  have O1:Hid (aN w.heap.size w1 3 (.slice a' 3 cap') ((jO ⟨4,W,Z,U,J,Y,I,wt⟩ be bg g).map FD.cells)):=aG (e:=91) (n:=3) hown' rfl (CU _);exact Q91
 ·obtain rfl:ok=true:=by rw [E.out];rfl
  clear E;have OW:=KL (kZ (w:=(w.alloc (.cells #[.pointer (some ⟨be,2,none⟩),.int .i64 0,.int .i64 39,.pointer (some ⟨be,3,none⟩),.int .i64 0,.int .i64 1048576] 91)).alloc (.cells #[.pointer (some ⟨be,5,none⟩),.int .i64 0,.int .i64 1048576,.pointer (some ⟨be,6,none⟩),.int .i64 0,.int .i64 11] 91)) (base:=w.heap.size) (b:=w.heap.size+1) (n:=2) (T:=91) (sz:=3) (cs:=((jO ⟨6,W,Z,U,J,Y,I,wt⟩ be bg g).map FD.cells).flatten) (by omega) (aB _ (by simp)) (by decide) rfl);have a0:Hid (w.heap.size+1+1=((w.alloc (.cells #[.pointer (some ⟨be,2,none⟩),.int .i64 0,.int .i64 39,.pointer (some ⟨be,3,none⟩),.int .i64 0,.int .i64 1048576] 91)).alloc (.cells #[.pointer (some ⟨be,5,none⟩),.int .i64 0,.int .i64 1048576,.pointer (some ⟨be,6,none⟩),.int .i64 0,.int .i64 11] 91)).heap.size):=by simp [Hid]
  go_wp2_with (at_builtin;go_loud (refine wpList_append_own _ rfl _ _ 85 rfl w.heap.size 91 i0 (.agg #[.pointer none,.int .i64 0,.int .i64 0]) 3 24 underlying85 ji a3 a4 a5 rfl (by decide) _ 2 ((jO ⟨6,W,Z,U,J,Y,I,wt⟩ be bg g).map FD.cells).flatten rfl ?c5 ⟨w.heap.size+1+1,0,none⟩ 1 1 [.pointer (some ⟨be,7,none⟩),.int .i64 1,.int .i64 8] rfl rfl ?c6 ?c1 ?c2 ?c3 ?c4 ?_))
  case c5=>exact ((OW.out.alloc _).drew).drew
  case c6=>exact tI (k:=2) a0.out _ 91
  case c1=>intro u hu;simp at hu;rcases hu with rfl|rfl|rfl<;>rfl
  case c2=>unfold maxLen;omega
  case c3=>omega
  case c4=>first|omega|(simp;omega)
  intro v' w1 hown' hgrow _;obtain ⟨a',cap',rfl,_,_⟩:=aE hown'
  have B1:Hid (Below w.heap.size w w1):=by
   exact Q43
  have O1:Hid (aN w.heap.size w1 3 (.slice a' 3 cap') ((jO ⟨5,W,Z,U,J,Y,I,wt⟩ be bg g).map FD.cells)):=aG (e:=91) (n:=3) hown' rfl (CU _);exact Q91
 ·obtain rfl:ok=true:=by rw [E.out];rfl
  clear E;go_wp2;refine LN (v:=.tuple #[.slice (some ⟨w.heap.size+1,0,none⟩) 2 2,.bool true]) ?_ rfl ⟨_,rfl,aG (base:=w.heap.size) (e:=91) (n:=2) (L:=(jO ⟨6,W,Z,U,J,Y,I,wt⟩ be bg g).map FD.cells) (kZ (by omega) (by (try simp only [hp_drewN]);first|exact aB _ rfl|exact aB _ (by simp)|(refine (KQ _ _ _ Zs).trans ?_;first|exact aB _ rfl|exact aB _ (by simp))|(refine (KQ _ _ _ Zs).trans ((KQ _ _ _ Zs).trans ?_);first|exact aB _ rfl|exact aB _ (by simp))) (by decide) rfl) rfl (CU _),Zb⟩;simp [results,results13,go_sem, *]
 ·obtain rfl:ok=true:=by rw [E.out];rfl
  clear E;go_wp2;refine LN (v:=.tuple #[.slice none 0 0,.bool true]) ?_ rfl ⟨_,rfl,bH _ _ _,Zb⟩;simp [results,results13,go_sem, *]
 ·obtain rfl:ok=false:=by rw [E.out];simp;omega
  have HE:Hid (jO ⟨z,W,Z,U,J,Y,I,wt⟩ be bg g=[]):=by
   show _=_
   unfold jO;simp only;rw [if_neg (by omega),if_neg (by omega),if_neg (by omega),if_neg (by omega),if_neg (by omega)]
  have e1:(z == 1)=false:=by simp;omega
  have e2:(z == 2)=false:=by simp;omega
  have e3:(z == 3)=false:=by simp;omega
  have e4:(z == 4)=false:=by simp;omega
  have e5:(z == 5)=false:=by simp;omega
  have e6:(z == 6)=false:=by simp;omega
  have e7:(z == 7)=false:=by simp;omega
  clear E a6;go_wp2;refine LN (v:=.tuple #[.slice none 0 0,.bool false]) ?_ rfl ⟨_,rfl,by rw [HE.out];exact bH _ _ _,Zb⟩;simp [results,results13,go_sem, *]
def Ev.agg (x:Ev):Value:=.agg #[.int .i64 x.kind,.int .i64 x.key,.int .i64 x.slot,.int .i64 x.gen,.bool x.good,.int .i64 x.request,.int .i64 x.backend,.int .i64 x.weight]
def iN (e:Ev):Ev:=
 if e.kind=1 then ⟨0,0,e.slot,e.gen,e.good,e.request,e.backend,e.weight⟩
 else if e.kind=2\/e.kind=3 then ⟨0,e.key,0,0,e.good,e.request,e.backend,e.weight⟩
 else if e.kind=4 then ⟨0,e.key,0,0,false,e.request,e.backend,e.weight⟩
 else if e.kind=5 then ⟨0,e.key,e.slot,e.gen,e.good,0,0,0⟩
 else if e.kind=6 then ⟨0,e.key,e.slot,e.gen,e.good,0,0,e.weight⟩
 else ⟨0,e.key,e.slot,e.gen,e.good,e.request,e.backend,e.weight⟩
def pX (x:Ev):Nat->Array Value
 | 0=>(Ev.cells { x with good:=if x.kind=4 then false else x.good }).toArray
 | k+1=>match (jO x 0 1 0)[k]? with
  | some f=>if f.a.block=0 then (pX x k).setIfInBounds f.a.off (.int .i64 0) else pX x k
  | none=>pX x k
theorem ub (x:Ev):∀ k,(pX x k).size=8
 | 0=>rfl
 | k+1=>by
  have:=ub x k;unfold pX
  split
  ·split
   ·rw [Array.size_setIfInBounds];exact this
   ·exact this
  ·exact this
theorem GP {x:Ev} (z:1<=x.kind/\x.kind<=7):(pX x (jO x 0 1 0).length).setIfInBounds 0 (.int .i64 0)=(Ev.cells (iN x)).toArray:=by
 obtain ⟨h,K,W,J,I,U,E,Y⟩:=x;rcases (show h=1\/h=2\/h=3\/h=4\/h=5\/h=6\/h=7 by simp only at z;omega) with rfl|rfl|rfl|rfl|rfl|rfl|rfl<;>rfl
theorem yB {x:Ev} (be bg:Nat):(jO x be bg 0).length=(jO x 0 1 0).length/\(jO x be bg 0).length<4:=by
 unfold jO;(repeat' split)<;>exact ⟨rfl,by simp⟩
theorem GN {x:Ev} (z:1<=x.kind/\x.kind<=7) {k be bg:Nat} (I:k<(jO x be bg 0).length) {f:FD} (E:f=(jO x be bg 0).getD k ⟨⟨0,0,none⟩,0,0,0⟩):(∃ o,o<8/\f.a=⟨be,o,none⟩/\pX x (k+1)=(pX x k).setIfInBounds o (.int .i64 0))\/(f.a=⟨bg,0,none⟩/\pX x (k+1)=pX x k):=by
 have W:=(yB (x:=x) be bg).2;obtain ⟨h,Y,sl,U,K,Z,J,wt⟩:=x
 rcases (show h=1\/h=2\/h=3\/h=4\/h=5\/h=6\/h=7 by simp only at z;omega) with rfl|rfl|rfl|rfl|rfl|rfl|rfl<;>rcases (show k=0\/k=1\/k=2 by omega) with rfl|rfl|rfl<;>first
  | (simp [jO] at I;done)
  | (subst E;first|exact Or.inl ⟨_,by decide,rfl,rfl⟩|exact Or.inr ⟨rfl,rfl⟩)
def uj (w wr h:World) (c:Array Value):Prop:=Below w.heap.size w wr/\wr.heap[w.heap.size]?=some (.cells c 61 (0,0))/\wr.heap[w.heap.size+1]?=some (.cells #[.int .i64 0,.int .i64 0,.int .i64 0,.int .i64 0,.bool false,.int .i64 0,.int .i64 0,.int .i64 0] 61 (0,0))/\wr.heap[w.heap.size+1+1]?=some (.cells #[.int .i64 0] 3 (0,0))/\(∀ b o,w.heap.size+1+1<b->b<h.heap.size->wr.cell? ⟨b,o,none⟩=h.cell? ⟨b,o,none⟩)/\h.heap.size<=wr.heap.size
theorem lM {w wr E:World} {c:Array Value} {b j:Nat} {v:Value} {c':Array Value} (U:uj w wr E c) (hb:(b=w.heap.size/\c'=c.setIfInBounds j v)\/(b=w.heap.size+1+1/\j=0/\v=.int .i64 0/\c'=c)):uj w (wr.setCell ⟨b,j,none⟩ v) E c':=by
 obtain ⟨W,h,Y,z,Z,h6⟩:=U;refine ⟨W.setCell (by dsimp only;omega) _,?_,aY Y (by omega),?_,fun I o J K=>(aW (by omega)).trans (Z I o J K),by simp;omega⟩
 all_goals rcases hb with ⟨rfl,rfl⟩|⟨rfl,rfl,rfl,rfl⟩<;>first|exact aR h _|exact aY h (by omega)|exact aR z _|exact aY z (by omega)
theorem yS {w wr w1:World} {c:Array Value} (h:uj w wr w1 c) (X:Obj):uj w (wr.alloc X) w1 c:=by
 obtain ⟨h1,h2,h3,h4,h5,h6⟩:=h;have hb:=(KM wr.heap.size wr).alloc (KY _) X;exact ⟨h1.alloc h1.size _,aj hb h2 (lt_of_block h2),aj hb h3 (lt_of_block h3),aj hb h4 (lt_of_block h4),fun g o g1 g2=>(hb.cell (p:=⟨g,o,none⟩) (by dsimp only;omega)).trans (h5 g o g1 g2),by simp;omega⟩
theorem Cs {x:Ev} (h:1<=x.kind/\x.kind<=7) (w:World):Calls prog 27 #[x.agg] w fun e w'=>e=.returned (iN x).agg/\Below w.heap.size w w':=by
 have HEnd:=KL (GP h);have HOne:=KL (fun (k:Nat) (f:FD) hk hf=>GN (x:=x) h (k:=k) (be:=w.heap.size) (bg:=w.heap.size+1+1) hk (f:=f) hf);have HSz:=KL (ub x);have HL:=yB (x:=x) w.heap.size (w.heap.size+1+1);obtain ⟨G,hG⟩:∃ G,G=if x.kind=4 then false else x.good:=⟨_,rfl⟩
 have HC0:Hid (pX x 0=#[.int .i64 x.kind,.int .i64 x.key,.int .i64 x.slot,.int .i64 x.gen,.bool G,.int .i64 x.request,.int .i64 x.backend,.int .i64 x.weight]):=by rw [hG];rfl
 have HPF:=KL (po x w.heap.size (w.heap.size+1+1) 0 true);have HOk:=KL (show true=decide (1<=x.kind/\x.kind<=7) by simp [h]);rw [<- HL.1] at HEnd;obtain ⟨hl1,hl2⟩:=HL;generalize jO x w.heap.size (w.heap.size+1+1) 0=F at HPF HOne HEnd hl1 hl2;clear hl1;obtain ⟨C,hC⟩:∃ C,C=pX x:=⟨_,rfl⟩;obtain ⟨E,hE⟩:∃ E,E=iN x:=⟨_,rfl⟩;rw [<- hC] at HEnd HOne HSz HC0;rw [<- hE] at HEnd;rw [show (iN x).agg=.agg (Ev.cells E).toArray by rw [hE];rfl];obtain ⟨EA,hEA⟩:∃ A,A=(Ev.cells E).toArray:=⟨_,rfl⟩;rw [<- hEA] at HEnd ⊢;have HI:=KL (show (prog.info? 61).map (·.size)=some EA.size by rw [hEA];show _=some 8;kernel_rfl);have HE8:=KL (show EA.size=8 by rw [hEA];rfl);have HO:=KL (show EA.all (·.oneCell')=true by rw [hEA];simp [Ev.cells,Value.oneCell']);clear hC hE hEA;obtain ⟨kd,ky,sl,gn,gd,rq,bk,wt⟩:=x;simp only at HC0 hG HOk;unfold Ev.agg;dsimp only;rcases (show ((kd == 4)=true/\false=G)\/((kd == 4)=false/\gd=G) from by by_cases h4:kd=4;exact Or.inl ⟨by simp [h4],by rw [hG,if_pos h4]⟩;exact Or.inr ⟨by simp [h4],by rw [hG,if_neg h4]⟩) with ⟨e4,hGe⟩|⟨e4,hGe⟩
 all_goals (
  have HGe:=KL hGe
  clear hG h hGe
  go_in
  go_wp2_with fail
  have hk0:(((w.alloc (.cells #[.int .i64 kd,.int .i64 ky,.int .i64 sl,.int .i64 gn,.bool gd,.int .i64 rq,.int .i64 bk,.int .i64 wt] 61)).alloc (.cells #[.int .i64 0,.int .i64 0,.int .i64 0,.int .i64 0,.bool false,.int .i64 0,.int .i64 0,.int .i64 0] 61)).alloc (.cells #[.int .i64 0] 3)).cell? ⟨w.heap.size,0,none⟩=some (.int .i64 kd):=by go_simp
  refine (HPF.out _ hk0 HOk.out).mono ?_
  rintro e w1 ⟨v1,rfl,R1,hb1⟩
  have B1:=KL (((((KM w.heap.size w).alloc (KY _) (.cells #[.int .i64 kd,.int .i64 ky,.int .i64 sl,.int .i64 gn,.bool gd,.int .i64 rq,.int .i64 bk,.int .i64 wt] 61)).alloc (by simp) (.cells #[.int .i64 0,.int .i64 0,.int .i64 0,.int .i64 0,.bool false,.int .i64 0,.int .i64 0,.int .i64 0] 61)).alloc Zs (.cells #[.int .i64 0] 3)).trans (hb1.mono Zs))
  have x0:=aj hb1 ((KQ (w:=World.alloc _ _) _ _ Zs).trans ((KQ (w:=w.alloc (.cells #[.int .i64 kd,.int .i64 ky,.int .i64 sl,.int .i64 gn,.bool gd,.int .i64 rq,.int .i64 bk,.int .i64 wt] 61)) (.cells #[.int .i64 0,.int .i64 0,.int .i64 0,.int .i64 0,.bool false,.int .i64 0,.int .i64 0,.int .i64 0] 61) w.heap.size (by simp)).trans (aB _ rfl))) Zs
  have x1:=aj hb1 ((KQ (w:=World.alloc _ _) (.cells #[.int .i64 0] 3) (w.heap.size+1) (by simp)).trans (aB (w:=World.alloc _ _) (.cells #[.int .i64 0,.int .i64 0,.int .i64 0,.int .i64 0,.bool false,.int .i64 0,.int .i64 0,.int .i64 0] 61) (by simp))) Zs
  have x2:=aj hb1 (aB (w:=World.alloc _ _) (k:=w.heap.size+1+1) (.cells #[.int .i64 0] 3) (by simp)) Zs
  have d0:=ae x0 0
  have d4:=ae x0 4
  have f4:=az x0 4
  simp at d0 d4
  have HX0:=KL x0
  have HX1:=KL x1
  have HX2:=KL x2
  have HR1:=KL R1
  have hs1:=hb1.size
  simp at hs1
  obtain ⟨a,cap,rfl,_,_,_,p⟩:=aO ⟨⟨0,0,none⟩,0,0,0⟩ R1.1
  have HP:=KL p
  clear hb1 x0 x1 x2 R1 p
  have HR0:Hid (uj w w1 w1 #[.int .i64 kd,.int .i64 ky,.int .i64 sl,.int .i64 gn,.bool gd,.int .i64 rq,.int .i64 bk,.int .i64 wt]):=⟨B1.out,HX0.out,HX1.out,HX2.out,fun _ _ _ _=>rfl,KY _⟩
  go_wp2_with fail
  go_loopw [18] (fun i wr=>∃ k:Nat,k<=F.length/\i=.int .i64 k/\uj w wr w1 (C k)) (fun i _=>F.length - (intOf i).toNat)
  case atStart=>first|exact ⟨0,La _,rfl,by rw [HC0.out,<- HGe.out];exact HR0.out⟩|exact ⟨0,La _,rfl,by rw [HC0.out,<- HGe.out];exact lM HR0.out (Or.inl ⟨rfl,rfl⟩)⟩
  case round=>
   clear HR0;obtain ⟨k,hk,rfl,hrel⟩:=hrel;have HR:=KL hrel;obtain ⟨h1,h2,h3,h4,h5,h6⟩:=hrel;have hs2:=h1.size;rcases (show k<F.length\/F.length=k by omega) with hlt|heq
   ·have hlt':(k:Int)<(F.length:Int):=by omega
    obtain ⟨b0,o0,rfl,hb0,q⟩:=HP.out (by intro h;rw [h] at hlt;simp at hlt);have hfar:=HR1.out.2 _ _ _ rfl;simp at hfar;obtain ⟨f,hf⟩:∃ f,f=F.getD k ⟨⟨0,0,none⟩,0,0,0⟩:=⟨_,rfl⟩
    have hold:∀ j,j<3->wr.cell? ⟨b0,o0+k*3+j,none⟩=f.cells[j]?:=fun j hj=>by
     rw [h5 b0 _ (by omega) hb0,hf];exact q k j hlt hj
    have a0:=hold 0 (by omega);have a1:=hold 1 (by omega);have a2:=hold 2 (by omega);have HPt:=HOne.out k f hlt hf;have hcs:=HSz.out k;clear hold q hf;obtain ⟨fa,lo,hi,vl⟩:=f;simp only [FD.cells,Lb,Lc,Nat.add_zero] at a0 a1 a2;simp only at HPt;rcases HPt with ⟨o,ho,rfl,hc⟩|⟨rfl,hc⟩
    ·obtain ⟨u,hu⟩:∃ u,(C k)[o]?=some u:=⟨(C k)[o]'(by omega),Array.getElem?_eq_getElem _⟩;have t0:=(ae h2 o).trans hu;have t1:=az h2 o;have l0:=lt_of_block h2;have HS:=KL (yS (lM HR.out (Or.inl ⟨rfl,hc⟩)) (.cells #[.pointer (some ⟨w.heap.size,o,none⟩),.int .i64 lo,.int .i64 hi] 91));clear h1 h2 h3 h4 h5 hc hu hcs;exact Q130
    ·have t0:=ae h4 0;have t1:=az h4 0;simp at t0;have l0:=lt_of_block h4;have HS:=KL (yS (lM HR.out (Or.inr ⟨rfl,rfl,rfl,hc⟩)) (.cells #[.pointer (some ⟨w.heap.size+1+1,0,none⟩),.int .i64 lo,.int .i64 hi] 91));clear h1 h2 h3 h4 h5 hc hcs;exact Q130
   ·have hge:¬ (k:Int)<(F.length:Int):=by omega
    obtain ⟨u,hu⟩:∃ u,(C k)[0]?=some u:=⟨(C k)[0]'(by rw [HSz.out];decide),Array.getElem?_eq_getElem _⟩;have t0:=(ae h2 0).trans hu;have t1:=az h2 0;have hS:=lM HR.out (Or.inl ⟨rfl,rfl⟩) (j:=0) (v:=.int .i64 0);rw [<- heq,HEnd.out] at hS;have HS:=KL hS;clear h1 h2 h3 h4 h5 hS heq hu;go_wp2_with (first|(refine LO rfl 61 (.tmp 1) rfl w.heap.size rfl 61 EA (0,0) _ HS.out.2.1 underlying61 rfl HI.out ?_)|(refine LP rfl 61 (.tmp 2) (.tmp 27) rfl (w.heap.size+1) EA rfl rfl 61 #[.int .i64 0,.int .i64 0,.int .i64 0,.int .i64 0,.bool false,.int .i64 0,.int .i64 0,.int .i64 0] HS.out.2.2.1 HI.out (by rw [HE8.out];rfl) HO.out ?_));refine LN (results_cell_row rfl _ _ (w.heap.size+1) 61 EA (0,0) _ rfl (bB HS.out.2.2.1) underlying61 rfl HI.out) rfl ?_
    exact ⟨rfl,aV HS.out.1 (Nat.le_succ _)⟩)
theorem Dj:(prog.info? 167).map (fun i=>(i.zero,i.size,i.bytes))=some (some (.agg #[.int .i64 0,.bool false,.int .i64 0,.int .i64 0]),4,32):=by kernel_rfl
def ga (n:Nat):List Sl:=List.replicate n Sl.zero
theorem Cc (n:Nat):∀ c∈(ga n).map Sl.cells,c.length=4:=by
 exact Q28
theorem zN (n:Nat):(madeCells #[.int .i64 0,.bool false,.int .i64 0,.int .i64 0] (n*4)).toList=((ga n).map Sl.cells).flatten:=by
 have h:=fH #[.int .i64 0,.bool false,.int .i64 0,.int .i64 0] n (by decide);refine h.trans ?_;unfold ga;rw [List.map_replicate]
 rfl
end
end Go.Proofs.YtennppmadmgfoaaGreatDoor
