/- Texts of the row's proof. Conditions: none. -/
import Derived.Test.YtennppmadmgfoaaGreatDoorK11
import Derived.Lib.ByteType
namespace Go.Proofs.YtennppmadmgfoaaGreatDoor
open Proofs.Tryz
set_option maxRecDepth 100000
set_option maxHeartbeats 8000000
open Go.RowKit
def encN (n:Nat):List Int:=if n<128 then [(n:Int)] else ((n % 128+128:Nat):Int) :: encN (n / 128)
theorem encN_lo {n:Nat} (h:n<128):encN n=[(n:Int)]:=by rw [encN,if_pos h]
theorem encN_hi {n:Nat} (h:128<=n):encN n=((n % 128+128:Nat):Int) :: encN (n / 128):=by rw [encN,if_neg (by omega)]
theorem encN_len:∀ (k n:Nat),n<128 ^ (k+1)->(encN n).length<=k+1
 | 0,n,h=>by rw [encN_lo (by simpa using h)];simp
 | k+1,n,h=>by
  rcases Nat.lt_or_ge n 128 with z|z
  ·rw [encN_lo z];simp
  ·rw [encN_hi z]
   have:=encN_len k (n / 128) (by rw [Nat.div_lt_iff_lt_mul (by decide)];rwa [Nat.pow_succ] at h)
   simp;omega
theorem encN_in:∀ (n:Nat),∀ x∈encN n,0<=x/\x<=255:=by
 intro n
 induction n using Nat.strongRecOn with
 | _ n ih=>
  intro x h
  rcases Nat.lt_or_ge n 128 with z|z
  ·rw [encN_lo z] at h;simp at h;omega
  ·rw [encN_hi z] at h
   rcases List.mem_cons.1 h with E|E
   ·omega
   ·exact ih _ (by omega) x E
def flatB (L:List Int):List Value:=L.map (Value.int .u8)
def byts (L:List Int):List (List Value):=L.map fun x=>[Value.int .u8 x]
theorem flat_byts:∀ L,(byts L).flatten=flatB L
 | []=>rfl
 | x :: L=>by have:=flat_byts L;simp only [byts,flatB] at this;simp [byts,flatB,this]
theorem flatB_len (L:List Int):(flatB L).length=L.length:=by simp [flatB]
theorem flatB_app (L M:List Int):flatB (L++M)=flatB L++flatB M:=by simp [flatB]
theorem info_u8:(prog.info? 5).map (fun i=>(i.zero,i.size,i.bytes))=some (some (.int .u8 0),1,1):=by kernel_rfl
theorem or_bits (m:Nat):bits BinOp.or IntKind.u8 ((m:Int) % 256) 128=((m % 128+128:Nat):Int):=by
 have z:∀ h:Fin 256,bits BinOp.or IntKind.u8 ((h.1:Nat):Int) 128=((h.1 % 128+128:Nat):Int):=by decide
 have:=z ⟨m % 256,by omega⟩
 simp only at this
 rw [show ((m:Int) % 256)=((m % 256:Nat):Int) by omega,this]
 omega
def BPutPost (B:Nat) (w:World) (L:List Int) (e:Ending) (w':World):Prop:=∃ v,e=.returned v/\w'.ownsRow B 5 1 v L.length (flatB L)/\Below B w w'
theorem prog_bput (B:Nat) (a0:Option Addr) (a2:Nat) (L:List Int) (n:Nat) (w:World) (hB:B<=w.heap.size) (hn:n<34359738368) (hL:L.length<=1000) (U:w.ownsRow B 5 1 (.slice a0 L.length a2) L.length (flatB L)) :
  Calls prog 16 #[.slice a0 L.length a2,.int .i64 n] w (BPutPost B w (L++encN n)):=by
 obtain ⟨i0,ji,a6,a7,a8⟩:=info_parts info_u8
 have a4:=KL U
 have a3:=KL (encN_len 4 n (by simpa using hn))
 clear U
 go_in
 go_wp2_with fail
 go_loopw [0,1] (fun b i wr=>∃ (h:List Int) (z:Nat) (a:Option Addr) (a1:Nat),b=.slice a (L.length+h.length) a1/\i=.int .i64 z/\z<=n/\encN n=h++encN z/\Below B w wr/\wr.ownsRow B 5 1 (.slice a (L.length+h.length) a1) (L.length+h.length) (flatB (L++h))) (fun _ i _=>(intOf i).toNat)
 case atStart=>exact ⟨[],n,a0,a2,by simp,rfl,KY _,rfl,KM _ _,by simpa using a4.out⟩
 case round=>
  obtain ⟨h,z,a,a1,rfl,rfl,hm,hE,hb,U⟩:=hrel
  have ab:h.length<=5:=by have:=a3.out;rw [hE] at this;simp at this;omega
  have ag:=hb.size
  have a5:B<=wr.heap.size:=by omega
  have HB:=KL hb
  have W:=KL U
  have HE:=KL hE
  clear hb U hE a4 a3
  rcases (show 128<=z\/z<128 by omega) with a9|aa
  ·have ad:(128:Int)<=(z:Int):=by omega
   have ac:=or_bits z
   go_wp2_with (at_builtin;go_loud (refine wpList_append_own _ rfl _ _ 65 rfl B 5 i0 (.int .u8 0) 1 1 underlying65 ji a6 a7 a8 rfl (by decide) _ (L.length+h.length) (flatB (L++h)) rfl ?c5 ⟨wr.heap.size,0,none⟩ 1 1 [.int .u8 ((z % 128+128:Nat):Int)] rfl rfl ?c6 ?c1 ?c2 ?c3 ?c4 ?_))
   case c5=>exact W.out.alloc _
   case c6=>exact kJ _ _
   case c1=>intro u hu;simp at hu;subst hu;rfl
   case c2=>unfold maxLen;omega
   case c3=>omega
   case c4=>simp;omega
   intro v' w1 E K _
   have J:=cP ((KM _ _).alloc (KY _) _) a5 W.out K
   obtain ⟨G,I,rfl,_,_⟩:=aE E
   have Y:=KL (HB.out.trans J)
   have Z:Hid (w1.ownsRow B 5 1 (.slice G (L.length+(h++[((z % 128+128:Nat):Int)]).length) I) (L.length+(h++[((z % 128+128:Nat):Int)]).length) (flatB (L++(h++[((z % 128+128:Nat):Int)])))):=by
    have:=E
    show World.ownsRow _ _ _ _ _ _ _
    rw [<- List.append_assoc,flatB_app]
    simpa [flatB,Nat.add_assoc] using this
   clear E K J
   go_wp2
   go_roundw
   case rel=>
    refine ⟨h++[((z % 128+128:Nat):Int)],z / 128,G,I,by simp [Nat.add_assoc],by go_num,by omega,?_,Y.out,Z.out⟩
    rw [HE.out,encN_hi a9];simp
   case measure=>simp [intOf];omega
  ·have af:¬ (128:Int)<=(z:Int):=by omega
   go_wp2_with (at_builtin;go_loud (refine wpList_append_own _ rfl _ _ 65 rfl B 5 i0 (.int .u8 0) 1 1 underlying65 ji a6 a7 a8 rfl (by decide) _ (L.length+h.length) (flatB (L++h)) rfl ?c5 ⟨wr.heap.size,0,none⟩ 1 1 [.int .u8 (z:Int)] rfl rfl ?c6 ?c1 ?c2 ?c3 ?c4 ?_))
   case c5=>exact W.out.alloc _
   case c1=>rfl
   case c2=>unfold maxLen;omega
   case c3=>omega
   case c4=>omega
   intro v' w1 E K _
   have J:=cP ((KM _ _).alloc (KY _) _) a5 W.out K
   obtain ⟨G,I,rfl,_,_⟩:=aE E
   have Y:=KL (HB.out.trans J)
   have Z:Hid (w1.ownsRow B 5 1 (.slice G (L.length+h.length+1) I) (L++encN n).length (flatB (L++encN n))):=by
    have:=E
    show World.ownsRow _ _ _ _ _ _ _
    rw [HE.out,encN_lo aa,<- List.append_assoc,flatB_app (L++h)]
    simpa [flatB,Nat.add_assoc] using this
   clear E K J
   go_wp2
   refine LN (v:=.slice G (L.length+h.length+1) I) ?_ rfl ⟨_,rfl,Z.out,Y.out⟩
   simp [results,results16,go_sem, *]
def encV (V:List Int) (k:Nat):List Int:=(V.take k).flatMap fun v=>encN v.toNat
theorem encV_snoc {F:List FD} {k:Nat} {f:FD} (h:k<F.length) (z:f=F.getD k FD.zero):encV (F.map FD.val) (k+1)=encV (F.map FD.val) k++encN f.val.toNat:=by
 unfold encV
 rw [Li (by simpa using h),List.flatMap_append]
 congr 1
 rw [z]
 simp [List.getD,h]
theorem encV_all (V:List Int) {k:Nat} (h:V.length=k):encV V k=V.flatMap fun v=>encN v.toNat:=by unfold encV;rw [Lo (by omega)]
theorem encV_len (V:List Int) (h:∀ v∈V,v.toNat<34359738368) (k:Nat):(encV V k).length<=5*k:=by
 unfold encV
 induction V generalizing k with
 | nil=>simp
 | cons v V ih=>
  cases k with
  | zero=>simp
  | succ k=>
   have G:=ih (fun E z=>h E (Ly _ z)) k
   have I:=encN_len 4 v.toNat (by simpa using h v Lw)
   simp only [List.take_succ_cons,List.flatMap_cons,Ll]
   omega
def encE (x:Ev):List Int:=x.kind :: ((jO x 0 0 (gdI x.good)).map FD.val).flatMap fun v=>encN v.toNat
theorem evF_val (x:Ev) (be bg:Nat) (g:Int):(jO x be bg g).map FD.val=(jO x 0 0 g).map FD.val:=by
 unfold jO
 repeat' split
 all_goals rfl
theorem evF_bd (x:Ev) (be bg:Nat) (g:Int):∀ f∈jO x be bg g,0<=f.lo/\f.hi<=4294967295:=by
 intro f h
 unfold jO at h
 repeat' split at h
 all_goals simp at h
 ·subst h;simp
 ·rcases h with rfl|rfl<;>simp
 ·rcases h with rfl|rfl|rfl<;>simp
 ·rcases h with rfl|rfl|rfl<;>simp
 ·rcases h with rfl|rfl<;>simp
theorem evF_ing {x:Ev} (h:1<=x.kind/\x.kind<=7) (be bg:Nat) (E:oZ x):∀ f∈jO x be bg (gdI x.good),C7 f:=by
 obtain ⟨J,K,W,I,z,U,G,Y⟩:=x
 revert E
 rcases Kl h with h|h|h|h|h|h|h<;>simp only at h<;>subst h<;>cases z<;>simp [oZ,jO,C7,gdI]
theorem byts_len (L:List Int):∀ c∈byts L,c.length=1:=by
 intro c h;simp only [byts,LH] at h;obtain ⟨z,_,rfl⟩:=h;rfl
theorem own_bytN {B:Nat} {w:World} {v:Value} {L:List Int} {n:Nat} (h:w.ownsRow B 5 1 v n (flatB L)) (z:n=L.length):aN B w 1 v (byts L):=by
 subst z
 exact aG (L:=byts L) (by rw [flat_byts];exact h) (by simp [byts]) (byts_len L)
theorem calls_y {F:Nat} {args:Array Value} {Q:Ending->World->Prop} (w:World) (h:∀ w',w'=w->Calls prog F args w' Q):Calls prog F args w Q:=h w rfl
theorem prog_EncN (kd I K E:Int) (gd:Bool) (J z U:Int) (w:World) (Y:jU ⟨kd,I,K,E,gd,J,z,U⟩ 0) :
  Calls prog 6 #[.agg #[.int .i64 kd,.int .i64 I,.int .i64 K,.int .i64 E,.bool gd,.int .i64 J,.int .i64 z,.int .i64 U]] w fun e w'=>∃ v,e=.returned (.tuple #[v,.int .i64 0])/\aN w.heap.size w' 1 v (byts (encE ⟨kd,I,K,E,gd,J,z,U⟩))/\Below w.heap.size w w':=by
 have HC:=KL Y
 have a8:(1<=kd/\kd<=7)/\oZ ⟨kd,I,K,E,gd,J,z,U⟩:=by
  rcases Y with ⟨_,Y⟩|⟨_,_,Y⟩|⟨_,_,_,Y⟩|⟨Y,h2,_⟩
  ·omega
  ·omega
  ·omega
  ·exact ⟨Y,h2⟩
 obtain ⟨a8,au⟩:=a8
 obtain ⟨i0,ji,bf,bh,bi⟩:=info_parts info_u8
 have aS:Hid (true=decide (1<=kd/\kd<=7)):=by show true=_;simp [a8]
 have HY:=KL a8
 obtain ⟨G,hG⟩:∃ G,G=gd:=⟨_,rfl⟩
 obtain ⟨g,hg⟩:∃ g,g=gdI gd:=⟨_,rfl⟩
 have HI:=KL (show oZ (⟨kd,I,K,E,G,J,z,U⟩:Ev) by rw [hG];exact au)
 have ak:=KL (show g=gdI G by rw [hG];exact hg)
 have ag:=KL hG
 have Hg:=KL hg
 clear Y a8 au hG hg
 go_in
 cases gd
 all_goals (
  go_wp2_with (go_at_call 15;refine (xp kd I K E _ J z U 0 _ HC.out).mono ?_;rintro e wc ⟨rfl,a4⟩;obtain ⟨b1,b3⟩:=aX a4;have bd:=fX a4;have b6:=a4.size;(try simp at b6))
  have xc:=aj a4 (aB (w:=w) _ rfl) Zs
  refine calls_y _ (fun wb a7=>?_)
  have HG:=KL (show wb.heap[wc.heap.size]?=some (.cells #[.int .i64 g] 3 (0,0)) by rw [a7,Hg.out];exact aB _ rfl)
  have hX:wb.heap[w.heap.size]?=wc.heap[w.heap.size]?:=by rw [a7];exact KQ _ _ _ Zs
  rw [<- hX] at xc
  have HX:=KL xc
  have aa:=KL (show Below w.heap.size w wb by rw [a7];exact (((KM w.heap.size w).alloc (KY _) _).trans (a4.mono Zs)).alloc Zs _)
  have HF:=KL (po (⟨kd,I,K,E,G,J,z,U⟩:Ev) w.heap.size wc.heap.size g true wb ((ae HX.out 0).trans rfl) aS.out)
  have ax:wb.heap.size=wc.heap.size+1:=by rw [a7];simp
  clear a4 xc b1 b3 hX a7
  refine HF.out.mono ?_
  rintro e w1 ⟨v1,rfl,R1,a5⟩
  have B1:=KL (aa.out.trans (a5.mono aa.out.size))
  have x0:=KL (aj a5 HX.out (by omega))
  have x1:=KL (aj a5 HG.out (by omega))
  have b5:=a5.size
  rw [ax] at b5
  have m1:w.heap.size<w1.heap.size:=by omega
  have af:=KL (fd_at (x:=(⟨kd,I,K,E,G,J,z,U⟩:Ev)) (g:=g) HY.out (by rw [ag.out];exact x0.out) ((ae x1.out 0).trans rfl))
  have am:=KL (Jo (x:=(⟨kd,I,K,E,G,J,z,U⟩:Ev)) (be:=w.heap.size) (bg:=wc.heap.size) (g:=g))
  have ac:Hid (∀ W∈jO (⟨kd,I,K,E,G,J,z,U⟩:Ev) w.heap.size wc.heap.size g,0<=W.val/\W.val<4294967296):=by
   intro W Z
   have h1:=evF_bd _ _ _ _ W Z
   rw [ak.out] at Z;have h2:=evF_ing (x:=(⟨kd,I,K,E,G,J,z,U⟩:Ev)) HY.out _ _ HI.out W Z
   unfold C7 at h2
   omega
  have HV:Hid ((jO (⟨kd,I,K,E,G,J,z,U⟩:Ev) w.heap.size wc.heap.size g).map FD.val=(jO (⟨kd,I,K,E,G,J,z,U⟩:Ev) 0 0 g).map FD.val):=evF_val _ _ _ _
  have b4:=Jp (⟨kd,I,K,E,G,J,z,U⟩:Ev) w.heap.size wc.heap.size g
  clear a5 HF HG HX aa HC
  generalize jO (⟨kd,I,K,E,G,J,z,U⟩:Ev) w.heap.size wc.heap.size g=F at R1 af am ac b4 HV
  obtain ⟨a,b7,rfl,_,_,_,p⟩:=aO FD.zero R1.1
  have P:=KL p
  have d0:=ae x0.out 0
  simp at d0
  have b9:kd % 256=kd:=by have:=HY.out;omega
  clear R1 p ax
  go_wp2_with fail
  go_loopw [8,28] (fun b i wr=>∃ (h:Nat) (ab:Option Addr) (cb:Nat),h<=F.length/\b=.slice ab ((encV (F.map FD.val) h).length+1) cb/\i=.int .i64 h/\Below w1.heap.size w1 wr/\wr.ownsRow w1.heap.size 5 1 (.slice ab ((encV (F.map FD.val) h).length+1) cb) ((encV (F.map FD.val) h).length+1) (flatB (kd :: encV (F.map FD.val) h))) (fun _ i _=>F.length - (intOf i).toNat)
  case atStart=>exact ⟨0,_,_,La _,rfl,rfl,(KM _ _).alloc (KY _) _,kZ (n:=1) (sz:=1) (cs:=[.int .u8 kd]) (KY _) (aB _ rfl) (by unfold maxLen;omega) rfl⟩
  case round=>
   obtain ⟨h,ab,cb,hk,rfl,rfl,hb,aw⟩:=hrel
   have HB:=KL hb
   have HO:=KL aw
   have hL:(encV (F.map FD.val) h).length<=15:=Lz (encV_len _ (by intro v hv;obtain ⟨W,Z,rfl⟩:=LH.1 hv;have:=ac.out W Z;omega) h) (by omega)
   have bc:=hb.size
   clear aw
   rcases (show h<F.length\/F.length=h by omega) with a6|b2
   ·have ba:(h:Int)<(F.length:Int):=by omega
    obtain ⟨b0,o0,rfl,aT,q⟩:=P.out (by intro Y;rw [Y] at a6;simp at a6)
    obtain ⟨W,Z⟩:∃ W,W=F.getD h FD.zero:=⟨_,rfl⟩
    have a9:W∈F:=by rw [Z];simp only [List.getD,Lj a6,LI];exact Lp _
    have hold:∀ j,j<3->wr.cell? ⟨b0,o0+h*3+j,none⟩=W.cells[j]?:=fun j hj=>by
     rw [hb.cell (p:=⟨b0,o0+h*3+j,none⟩) aT,Z];exact q h j a6 hj
    have a0:=hold 0 (by omega)
    have a1:=hold 1 (by omega)
    have a2:=hold 2 (by omega)
    obtain ⟨l3,v3⟩:=af.out W a9
    obtain ⟨bb,oo,ay⟩:=am.out W a9
    have hr:=ac.out W a9
    have al:=KL (encV_snoc a6 Z)
    clear hold Z q a9
    obtain ⟨fa,lo,hi,vl⟩:=W
    simp only at ay l3 v3 hr
    subst ay
    simp only [FD.cells,Lb,Lc,Nat.add_zero] at a0 a1 a2
    simp only at l3
    obtain ⟨n,rfl⟩:∃ n:Nat,vl=(n:Int):=⟨vl.toNat,by omega⟩
    have a3:wr.cell? ⟨bb,oo,none⟩=some (.int .i64 n):=(hb.cell (p:=⟨bb,oo,none⟩) l3).trans v3
    have lb:b0<wr.heap.size:=bV a0
    have l4:bb<wr.heap.size:=bV a3
    have HN:Hid (n<34359738368):=by show n<_;omega
    clear hb v3 hr
    go_wp2_with (go_at_call 16;refine (prog_bput w1.heap.size ab cb (kd :: encV (F.map FD.val) h) n _ ?c1 HN.out ?c2 ?c3).mono ?_)
    case c1=>first|omega|(simp;omega)
    case c2=>first|omega|(simp;omega)
    case c3=>exact bF HO.out Zb
    rintro e w2 ⟨v2,rfl,ad,ar⟩
    obtain ⟨an,ao,rfl,_,_⟩:=aE ad
    have aA:=KL ((HB.out.alloc HB.out.size _).trans ar)
    have aL:Hid (w2.ownsRow w1.heap.size 5 1 (.slice an ((kd :: encV (F.map FD.val) h)++encN n).length ao) ((encV (F.map FD.val) (h+1)).length+1) (flatB (kd :: encV (F.map FD.val) (h+1)))):=by
     show World.ownsRow _ _ _ _ _ _ _
     have e:=al.out
     simp only [Lm] at e
     have:=ad
     simp only [List.cons_append,<- e,List.length_cons] at this ⊢
     exact this
    have aH:Hid (((kd :: encV (F.map FD.val) h)++encN n).length=(encV (F.map FD.val) (h+1)).length+1):=by
     show _=_
     have e:=al.out
     simp only [Lm] at e
     rw [List.cons_append,<- e]
     rfl
    clear ad ar
    go_wp2
    go_roundw
    case rel=>
     have av:=aH.out
     have ho:=aL.out
     rw [av] at ho
     refine ⟨h+1,an,ao,by omega,?_,by go_num,aA.out,ho⟩
     simpa using av
    case measure=>simp [intOf];omega
   ·have b8:¬ (h:Int)<(F.length:Int):=by omega
    have aF:=KL (B1.out.trans (hb.mono (by omega)))
    have HR:Hid (aN w1.heap.size wr 1 (.slice ab ((encV (F.map FD.val) h).length+1) cb) (byts (encE (⟨kd,I,K,E,G,J,z,U⟩:Ev)))):=by
     have:=HO.out
     have e:kd :: encV (F.map FD.val) h=encE (⟨kd,I,K,E,G,J,z,U⟩:Ev):=by
      unfold encE
      rw [encV_all _ (by simpa using b2),HV.out,ak.out]
     rw [e] at this
     exact own_bytN this (by rw [<- e];rfl)
    clear hb
    go_wp2
    refine LN (v:=.tuple #[.slice ab ((encV (F.map FD.val) h).length+1) cb,.int .i64 0]) ?_ rfl ⟨_,rfl,by rw [<- ag.out];exact ⟨HR.out.1,fun a n c e=>Lz (Nat.le_of_lt m1) (HR.out.2 a n c e)⟩,aF.out⟩
    simp [results,results6,go_sem, *])
def numV:List Int->Int
 | []=>0
 | c :: cs=>c % 128+128*numV cs
def IsB (L:List Int):Prop:=∀ x∈L,0<=x/\x<=255
theorem numV_bd:∀ (L:List Int),0<=numV L/\numV L<128 ^ L.length
 | []=>by simp [numV]
 | c :: cs=>by
  have z:=numV_bd cs
  simp only [numV,List.length_cons]
  have h:(128:Int) ^ (cs.length+1)=128*128 ^ cs.length:=by rw [Int.pow_succ,Int.mul_comm]
  rw [h]
  have E:0<=c % 128/\c % 128<128:=by omega
  generalize (128:Int) ^ cs.length=G at z ⊢
  omega
theorem numV_snoc:∀ (L:List Int) (c:Int),numV (L++[c])=numV L+128 ^ L.length*(c % 128)
 | [],c=>by simp [numV]
 | d :: L,c=>by
  simp only [List.cons_append,numV,numV_snoc L c,List.length_cons]
  rw [Int.pow_succ,Int.mul_add,Int.mul_comm (128 ^ L.length) 128,Int.mul_assoc,Int.add_assoc]
def endF:Nat->List Int->Nat
 | 0,_=>0
 | _+1,[]=>0
 | f+1,c :: cs=>if 128<=c then endF f cs+1 else 0
theorem endF_at:∀ (f:Nat) (R:List Int),endF f R<=f/\endF f R<=R.length/\(∀ j,j<endF f R->128<=R.getD j 0)/\(endF f R<f->endF f R<R.length->R.getD (endF f R) 0<128)
 | 0,R=>by simp [endF]
 | f+1,[]=>by simp [endF]
 | f+1,h :: cs=>by
  obtain ⟨U,E,G,I⟩:=endF_at f cs
  by_cases hc:128<=h
  ·have z:endF (f+1) (h :: cs)=endF f cs+1:=by simp only [endF];rw [if_pos hc]
   rw [z]
   refine ⟨by omega,by simpa using E,fun j K=>?_,fun W J=>?_⟩
   ·cases j with
    | zero=>simpa using hc
    | succ j=>simpa using G j (by omega)
   ·simpa using I (by omega) (by simpa using J)
  ·have z:endF (f+1) (h :: cs)=0:=by simp only [endF];rw [if_neg hc]
   rw [z]
   refine ⟨by omega,by simp,fun j K=>by omega,fun _ _=>?_⟩
   simpa using hc
def endOf (R:List Int):Nat:=endF 6 R
def gtC (R:List Int):Int:=if endOf R=6/\6<R.length then 2 else if endOf R=R.length then 4 else if R.getD (endOf R) 0=0/\0<endOf R then 3 else 0
def getV (R:List Int):Int:=numV (R.take (endOf R+1))
theorem take_snocI {R:List Int} {i:Nat} (h:i<R.length):R.take (i+1)=R.take i++[R.getD i 0]:=by
 rw [Li h];simp [List.getD,h]
theorem or_add (V x:Int) (i:Nat) (hi:i<=5) (J:0<=V) (K:V<128 ^ i) (U:0<=x) (W:x<128):bits BinOp.or IntKind.i64 V (128 ^ i*x)=V+128 ^ i*x:=by
 obtain ⟨a,rfl⟩:=Lr J
 obtain ⟨h,rfl⟩:=Lr U
 have z:(128:Nat) ^ i=2 ^ (7*i):=by rw [Nat.pow_mul]
 have E:a<2 ^ (7*i):=by rw [<- z];exact_mod_cast K
 have Z:h<2 ^ 7:=by have:(h:Int)<128:=W;omega
 have hm:2 ^ (7*i)*h<2 ^ 62:=by
  have:2 ^ (7*i)*h<2 ^ (7*i)*2 ^ 7:=Nat.mul_lt_mul_of_pos_left Z (Nat.two_pow_pos _)
  have h4:2 ^ (7*i)*2 ^ 7<=2 ^ 62:=by rw [<- Nat.pow_add];exact Nat.pow_le_pow_right (by decide) (by omega)
  omega
 have Y:a<2 ^ 62:=Nat.lt_of_lt_of_le E (Nat.pow_le_pow_right (by decide) (by omega))
 have hw:∀ n:Int,0<=n->n<2 ^ 62->IntKind.i64.wrap n=n:=by intro n h5 h6;rw [IntKind.wrap_i64];omega
 have a0:=(bits_nat .i64 62 (by decide) hw a (2 ^ (7*i)*h) Y hm).2
 have G:((128:Int) ^ i*(h:Int))=((2 ^ (7*i)*h:Nat):Int):=by rw [<- z];push_cast;rfl
 rw [G,a0]
 have I:2 ^ (7*i)*h+a=2 ^ (7*i)*h ||| a:=by
  have:=Nat.shiftLeft_add_eq_or_of_lt E h
  rwa [Nat.shiftLeft_eq,Nat.mul_comm] at this
 rw [Nat.or_comm,<- I]
 push_cast
 omega
theorem and_bits (c:Int) (E:0<=c) (G:c<=255):bits BinOp.and IntKind.u8 c 127=c % 128:=by
 have z:∀ h:Fin 256,bits BinOp.and IntKind.u8 ((h.1:Nat):Int) 127=(((h.1 % 128:Nat)):Int):=by decide
 have:=z ⟨c.toNat,by omega⟩
 simp only at this
 rw [show ((c.toNat:Nat):Int)=c by omega] at this
 rw [this];omega
theorem end_ge {R:List Int} {k:Nat} (Y:k<=endOf R) (G:k<6) (I:k<R.length) (W:128<=R.getD k 0):k+1<=endOf R:=by
 obtain ⟨J,K,U,E⟩:=endF_at 6 R
 rcases Nat.lt_or_ge k (endOf R) with z|z
 ·exact z
 ·have h:endOf R=k:=by omega
  unfold endOf at h
  rw [h] at E
  have:=E G I
  omega
theorem end_eq {R:List Int} {k:Nat} (K:k<=endOf R) (E:¬ 128<=R.getD k 0):endOf R=k:=by
 obtain ⟨G,I,z,J⟩:=endF_at 6 R
 rcases Nat.lt_or_ge k (endOf R) with h|h
 ·exact absurd (z k h) E
 ·omega
theorem end_le (R:List Int):endOf R<=6/\endOf R<=R.length:=⟨(endF_at 6 R).1,(endF_at 6 R).2.1⟩
theorem byte_at {w:World} {v:Value} {R:List Int} (E:aK w 1 v (byts R)):∃ (a:Option Addr) (h:Nat),v=.slice a R.length h/\R.length<=h/\h<=maxLen/\(R≠[]->∃ b z,a=some ⟨b,z,none⟩/\b<w.heap.size/\∀ i,i<R.length->w.cell? ⟨b,z+i,none⟩=some (.int .u8 (R.getD i 0))):=by
 obtain ⟨a,h,rfl,G,I,_,J⟩:=aO (f:=fun Z:Int=>[Value.int .u8 Z]) 0 E
 refine ⟨a,h,rfl,by simpa [byts] using G,I,fun Y=>?_⟩
 obtain ⟨b,z,rfl,K,U⟩:=J Y
 exact ⟨b,z,rfl,K,fun i W=>by have:=U i 0 W (by omega);simpa using this⟩
theorem wrap_sh (c:Int) (k:Nat) (z:k<=5):wrap64 (c % 128*2 ^ (7*k))=128 ^ k*(c % 128):=by
 have h:0<=c % 128/\c % 128<128:=by omega
 generalize c % 128=E at h ⊢
 rcases (show k=0\/k=1\/k=2\/k=3\/k=4\/k=5 by omega) with rfl|rfl|rfl|rfl|rfl|rfl<;>simp [wrap64]<;>omega
theorem prog_get (v:Value) (R:List Int) (w:World) (hB:IsB R) (r:aK w 1 v (byts R)) :
  Calls prog 14 #[v] w fun e w'=>e=.returned (.tuple #[.int .i64 (if gtC R=0 then getV R else 0),.int .i64 (if gtC R=0 then ((endOf R+1:Nat):Int) else 0),.int .i64 (gtC R)])/\Below w.heap.size w w':=by
 obtain ⟨n0,hn0⟩:∃ n0,n0=(if gtC R=0 then getV R else 0):=⟨_,rfl⟩
 obtain ⟨u0,hu0⟩:∃ u0,u0=(if gtC R=0 then ((endOf R+1:Nat):Int) else 0):=⟨_,rfl⟩
 obtain ⟨c0,hc0⟩:∃ c0,c0=gtC R:=⟨_,rfl⟩
 rw [<- hn0,<- hu0,<- hc0]
 have HN0:=KL hn0
 have HU0:=KL hu0
 have HC0:=KL hc0
 obtain ⟨a,cap,rfl,hlc,hcm,p⟩:=byte_at r
 have P:=KL p
 have HIB:=KL hB
 have hlm:(R.length:Int)<=9223372036854775807:=by have:=hcm;unfold maxLen at this;omega
 clear hn0 hu0 hc0 r p hB
 go_in
 go_wp2_with fail
 go_loopw [2,9] (fun n i wr=>∃ k:Nat,k<=endOf R/\i=.int .i64 k/\n=.int .i64 (numV (R.take k))/\Below w.heap.size w wr) (fun _ i _=>R.length - (intOf i).toNat)
 case atStart=>exact ⟨0,La _,rfl,rfl,KM _ _⟩
 case round=>
  obtain ⟨k,hk,rfl,rfl,hb⟩:=hrel
  have HK:=KL hk
  obtain ⟨e6,el⟩:=end_le R
  rcases (show k=R.length\/(k<R.length/\k=6)\/(k<R.length/\k<6) by omega) with hx|⟨hlt,h6⟩|⟨hlt,h6⟩
  ·have hge:¬ (k:Int)<(R.length:Int):=by omega
   have hc:c0=4:=by rw [HC0.out];unfold gtC;rw [if_neg (by omega),if_pos (by omega)]
   have hn:n0=0:=by rw [HN0.out,<- HC0.out,hc];rfl
   have hu:u0=0:=by rw [HU0.out,<- HC0.out,hc];rfl
   subst hc hn hu
   clear hk hx e6 el
   go_wp2
   (refine LN (v:=.tuple #[.int .i64 0,.int .i64 0,.int .i64 4]) ?_ rfl ?_;(focus (first|(simp [results,results14,go_sem];done)|(simp [results,results14,go_sem, *];done)));exact ⟨rfl,Zb⟩)
  ·subst h6
   have hlt':(6:Int)<(R.length:Int):=by omega
   have hc:c0=2:=by rw [HC0.out];unfold gtC;rw [if_pos (by omega)]
   have hn:n0=0:=by rw [HN0.out,<- HC0.out,hc];rfl
   have hu:u0=0:=by rw [HU0.out,<- HC0.out,hc];rfl
   obtain ⟨b,o,rfl,hb0,q⟩:=P.out (by intro h;rw [h] at hlt;simp at hlt)
   have a0:=(hb.cell (p:=⟨b,o+6,none⟩) hb0).trans (q 6 hlt)
   subst hc hn hu
   clear hk e6 el q
   go_wp2
   (refine LN (v:=.tuple #[.int .i64 0,.int .i64 0,.int .i64 2]) ?_ rfl ?_;(focus (first|(simp [results,results14,go_sem];done)|(simp [results,results14,go_sem, *];done)));exact ⟨rfl,Zb⟩)
  ·have hlt':(k:Int)<(R.length:Int):=by omega
   have h6':(k == 6)=false:=by simp;omega
   have h6i:((k:Int) == 6)=false:=by simp;omega
   obtain ⟨b,o,rfl,hb0,q⟩:=P.out (by intro h;rw [h] at hlt;simp at hlt)
   have a0:=(hb.cell (p:=⟨b,o+k,none⟩) hb0).trans (q k hlt)
   obtain ⟨c,hcR⟩:∃ c,c=R.getD k 0:=⟨_,rfl⟩
   have hcb:0<=c/\c<=255:=by rw [hcR];exact HIB.out _ (by simp only [List.getD,Lj hlt,LI];exact Lp _)
   rw [<- hcR] at a0
   have HCR:=KL hcR
   obtain ⟨V,hV⟩:∃ V,V=numV (R.take k):=⟨_,rfl⟩
   have hVb:=numV_bd (R.take k)
   rw [<- hV,Ls,Nat.min_eq_left (by omega)] at hVb
   have HV:Hid (numV (R.take (k+1))=V+128 ^ k*(c % 128)):=by
    show _=_
    rw [take_snocI hlt,numV_snoc,<- hV,Ls,Nat.min_eq_left (by omega),<- hcR]
   have HVV:=KL hV
   rw [<- hV]
   have hand:=and_bits c hcb.1 hcb.2
   obtain ⟨V1,hV1⟩:∃ V1,V1=V+128 ^ k*(c % 128):=⟨_,rfl⟩
   have hsh:bits BinOp.or IntKind.i64 V (wrap64 (c % 128*2 ^ (7*k)))=V1:=by
    rw [hV1,<- or_add V (c % 128) k (by omega) hVb.1 hVb.2 (by omega) (by omega)]
    congr 1
    exact wrap_sh c k (by omega)
   have HV1:Hid (numV (R.take (k+1))=V1):=by show _=_;rw [HV.out,hV1]
   clear hcR q hV hk e6 el HV hV1 hVb
   rcases (show 128<=c\/(c=0/\0<k)\/(c=0/\k=0)\/(0<c/\c<128) by omega) with hc|⟨hc,h0⟩|⟨hc,h0⟩|⟨hc,h0⟩
   ·have hdl:decide (c<128)=false:=by simpa using hc
    have hdl2:¬ c<128:=by omega
    have HN:Hid (k+1<=endOf R):=end_ge HK.out h6 hlt (by rw [<- HCR.out];exact hc)
    go_wp2
    go_roundw
    case rel=>exact ⟨k+1,HN.out,by go_num,by rw [HV1.out],hb⟩
    case measure=>simp [intOf];omega
   ·subst hc
    have hk0:(0:Int)<(k:Int):=by omega
    have he:endOf R=k:=end_eq HK.out (by rw [<- HCR.out];omega)
    have hc:c0=3:=by rw [HC0.out];unfold gtC;rw [if_neg (by omega),if_neg (by omega),he,<- HCR.out,if_pos ⟨rfl,h0⟩]
    have hn:n0=0:=by rw [HN0.out,<- HC0.out,hc];rfl
    have hu:u0=0:=by rw [HU0.out,<- HC0.out,hc];rfl
    subst hc hn hu
    clear he
    go_wp2
    (refine LN (v:=.tuple #[.int .i64 0,.int .i64 0,.int .i64 3]) ?_ rfl ?_;(focus (first|(simp [results,results14,go_sem];done)|(simp [results,results14,go_sem, *];done)));exact ⟨rfl,Zb⟩)
   ·subst hc
    have hk0:¬ 0<k:=by omega
    have hki:¬ (0:Int)<(k:Int):=by omega
    have he:endOf R=k:=end_eq HK.out (by rw [<- HCR.out];omega)
    have hc:c0=0:=by rw [HC0.out];unfold gtC;rw [if_neg (by omega),if_neg (by omega),if_neg (by omega)]
    have hn:n0=V1:=by rw [HN0.out,<- HC0.out,hc,if_pos rfl];unfold getV;rw [he];exact HV1.out
    have hu:u0=(k:Int)+1:=by rw [HU0.out,<- HC0.out,hc,if_pos rfl,he];rfl
    have hsh':bits BinOp.or IntKind.i64 V (wrap64 0)=V1:=by simpa using hsh
    have hsh2:bits BinOp.or IntKind.i64 V 0=V1:=by simpa [wrap64] using hsh'
    subst hc hn hu
    clear he h0
    go_wp2
    (refine LN (v:=.tuple #[.int .i64 n0,.int .i64 ((k:Int)+1),.int .i64 0]) ?_ rfl ?_;(focus (first|(simp [results,results14,go_sem];done)|(simp [results,results14,go_sem, *];done)));exact ⟨rfl,Zb⟩)
   ·have hdl:decide (c<128)=true:=by simpa using h0
    have hz:(c == 0)=false:=by simp;omega
    have he:endOf R=k:=end_eq HK.out (by rw [<- HCR.out];omega)
    have hc:c0=0:=by rw [HC0.out];unfold gtC;rw [if_neg (by omega),if_neg (by omega),he,<- HCR.out,if_neg (by omega)]
    have hn:n0=V1:=by rw [HN0.out,<- HC0.out,hc,if_pos rfl];unfold getV;rw [he];exact HV1.out
    have hu:u0=(k:Int)+1:=by rw [HU0.out,<- HC0.out,hc,if_pos rfl,he];rfl
    subst hc hn hu
    clear he
    go_wp2
    (refine LN (v:=.tuple #[.int .i64 n0,.int .i64 ((k:Int)+1),.int .i64 0]) ?_ rfl ?_;(focus (first|(simp [results,results14,go_sem];done)|(simp [results,results14,go_sem, *];done)));exact ⟨rfl,Zb⟩)
def FD.lh (f:FD):Int×Int:=(f.lo,f.hi)
def evZ (kd:Int):Ev:=⟨kd,0,0,0,false,0,0,0⟩
def rd:List (Int×Int)->List Int->List Int->Int×List Int
 | [],R,oR=>if R.length=0 then (0,oR) else (3,oR)
 | (lo,hi) :: F,R,oR=>if gtC R≠0 then (gtC R,oR) else if getV R<lo\/hi<getV R then (2,oR) else rd F (R.drop (endOf R+1)) (oR++[getV R])
def evD (kd:Int) (oR:List Int):Ev:=
 if kd=1 then ⟨kd,oR.getD 0 0,0,0,false,0,0,0⟩
 else if kd=2\/kd=3\/kd=4 then ⟨kd,0,oR.getD 0 0,oR.getD 1 0,false,0,0,0⟩
 else if kd=5\/kd=6 then ⟨kd,0,0,0,false,oR.getD 0 0,oR.getD 1 0,oR.getD 2 0⟩
 else ⟨kd,0,0,0,false,0,0,0⟩
def goodD (kd:Int) (oR:List Int):Int:=if kd=4 then oR.getD 2 0 else 0
def decX (kd:Int) (oR:List Int):Ev:={ evD kd oR with good:=decide (goodD kd oR=1) }
def bnds (kd:Int):List (Int×Int):=(jO (evZ kd) 0 0 0).map FD.lh
theorem bnds_any (kd:Int) (be bg:Nat):(jO (evZ kd) be bg 0).map FD.lh=bnds kd:=by
 unfold bnds jO
 repeat' split
 all_goals rfl
def DecAns (L:List Int) (x:Ev) (c:Int):Prop:=
 (64<L.length/\x=Ev.zero/\c=1)\/(L.length=0/\x=Ev.zero/\c=4)\/(0<L.length/\L.length<=64/\¬ (1<=L.getD 0 0/\L.getD 0 0<=7)/\x=Ev.zero/\c=5)\/
 (0<L.length/\L.length<=64/\(1<=L.getD 0 0/\L.getD 0 0<=7)/\c=(rd (bnds (L.getD 0 0)) (L.drop 1) []).1/\x=(if c=0 then decX (L.getD 0 0) (rd (bnds (L.getD 0 0)) (L.drop 1) []).2 else Ev.zero))
theorem DecAns_total (L:List Int):∃ x c,DecAns L x c:=by
 by_cases h1:64<L.length
 ·exact ⟨_,_,Or.inl ⟨h1,rfl,rfl⟩⟩
 ·by_cases h2:L.length=0
  ·exact ⟨_,_,Or.inr (Or.inl ⟨h2,rfl,rfl⟩)⟩
  ·by_cases h3:1<=L.getD 0 0/\L.getD 0 0<=7
   ·exact ⟨_,_,Or.inr (Or.inr (Or.inr ⟨by omega,by omega,h3,rfl,rfl⟩))⟩
   ·exact ⟨_,_,Or.inr (Or.inr (Or.inl ⟨by omega,by omega,h3,rfl,rfl⟩))⟩
theorem acc_0 {oR:List Int} (h:oR.length=0):oR=[]:=List.length_eq_zero_iff.1 h
theorem acc_1 {oR:List Int} (h:oR.length=1):∃ a,oR=[a]:=List.length_eq_one_iff.1 h
theorem acc_2 {oR:List Int} (h:oR.length=2):∃ a b,oR=[a,b]:=by
 match oR,h with
 | [a,b],_=>exact ⟨a,b,rfl⟩
theorem evD_put {kd:Int} (U:1<=kd/\kd<=7) {oR:List Int} {k be bg:Nat} {f:FD} (G:k<(jO (evZ kd) be bg 0).length) (h:f=(jO (evZ kd) be bg 0).getD k FD.zero) (z:oR.length=k) (n:Int) :
  (∃ o,f.a=⟨be,o,none⟩/\o<8/\(evD kd oR).cells.toArray.setIfInBounds o (.int .i64 n)=(evD kd (oR++[n])).cells.toArray/\goodD kd (oR++[n])=goodD kd oR)\/(f.a=⟨bg,0,none⟩/\evD kd (oR++[n])=evD kd oR/\goodD kd (oR++[n])=n):=by
 have E:kd=1\/kd=2\/kd=3\/kd=4\/kd=5\/kd=6\/kd=7:=by omega
 have J:k=0\/k=1\/k=2:=by have:=Jp (evZ kd) be bg 0;omega
 rcases J with rfl|rfl|rfl
 ·obtain rfl:=acc_0 z
  rcases E with rfl|rfl|rfl|rfl|rfl|rfl|rfl<;>simp [jO,evZ] at G h
  all_goals (subst h;left;exact ⟨_,rfl,by decide,rfl,rfl⟩)
 ·obtain ⟨I,rfl⟩:=acc_1 z
  rcases E with rfl|rfl|rfl|rfl|rfl|rfl|rfl<;>simp [jO,evZ] at G h
  all_goals (subst h;left;exact ⟨_,rfl,by decide,rfl,rfl⟩)
 ·obtain ⟨I,K,rfl⟩:=acc_2 z
  rcases E with rfl|rfl|rfl|rfl|rfl|rfl|rfl<;>simp [jO,evZ] at G h
  ·subst h;right;exact ⟨rfl,rfl,rfl⟩
  ·subst h;left;exact ⟨_,rfl,by decide,rfl,rfl⟩
theorem bnds_at {kd:Int} {be bg k:Nat} {f:FD} (h:k<(jO (evZ kd) be bg 0).length) (z:f=(jO (evZ kd) be bg 0).getD k FD.zero):(bnds kd).drop k=(f.lo,f.hi) :: (bnds kd).drop (k+1):=by
 rw [<- bnds_any kd be bg,List.drop_eq_getElem_cons (by simpa using h),z]
 simp [List.getD,h,FD.lh]
theorem rd_err {E z:Int} {F:List (Int×Int)} {R oR:List Int} (h:gtC R≠0):rd ((E,z) :: F) R oR=(gtC R,oR):=by simp only [rd];rw [if_pos h]
theorem rd_out {z h:Int} {F:List (Int×Int)} {R oR:List Int} (E:gtC R=0) (G:getV R<z\/h<getV R):rd ((z,h) :: F) R oR=(2,oR):=by simp only [rd];rw [if_neg (by simpa using E),if_pos G]
theorem rd_in {z h:Int} {F:List (Int×Int)} {R oR:List Int} (E:gtC R=0) (G:z<=getV R) (I:getV R<=h):rd ((z,h) :: F) R oR=rd F (R.drop (endOf R+1)) (oR++[getV R]):=by simp only [rd];rw [if_neg (by simpa using E),if_neg (by omega)]
theorem rd_end0 {R oR:List Int} (h:R.length=0):rd [] R oR=(0,oR):=by simp only [rd];rw [if_pos h]
theorem rd_end3 {R oR:List Int} (h:R.length≠0):rd [] R oR=(3,oR):=by simp only [rd];rw [if_neg h]
theorem gtC_lt {R:List Int} (h:gtC R=0):endOf R+1<=R.length:=by
 unfold gtC at h
 obtain ⟨z,E⟩:=end_le R
 split at h
 ·omega
 ·split at h
  ·omega
  ·omega
theorem IsB_drop {R:List Int} (h:IsB R) (n:Nat):IsB (R.drop n):=fun E z=>h E (List.mem_of_mem_drop z)
theorem byts_drop {w:World} {b z E n:Nat} {R:List Int} (h:aK w 1 (.slice (some ⟨b,z,none⟩) R.length E) (byts R)) (hn:n<R.length):aK w 1 (.slice (some ⟨b,z+n,none⟩) (R.length - n) (E - n)) (byts (R.drop n)):=by
 obtain ⟨a,c,Z,h1,h2,h3,K⟩:=h
 injection Z with e1 e2 e3
 subst e3
 subst e1
 have G:(byts R).length=R.length:=by simp [byts]
 obtain ⟨b',a1,J,U,W⟩:=K (by intro h;rw [h] at G;simp at G;omega)
 cases J
 refine ⟨some ⟨b,z+n,none⟩,E - n,by simp [byts],by simp [byts];omega,by omega,(fun h=>by cases h),fun _=>⟨b,z+n,rfl,U,fun I j Y hj=>?_⟩⟩
 obtain rfl:j=0:=by omega
 have a0:I<R.length - n:=by simpa [byts] using Y
 have:=W (n+I) 0 (by rw [G];omega) (by omega)
 simp only [Nat.mul_one,Nat.add_zero] at this ⊢
 rw [Nat.add_assoc,this]
 simp [byts,List.getD,List.getElem?_map,List.getElem?_drop]
theorem RowAt_noneD {w:World} {a:Option Addr} {h:Nat} (E:h<=maxLen) (G:a=none->h=0):aK w 1 (.slice a 0 h) (byts []):=⟨a,h,rfl,La _,E,G,fun z=>absurd rfl z⟩
theorem slice_rest {w:World} {a:Option Addr} {h k:Nat} {R:List Int} (r:aK w 1 (.slice a R.length h) (byts R)) (hk:k<=R.length):∃ G,(∀ W,(Instr.slice 65 (.slice a R.length h) (some (.int .i64 (k:Int))) none none).run prog W=.ok (.slice G (R.length - k) (h - k)) W)/\aK w 1 (.slice G (R.length - k) (h - k)) (byts (R.drop k)):=by
 obtain ⟨i0,ji,a5,a6,a7⟩:=info_parts info_u8
 have hz:∀ W,(sizeOf 5).run prog W=.ok 1 W:=Lib.byte_size info_u8
 have ht:prog.underlying 65=some (.slice (prog.elem 65)):=by kernel_rfl
 have he:prog.elem 65=5:=by kernel_rfl
 obtain ⟨a0,c0,K,Y,Z,h3,h4⟩:=id r
 have J:R.length<=h/\h<=maxLen/\(a=none->h=0):=by
  injection K with e1 e2 e3
  subst e3 e1
  refine ⟨by simpa [byts] using Y,Z,h3⟩
 have a3:∀ W,(Instr.slice 65 (.slice a R.length h) (some (.int .i64 (k:Int))) none none).run prog W=.ok (.slice (if h=k then a else a.map (·.add k)) (R.length - k) (h - k)) W:=by
  intro W
  rw [run_slice_l W 65 a R.length h ht .i64 (k:Int) (by omega) (by omega),he,hz]
  simp [Result.andThen,sliced]
 refine ⟨_,a3,?_⟩
 rcases Nat.lt_or_ge k R.length with E|a4
 ·have a2:¬ h=k:=by omega
  rw [if_neg a2]
  obtain ⟨I,U,ha,_⟩:=h4 (fun z=>by rw [byts,List.map_eq_nil_iff] at z;rw [z] at E;simp at E)
  injection K with e1 e2 e3
  subst e1
  cases ha
  rw [show (some (⟨I,U,none⟩:Addr)).map (·.add k)=some ⟨I,U+k,none⟩ from congrArg some (by unfold Addr.add;split<;>simp_all)]
  exact byts_drop r E
 ·have a1:k=R.length:=by omega
  subst a1
  rw [List.drop_of_length_le (KY _),Nat.sub_self]
  refine RowAt_noneD (by omega) (fun z=>?_)
  split at z
  ·have:=J.2.2 z;omega
  ·cases a with
   | none=>have:=J.2.2 rfl;omega
   | some a=>simp at z
theorem evD_nil (kd:Int):evD kd []=evZ kd:=by
 unfold evD
 repeat' split
 all_goals rfl
theorem goodD_nil (kd:Int):goodD kd []=0:=by
 unfold goodD
 split<;>rfl
def DcRel (w wr z:World) (kd:Int) (oR:List Int):Prop:=Below w.heap.size w wr/\wr.heap[w.heap.size]?=some (.cells #[.int .i64 0,.int .i64 0,.int .i64 0,.int .i64 0,.bool false,.int .i64 0,.int .i64 0,.int .i64 0] 61 (0,0))/\wr.heap[w.heap.size+1]?=some (.cells (evD kd oR).cells.toArray 61 (0,0))/\wr.heap[w.heap.size+1+1]?=some (.cells #[.int .i64 (goodD kd oR)] 3 (0,0))/\
 (∀ h o,w.heap.size+3<=h->h<z.heap.size->wr.cell? ⟨h,o,none⟩=z.cell? ⟨h,o,none⟩)/\z.heap.size<=wr.heap.size
theorem DcRel_keep {w wr W U:World} {kd:Int} {oR:List Int} (Y:DcRel w wr U kd oR) (h:Below wr.heap.size wr W):DcRel w W U kd oR:=by
 obtain ⟨E,G,I,J,Z,h6⟩:=Y
 refine ⟨E.trans (h.mono E.size),aj h G (lt_of_block G),aj h I (lt_of_block I),aj h J (lt_of_block J),fun z K h7 h8=>?_,Lz h6 h.size⟩
 rw [h.cell (p:=⟨z,K,none⟩) (by show z<_;omega)]
 exact Z z K h7 h8
theorem DcRel_set {w wr h:World} {kd n:Int} {oR:List Int} {o:Nat} (I:DcRel w wr h kd oR) (E:(evD kd oR).cells.toArray.setIfInBounds o (.int .i64 n)=(evD kd (oR++[n])).cells.toArray) (G:goodD kd (oR++[n])=goodD kd oR):DcRel w (wr.setCell ⟨w.heap.size+1,o,none⟩ (.int .i64 n)) h kd (oR++[n]):=by
 obtain ⟨J,K,U,W,Y,Z⟩:=I
 refine ⟨J.setCell (by simp) _,aY K (by omega),?_,?_,fun z o h7 h8=>?_,by simpa using Z⟩
 ·rw [<- E];exact aR U _
 ·rw [G];exact aY W (by omega)
 ·rw [aW (by omega)];exact Y z o h7 h8
theorem DcRel_good {w wr h:World} {kd n:Int} {oR:List Int} (I:DcRel w wr h kd oR) (E:evD kd (oR++[n])=evD kd oR) (G:goodD kd (oR++[n])=n):DcRel w (wr.setCell ⟨w.heap.size+1+1,0,none⟩ (.int .i64 n)) h kd (oR++[n]):=by
 obtain ⟨J,K,U,W,Y,Z⟩:=I
 refine ⟨J.setCell (by simp;omega) _,aY K (by omega),?_,?_,fun z o h7 h8=>?_,by simpa using Z⟩
 ·rw [E];exact aY U (by omega)
 ·rw [G];exact aR W _
 ·rw [aW (by omega)];exact Y z o h7 h8
def DecPost (w:World) (x:Ev) (c:Int) (e:Ending) (w':World):Prop:=e=.returned (.tuple #[x.agg,.int .i64 c])/\Below w.heap.size w w'
theorem prog_Dec_bad (v:Value) (L:List Int) (c:Int) (w:World) (Y:IsB L) (r:aK w 1 v (byts L)) (z:(64<L.length/\c=1)\/(L.length=0/\c=4)\/(0<L.length/\L.length<=64/\¬ (1<=L.getD 0 0/\L.getD 0 0<=7)/\c=5)) :
  Calls prog 5 #[v] w (DecPost w Ev.zero c):=by
 obtain ⟨a,a6,rfl,ab,a4,Z⟩:=byte_at r
 have P:=KL Z
 have a2:=KL Y
 have ac:(L.length:Int)<=9223372036854775807:=by have:=a4;unfold maxLen at this;omega
 clear r Z Y
 rcases z with ⟨z,rfl⟩|⟨z,rfl⟩|⟨E,h2,J,rfl⟩
 ·have W:(64:Int)<(L.length:Int):=by omega
  go_in
  go_wp2
  (refine LN (v:=.tuple #[Ev.agg Ev.zero,.int .i64 1]) ?_ rfl ⟨rfl,Zb⟩;(focus (first|(simp [results,Ev.agg,Ev.zero,results5,go_sem];done)|(simp [results,Ev.agg,Ev.zero,results5,go_sem, *];done))))
 ·have W:¬ (64:Int)<(L.length:Int):=by omega
  have hz:((L.length:Int) == 0)=true:=by rw [beq_iff_eq];omega
  clear z
  go_in
  go_wp2
  (refine LN (v:=.tuple #[Ev.agg Ev.zero,.int .i64 4]) ?_ rfl ⟨rfl,Zb⟩;(focus (first|(simp [results,Ev.agg,Ev.zero,results5,go_sem];done)|(simp [results,Ev.agg,Ev.zero,results5,go_sem, *];done))))
 ·have W:¬ (64:Int)<(L.length:Int):=by omega
  have hz:((L.length:Int) == 0)=false:=by rw [beq_eq_false_iff_ne];omega
  obtain ⟨b,o,rfl,a3,q⟩:=P.out (by intro z;rw [z] at E;simp at E)
  have U:=q 0 E
  rw [Nat.add_zero] at U
  obtain ⟨kd,K⟩:∃ kd,kd=L.getD 0 0:=⟨_,rfl⟩
  have a9:0<=kd/\kd<=255:=by rw [K];exact a2.out _ (by simp only [List.getD,Lj E,LI];exact Lp _)
  have aa:wrap64 kd=kd:=IntWalk.wrap64_in kd (by omega)
  rw [<- K] at U J
  have a8:b<w.heap.size:=a3
  have H3:Hid (false=decide (1<=kd/\kd<=7)):=by show false=_;simp only [J,decide_false]
  clear q K J
  go_in
  go_wp2_with (go_at_call 13;refine (po (evZ kd) (w.heap.size+1) (w.heap.size+1+1) 0 false _ (by go_simp;rfl) H3.out).mono ?_)
  rintro e w1 ⟨v1,rfl,I,G⟩
  have B1:=KL (((((KM w.heap.size w).alloc (KY _) (.cells #[.int .i64 0,.int .i64 0,.int .i64 0,.int .i64 0,.bool false,.int .i64 0,.int .i64 0,.int .i64 0] 61)).alloc (by simp) (.cells #[.int .i64 kd,.int .i64 0,.int .i64 0,.int .i64 0,.bool false,.int .i64 0,.int .i64 0,.int .i64 0] 61)).alloc Zs (.cells #[.int .i64 0] 3)).trans (G.mono Zs))
  have h:=aj G ((KQ (w:=World.alloc _ _) _ _ Zs).trans ((KQ (w:=w.alloc (.cells #[.int .i64 0,.int .i64 0,.int .i64 0,.int .i64 0,.bool false,.int .i64 0,.int .i64 0,.int .i64 0] 61)) (.cells #[.int .i64 kd,.int .i64 0,.int .i64 0,.int .i64 0,.bool false,.int .i64 0,.int .i64 0,.int .i64 0] 61) w.heap.size (by simp)).trans (aB _ rfl))) Zs
  have s1:=G.size
  simp at s1
  generalize jO (evZ kd) (w.heap.size+1) (w.heap.size+1+1) 0=F at I
  obtain ⟨a1,a7,rfl,_⟩:=ap I.1
  have m0:w.heap.size<w1.heap.size:=by omega
  have d0:=ae h 0
  have g0:=az h 0
  have d1:=ae h 1
  have g1:=az h 1
  have d2:=ae h 2
  have g2:=az h 2
  have d3:=ae h 3
  have g3:=az h 3
  have d4:=ae h 4
  have g4:=az h 4
  have d5:=ae h 5
  have g5:=az h 5
  have d6:=ae h 6
  have g6:=az h 6
  have d7:=ae h 7
  have g7:=az h 7
  simp at d0 d1 d2 d3 d4 d5 d6 d7
  have a5:=B1.out
  clear I G h
  go_wp2
  (refine LN (v:=.tuple #[Ev.agg Ev.zero,.int .i64 5]) ?_ rfl ⟨rfl,Zb⟩;(focus (first|(simp [results,Ev.agg,Ev.zero,results5,go_sem];done)|(simp [results,Ev.agg,Ev.zero,results5,go_sem, *];done))))
theorem prog_Dec_ok (v:Value) (L:List Int) (x:Ev) (c:Int) (w:World) (hB:IsB L) (r:aK w 1 v (byts L)) (h:0<L.length/\L.length<=64/\(1<=L.getD 0 0/\L.getD 0 0<=7)/\c=(rd (bnds (L.getD 0 0)) (L.drop 1) []).1/\x=(if c=0 then decX (L.getD 0 0) (rd (bnds (L.getD 0 0)) (L.drop 1) []).2 else Ev.zero)) :
  Calls prog 5 #[v] w (DecPost w x c):=by
 obtain ⟨h1,h2,h3,h4,h5⟩:=h
 obtain ⟨a,cap,rfl,hlc,hcm,p⟩:=byte_at r
 have hlm:(L.length:Int)<=9223372036854775807:=by have:=hcm;unfold maxLen at this;omega
 have h':¬ (64:Int)<(L.length:Int):=by omega
 have hz:((L.length:Int) == 0)=false:=by rw [beq_eq_false_iff_ne];omega
 obtain ⟨a',hsl0,r'⟩:=slice_rest (k:=1) r (by omega)
 have hsl:∀ W,(Instr.slice 65 (.slice a L.length cap) (some (.int .i64 1)) none none).run prog W=.ok (.slice a' (L.length - 1) (cap - 1)) W:=hsl0
 clear hsl0
 obtain ⟨b,o,rfl,hb0,q⟩:=p (by intro h;rw [h] at h1;simp at h1)
 have a0:=q 0 h1
 rw [Nat.add_zero] at a0
 obtain ⟨kd,hkd⟩:∃ kd,kd=L.getD 0 0:=⟨_,rfl⟩
 have hkb:0<=kd/\kd<=255:=by rw [hkd];exact hB _ (by simp only [List.getD,Lj h1,LI];exact Lp _)
 have hkw:wrap64 kd=kd:=IntWalk.wrap64_in kd (by omega)
 rw [<- hkd] at a0 h3 h4 h5
 have hbk:b<w.heap.size:=hb0
 have H3:Hid (true=decide (1<=kd/\kd<=7)):=by show true=_;simp [h3]
 have H4:=KL h4
 have H5:=KL h5
 have HK:=KL h3
 have R0:=KL r'
 have HB0:=KL (IsB_drop hB 1)
 clear q hkd h3 h4 h5 r' r hB p
 go_in
 go_wp2_with (go_at_call 13;refine (po (evZ kd) (w.heap.size+1) (w.heap.size+1+1) 0 true _ (by go_simp;rfl) H3.out).mono ?_)
 rintro e w1 ⟨v1,rfl,R1,hb1⟩
 have B1:=KL (((((KM w.heap.size w).alloc (KY _) (.cells #[.int .i64 0,.int .i64 0,.int .i64 0,.int .i64 0,.bool false,.int .i64 0,.int .i64 0,.int .i64 0] 61)).alloc (by simp) (.cells #[.int .i64 kd,.int .i64 0,.int .i64 0,.int .i64 0,.bool false,.int .i64 0,.int .i64 0,.int .i64 0] 61)).alloc Zs (.cells #[.int .i64 0] 3)).trans (hb1.mono Zs))
 have x0:=aj hb1 ((KQ (w:=World.alloc _ _) _ _ Zs).trans ((KQ (w:=w.alloc (.cells #[.int .i64 0,.int .i64 0,.int .i64 0,.int .i64 0,.bool false,.int .i64 0,.int .i64 0,.int .i64 0] 61)) (.cells #[.int .i64 kd,.int .i64 0,.int .i64 0,.int .i64 0,.bool false,.int .i64 0,.int .i64 0,.int .i64 0] 61) w.heap.size (by simp)).trans (aB _ rfl))) Zs
 have x1:=aj hb1 ((KQ (w:=World.alloc _ _) (.cells #[.int .i64 0] 3) (w.heap.size+1) (by simp)).trans (aB (w:=w.alloc (.cells #[.int .i64 0,.int .i64 0,.int .i64 0,.int .i64 0,.bool false,.int .i64 0,.int .i64 0,.int .i64 0] 61)) (.cells #[.int .i64 kd,.int .i64 0,.int .i64 0,.int .i64 0,.bool false,.int .i64 0,.int .i64 0,.int .i64 0] 61) (by simp))) Zs
 have x2:=aj hb1 (aB (w:=World.alloc _ _) (k:=w.heap.size+1+1) (.cells #[.int .i64 0] 3) (by simp)) Zs
 have s1:=hb1.size
 simp at s1
 have HR0:Hid (DcRel w w1 w1 kd []):=⟨B1.out,x0,x1.trans (by rw [evD_nil];rfl),x2.trans (by rw [goodD_nil]),fun _ _ _ _=>rfl,KY _⟩
 have HSp:=KL (bnds_any kd (w.heap.size+1) (w.heap.size+1+1))
 have hlen:=Jp (evZ kd) (w.heap.size+1) (w.heap.size+1+1) 0
 have HPut:=KL (fun (oR:List Int) (k:Nat) (f:FD) hk hf ha n=>evD_put (kd:=kd) HK.out (oR:=oR) (k:=k) (be:=w.heap.size+1) (bg:=w.heap.size+1+1) (f:=f) hk hf ha n)
 have HAt:=KL (fun (k:Nat) (f:FD) hk hf=>bnds_at (kd:=kd) (k:=k) (be:=w.heap.size+1) (bg:=w.heap.size+1+1) (f:=f) hk hf)
 generalize jO (evZ kd) (w.heap.size+1) (w.heap.size+1+1) 0=F at R1 HSp hlen HPut HAt
 obtain ⟨af,capf,rfl,_,_,_,p⟩:=aO FD.zero R1.1
 have hFar:=R1.2
 have P:=KL p
 have HFar:=KL hFar
 clear p R1 hb1 x0 x1 x2 hFar
 go_wp2_with fail
 go_loopw [0,37] (fun bs i wr=>∃ (k:Nat) (ab:Option Addr) (R:List Int) (cb:Nat) (oR:List Int),k<=F.length/\bs=.slice ab R.length cb/\i=.int .i64 k/\oR.length=k/\aK w 1 (.slice ab R.length cb) (byts R)/\IsB R/\rd (bnds kd) (L.drop 1) []=rd ((bnds kd).drop k) R oR/\DcRel w wr w1 kd oR) (fun _ i _=>F.length - (intOf i).toNat)
 case atStart=>exact ⟨0,a',L.drop 1,cap - 1,[],La _,by simp,rfl,rfl,by simpa using R0.out,HB0.out,rfl,HR0.out⟩
 case round=>
  clear HR0 R0 HB0 hsl
  obtain ⟨k,ab,R,cb,oR,hk,rfl,rfl,hal,hrow,hib,hrd,hdc⟩:=hrel
  have HRow:=KL hrow
  have HIB:=KL hib
  have HRd:=KL hrd
  have HD:=KL hdc
  have HAl:=KL hal
  have hrl:=RowAt_lt hrow
  have hrm:(R.length:Int)<=9223372036854775807:=by simp [byts] at hrl;unfold maxLen at hrl;omega
  obtain ⟨q1,q2,q3,q4,q5,q6⟩:=hdc
  have hsz:=q1.size
  clear hrow hib hrd hal hrl
  rcases (show k<F.length\/F.length=k by omega) with hlt|heq
  ·have hlt':(k:Int)<(F.length:Int):=by omega
   obtain ⟨bf,of,rfl,hbf,q⟩:=P.out (by intro h;rw [h] at hlt;simp at hlt)
   have hfar:=HFar.out _ _ _ rfl
   simp at hfar
   obtain ⟨f,hf⟩:∃ f,f=F.getD k FD.zero:=⟨_,rfl⟩
   have hold:∀ j,j<3->wr.cell? ⟨bf,of+k*3+j,none⟩=f.cells[j]?:=fun j hj=>by
    rw [q5 bf _ (by omega) hbf,hf];exact q k j hlt hj
   have a0:=hold 0 (by omega)
   have a1:=hold 1 (by omega)
   have a2:=hold 2 (by omega)
   have HPt:=KL (HPut.out oR k f hlt hf HAl.out)
   have HA:=KL (HAt.out k f hlt hf)
   clear hold q hf
   obtain ⟨fa,lo,hi,vl⟩:=f
   simp only [FD.cells,Lb,Lc,Nat.add_zero] at a0 a1 a2
   obtain ⟨c0,hc0⟩:∃ c0,c0=gtC R:=⟨_,rfl⟩
   obtain ⟨n0,hn0⟩:∃ n0,n0=(if gtC R=0 then getV R else 0):=⟨_,rfl⟩
   obtain ⟨u0,hu0⟩:∃ u0,u0=(if gtC R=0 then ((endOf R+1:Nat):Int) else 0):=⟨_,rfl⟩
   have HG:Hid (∀ W,aK W 1 (.slice ab R.length cb) (byts R)->Calls prog 14 #[.slice ab R.length cb] W fun e w'=>e=.returned (.tuple #[.int .i64 n0,.int .i64 u0,.int .i64 c0])/\Below W.heap.size W w'):=by
    intro W hW
    have:=prog_get _ R W HIB.out hW
    rw [<- hn0,<- hu0,<- hc0] at this
    exact this
   have HRw:Hid (aK wr 1 (.slice ab R.length cb) (byts R)):=aq HRow.out q1
   have HN0:=KL hn0
   have HU0:=KL hu0
   have HC0:=KL hc0
   have lb:bf<wr.heap.size:=bV a0
   clear hn0 hu0 hc0 q1 q2 q3 q4 q5 hfar hbf
   go_wp2_with fail
   refine (HG.out _ (ai HRw.out _)).mono ?_
   rintro e w2 ⟨rfl,hb2⟩
   have KB:=KL (((KM wr.heap.size wr).alloc (KY _) (.cells #[.pointer (some fa),.int .i64 lo,.int .i64 hi] 91)).trans (hb2.mono Zs))
   have HD2:=KL (DcRel_keep HD.out KB.out)
   obtain ⟨q1,q2,q3,q4,q5,q6⟩:=HD2.out
   have hy2:=hb2.size
   simp at hy2
   have xf:=aj hb2 (aB (w:=wr) (.cells #[.pointer (some fa),.int .i64 lo,.int .i64 hi] 91) rfl) Zs
   have f0:=ae xf 0
   have f1:=ae xf 1
   have f2:=ae xf 2
   simp at f0 f1 f2
   have m0:w.heap.size<w2.heap.size:=by omega
   have m1:wr.heap.size<w2.heap.size:=by omega
   by_cases hcz:c0=0
   ·subst hcz
    have hg0:gtC R=0:=HC0.out.symm
    have hnv:n0=getV R:=by rw [HN0.out,if_pos hg0]
    have huv:u0=((endOf R+1:Nat):Int):=by rw [HU0.out,if_pos hg0]
    have HG0:=KL hg0
    have HNV:=KL hnv
    have hub:endOf R+1<=R.length:=gtC_lt hg0
    have HUB:=KL hub
    clear hg0 hnv hb2 xf q3 q4 q5
    rcases (show n0<lo\/(lo<=n0/\hi<n0)\/(lo<=n0/\n0<=hi) by omega) with e1|⟨e1,e2⟩|⟨e1,e2⟩
    ·have hc:c=2:=by rw [H4.out,HRd.out,HA.out];exact congrArg Prod.fst (rd_out HG0.out (Or.inl (by rw [<- HNV.out];exact e1)))
     have hx:x=Ev.zero:=by rw [H5.out,hc];rfl
     subst hc hx
     have hd:decide (n0<lo)=true:=by simpa using e1
     have d0:=ae q2 0
     have df0:=az q2 0
     have d1:=ae q2 1
     have df1:=az q2 1
     have d2:=ae q2 2
     have df2:=az q2 2
     have d3:=ae q2 3
     have df3:=az q2 3
     have d4:=ae q2 4
     have df4:=az q2 4
     have d5:=ae q2 5
     have df5:=az q2 5
     have d6:=ae q2 6
     have df6:=az q2 6
     have d7:=ae q2 7
     have df7:=az q2 7
     simp at d0 d1 d2 d3 d4 d5 d6 d7
     clear q2 hub huv
     go_wp2
     (refine LN (v:=.tuple #[Ev.agg Ev.zero,.int .i64 2]) ?_ rfl ⟨rfl,Zb⟩;(focus (first|(simp [results,Ev.agg,Ev.zero,results5,go_sem];done)|(simp [results,Ev.agg,Ev.zero,results5,go_sem, *];done))))
    ·have hc:c=2:=by rw [H4.out,HRd.out,HA.out];exact congrArg Prod.fst (rd_out HG0.out (Or.inr (by rw [<- HNV.out];exact e2)))
     have hx:x=Ev.zero:=by rw [H5.out,hc];rfl
     subst hc hx
     have hd:decide (n0<lo)=false:=by simpa using e1
     have hd2:decide (hi<n0)=true:=by simpa using e2
     have d0:=ae q2 0
     have df0:=az q2 0
     have d1:=ae q2 1
     have df1:=az q2 1
     have d2:=ae q2 2
     have df2:=az q2 2
     have d3:=ae q2 3
     have df3:=az q2 3
     have d4:=ae q2 4
     have df4:=az q2 4
     have d5:=ae q2 5
     have df5:=az q2 5
     have d6:=ae q2 6
     have df6:=az q2 6
     have d7:=ae q2 7
     have df7:=az q2 7
     simp at d0 d1 d2 d3 d4 d5 d6 d7
     clear q2 hub huv
     go_wp2
     (refine LN (v:=.tuple #[Ev.agg Ev.zero,.int .i64 2]) ?_ rfl ⟨rfl,Zb⟩;(focus (first|(simp [results,Ev.agg,Ev.zero,results5,go_sem];done)|(simp [results,Ev.agg,Ev.zero,results5,go_sem, *];done))))
    ·have hd:decide (n0<lo)=false:=by simpa using e1
     have hd2:decide (hi<n0)=false:=by simpa using e2
     have HNx:Hid (rd (bnds kd) (L.drop 1) []=rd ((bnds kd).drop (k+1)) (R.drop (endOf R+1)) (oR++[n0])):=by
      show _=_
      rw [HRd.out,HA.out,rd_in HG0.out (by rw [<- HNV.out];exact e1) (by rw [<- HNV.out];exact e2),HNV.out]
     obtain ⟨ax,hsl0,rs⟩:=slice_rest (k:=endOf R+1) HRow.out hub
     have hsl:∀ W,(Instr.slice 65 (.slice ab R.length cb) (some (.int .i64 u0)) none none).run prog W=.ok (.slice ax (R.length - (endOf R+1)) (cb - (endOf R+1))) W:=by rw [huv];exact hsl0
     have HRs:Hid (aK w 1 (.slice ax (R.drop (endOf R+1)).length (cb - (endOf R+1))) (byts (R.drop (endOf R+1)))):=by simpa [Hid] using rs
     clear hsl0 rs q2 hub huv
     rcases HPt.out n0 with ⟨o,ha,ho,hp1,hp2⟩|⟨ha,hp1,hp2⟩
     ·obtain rfl:fa=⟨w.heap.size+1,o,none⟩:=ha
      have HS:=KL (DcRel_set HD2.out hp1 hp2)
      obtain ⟨_,_,r3,_,_,_⟩:=HD2.out
      have t1:=az r3 o
      obtain ⟨v0,hv0⟩:∃ v0,w2.cell? ⟨w.heap.size+1,o,none⟩=some v0:=by
       rw [ae r3 o,Array.getElem?_eq_getElem (by simpa [Ev.cells] using ho)]
       exact ⟨_,rfl⟩
      have m2:w.heap.size+1<w2.heap.size:=by omega
      clear r3 hp1 hp2
      go_wp2
      go_roundw
      case rel=>exact ⟨k+1,ax,R.drop (endOf R+1),cb - (endOf R+1),oR++[n0],by omega,by simp,by go_num,by simp [HAl.out],HRs.out,IsB_drop HIB.out _,HNx.out,HS.out⟩
      case measure=>simp [intOf];omega
     ·obtain rfl:fa=⟨w.heap.size+1+1,0,none⟩:=ha
      have HS:=KL (DcRel_good HD2.out hp1 hp2)
      obtain ⟨_,_,_,r4,_,_⟩:=HD2.out
      have t1:=az r4 0
      have hv0:=ae r4 0
      simp at hv0
      have m2:w.heap.size+1+1<w2.heap.size:=by omega
      clear r4 hp1 hp2
      go_wp2
      go_roundw
      case rel=>exact ⟨k+1,ax,R.drop (endOf R+1),cb - (endOf R+1),oR++[n0],by omega,by simp,by go_num,by simp [HAl.out],HRs.out,IsB_drop HIB.out _,HNx.out,HS.out⟩
      case measure=>simp [intOf];omega
   ·have hc:c=c0:=by rw [H4.out,HRd.out,HA.out,HC0.out];exact congrArg Prod.fst (rd_err (by rw [<- HC0.out];exact hcz))
    have hx:x=Ev.zero:=by rw [H5.out,hc,if_neg hcz]
    subst hx
    subst hc
    have hd:(c == 0)=false:=by simpa using hcz
    have hd2:(c != 0)=true:=by simpa using hcz
    have d0:=ae q2 0
    have df0:=az q2 0
    have d1:=ae q2 1
    have df1:=az q2 1
    have d2:=ae q2 2
    have df2:=az q2 2
    have d3:=ae q2 3
    have df3:=az q2 3
    have d4:=ae q2 4
    have df4:=az q2 4
    have d5:=ae q2 5
    have df5:=az q2 5
    have d6:=ae q2 6
    have df6:=az q2 6
    have d7:=ae q2 7
    have df7:=az q2 7
    simp at d0 d1 d2 d3 d4 d5 d6 d7
    clear q2 q3 q4 q5 hb2 xf hcz
    go_wp2
    (refine LN (v:=.tuple #[Ev.agg Ev.zero,.int .i64 c]) ?_ rfl ⟨rfl,Zb⟩;(focus (first|(simp [results,Ev.agg,Ev.zero,results5,go_sem];done)|(simp [results,Ev.agg,Ev.zero,results5,go_sem, *];done))))
  ·have hge:¬ (k:Int)<(F.length:Int):=by omega
   have hnil:(bnds kd).drop k=[]:=by
    rw [<- HSp.out,List.drop_of_length_le (by simp;omega)]
   have HRd2:Hid (rd (bnds kd) (L.drop 1) []=rd [] R oR):=by show _=_;rw [HRd.out,hnil]
   have m0:w.heap.size<wr.heap.size:=by omega
   have m1:w.heap.size+1<wr.heap.size:=by omega
   have m2:w.heap.size+1+1<wr.heap.size:=by omega
   have d0:=ae q2 0
   have df0:=az q2 0
   have d1:=ae q2 1
   have df1:=az q2 1
   have d2:=ae q2 2
   have df2:=az q2 2
   have d3:=ae q2 3
   have df3:=az q2 3
   have d4:=ae q2 4
   have df4:=az q2 4
   have d5:=ae q2 5
   have df5:=az q2 5
   have d6:=ae q2 6
   have df6:=az q2 6
   have d7:=ae q2 7
   have df7:=az q2 7
   simp at d0 d1 d2 d3 d4 d5 d6 d7
   have xg:=ae q4 0
   simp at xg
   rcases (show R.length=0\/0<R.length by omega) with hr0|hr0
   ·have hc:c=0:=by rw [H4.out,HRd2.out,rd_end0 hr0]
    have hx:x=decX kd oR:=by rw [H5.out,hc,if_pos rfl,HRd2.out,rd_end0 hr0]
    have HX:=KL hx
    subst hc
    clear hx
    have hr1:¬ (0:Int)<(R.length:Int):=by omega
    obtain ⟨ev,hev⟩:∃ ev,ev=evD kd oR:=⟨_,rfl⟩
    have HEv:=KL hev
    rw [<- hev] at q3
    obtain ⟨g,hg⟩:∃ g,g=goodD kd oR:=⟨_,rfl⟩
    have HGd:=KL hg
    rw [<- hg] at xg
    obtain ⟨z0,z1,z2,z3,z4,z5,z6,z7⟩:=ev
    have e0:=ae q3 0
    have ef0:=az q3 0
    have e1:=ae q3 1
    have ef1:=az q3 1
    have e2:=ae q3 2
    have ef2:=az q3 2
    have e3:=ae q3 3
    have ef3:=az q3 3
    have e4:=ae q3 4
    have ef4:=az q3 4
    have e5:=ae q3 5
    have ef5:=az q3 5
    have e6:=ae q3 6
    have ef6:=az q3 6
    have e7:=ae q3 7
    have ef7:=az q3 7
    simp [Ev.cells] at e0 e1 e2 e3 e4 e5 e6 e7
    have hx2:x=⟨z0,z1,z2,z3,decide (g=1),z5,z6,z7⟩:=by
     rw [HX.out]
     unfold decX
     rw [<- HEv.out,<- HGd.out]
    clear HX
    subst hx2
    clear q2 q3 q4 q5 hev hg hnil
    go_wp2
    refine LN (v:=.tuple #[Ev.agg ⟨z0,z1,z2,z3,decide (g=1),z5,z6,z7⟩,.int .i64 0]) ?_ rfl ⟨rfl,Zb⟩
    simp [results,Ev.agg,results5,go_sem, *]
    rfl
   ·have hc:c=3:=by rw [H4.out,HRd2.out,rd_end3 (by omega)]
    have hx:x=Ev.zero:=by rw [H5.out,hc];rfl
    subst hc hx
    have hr1:(0:Int)<(R.length:Int):=by omega
    clear q2 q3 q4 q5 hnil xg
    go_wp2
    (refine LN (v:=.tuple #[Ev.agg Ev.zero,.int .i64 3]) ?_ rfl ⟨rfl,Zb⟩;(focus (first|(simp [results,Ev.agg,Ev.zero,results5,go_sem];done)|(simp [results,Ev.agg,Ev.zero,results5,go_sem, *];done))))
theorem prog_Dec (v:Value) (L:List Int) (x:Ev) (c:Int) (w:World) (E:IsB L) (r:aK w 1 v (byts L)) (h:DecAns L x c):Calls prog 5 #[v] w (DecPost w x c):=by
 rcases h with ⟨h,rfl,z⟩|⟨h,rfl,z⟩|⟨G,I,J,rfl,z⟩|⟨G,I,J,K,U⟩
 ·exact prog_Dec_bad v L c w E r (Or.inl ⟨h,z⟩)
 ·exact prog_Dec_bad v L c w E r (Or.inr (Or.inl ⟨h,z⟩))
 ·exact prog_Dec_bad v L c w E r (Or.inr (Or.inr ⟨G,I,J,z⟩))
 ·exact prog_Dec_ok v L x c w E r ⟨G,I,J,K,U⟩
theorem encN_ne (n:Nat):encN n≠[]:=by rw [encN];split<;>simp
theorem enc_read:∀ (f n:Nat) (R:List Int),n<128 ^ f->1<=f->endF f (encN n++R)+1=(encN n).length/\numV (encN n)=n/\(n≠0->(encN n).getLast (encN_ne n)≠0)
 | 0,n,R,_,h=>by omega
 | f+1,n,R,hn,_=>by
  by_cases h:n<128
  ·simp only [encN_lo h,List.cons_append,List.nil_append,endF,if_neg (show ¬ (128:Int)<=(n:Int) by omega),numV,List.getLast_singleton]
   exact ⟨rfl,by omega,fun h=>by omega⟩
  ·have J:1<=f:=by
    rcases Nat.eq_zero_or_pos f with rfl|z
    ·simp at hn;omega
    ·exact z
   have I:n / 128<128 ^ f:=by rw [Nat.div_lt_iff_lt_mul (by decide)];rw [Nat.pow_succ] at hn;exact hn
   obtain ⟨z,E,G⟩:=enc_read f (n / 128) R I J
   simp only [encN_hi (show 128<=n by omega),List.cons_append,endF,if_pos (show (128:Int)<=((n % 128+128:Nat):Int) by omega),numV,E,List.length_cons]
   exact ⟨by omega,by omega,fun _=>by rw [List.getLast_cons (encN_ne _)];exact G (by omega)⟩
theorem enc_get {n:Nat} (z:n<4294967296) (R:List Int):endOf (encN n++R)+1=(encN n).length/\gtC (encN n++R)=0/\getV (encN n++R)=n:=by
 obtain ⟨I,J,K⟩:=enc_read 6 n R (Nat.lt_trans z (by decide)) (by decide)
 have E:endOf (encN n++R)+1=(encN n).length:=I
 have Y:=encN_len 4 n (Nat.lt_trans z (by decide))
 refine ⟨E,?_,?_⟩
 ·unfold gtC
  rw [if_neg (by omega),if_neg (by rw [Ll];omega),if_neg]
  rintro ⟨h,Z⟩
  have U:n≠0:=by
   rintro rfl
   have W:(encN 0).length=1:=by rw [encN_lo (by decide)];rfl
   omega
  refine K U ?_
  rw [List.getLast_eq_getElem]
  have G:endOf (encN n++R)<(encN n).length:=by omega
  rw [List.getD,LR G,Lj G,LI] at h
  have:(encN n).length - 1=endOf (encN n++R):=by omega
  simpa [this] using h
 ·unfold getV
  rw [E,List.take_append_of_le_length (KY _),List.take_length,J]
theorem rd_enc:∀ (F:List (Int×Int)) (V oR:List Int),F.length=V.length->(∀ i,i<V.length->(F.getD i (0,0)).1<=V.getD i 0/\V.getD i 0<=(F.getD i (0,0)).2/\0<=V.getD i 0/\V.getD i 0<4294967296)->rd F (V.flatMap fun v=>encN v.toNat) oR=(0,oR++V)
 | [],[],oR,_,_=>by simp [rd]
 | (lo,G) :: F,v :: V,oR,hl,hv=>by
  have z:=hv 0 (by simp)
  simp at z
  obtain ⟨n,rfl⟩:=Lr z.2.2.1
  obtain ⟨I,J,E⟩:=enc_get (n:=n) (by omega) (V.flatMap fun v=>encN v.toNat)
  rw [List.flatMap_cons,Lm,rd_in J (by rw [E];exact z.1) (by rw [E];exact z.2.1),I,List.drop_left',E,rd_enc F V _ (by simpa using hl) (fun i G=>by simpa using hv (i+1) (by simpa using G))]
  ·simp
  ·rfl
 | [],_ :: _,_,h,_=>by simp at h
 | _ :: _,[],_,h,_=>by simp at h
theorem dec_enc {x:Ev} (E:jU x 0):DecAns (encE x) x 0:=by
 obtain ⟨W,hi,hr⟩:(1<=x.kind/\x.kind<=7)/\oZ x/\iN x=Ev.zero:=by
  rcases E with ⟨_,E⟩|⟨_,_,E⟩|⟨_,_,_,E⟩|⟨E,I,Y,_⟩
  ·omega
  ·omega
  ·omega
  ·exact ⟨E,I,Y⟩
 obtain ⟨V,G⟩:∃ V,V=(jO x 0 0 (gdI x.good)).map FD.val:=⟨_,rfl⟩
 have a2:V.length<=3:=by rw [G,Lh];exact Jp _ _ _ _
 have Z:∀ h,h<V.length->((bnds x.kind).getD h (0,0)).1<=V.getD h 0/\V.getD h 0<=((bnds x.kind).getD h (0,0)).2/\0<=V.getD h 0/\V.getD h 0<4294967296:=by
  intro h J
  have K:h<(jO x 0 0 (gdI x.good)).length:=by rw [G,Lh] at J;exact J
  have I:=evF_ing W 0 0 hi _ (Lp K)
  have Y:=evF_bd x 0 0 (gdI x.good) _ (Lp K)
  have h3:V.getD h 0=((jO x 0 0 (gdI x.good))[h]).val:=by rw [G];simp [List.getD,K]
  have h4:(bnds x.kind).getD h (0,0)=((jO x 0 0 (gdI x.good))[h]).lh:=by
   have:bnds x.kind=(jO x 0 0 (gdI x.good)).map FD.lh:=by
    unfold bnds jO evZ
    repeat' split
    all_goals rfl
   rw [this];simp [List.getD,K]
  rw [h3,h4]
  unfold C7 at I
  simp only [FD.lh]
  omega
 have a1:(bnds x.kind).length=V.length:=by
  rw [G]
  unfold bnds jO evZ
  repeat' split
  all_goals rfl
 have a0:=rd_enc (bnds x.kind) V [] a1 Z
 have he:encE x=x.kind :: V.flatMap fun U=>encN U.toNat:=by rw [G];rfl
 have a3:(V.flatMap fun U=>encN U.toNat).length<=15:=by
  have I:=encV_len V (fun U hv=>by
   obtain ⟨h,J,e⟩:=List.getElem_of_mem hv
   have:=(Z h J).2.2
   rw [List.getD,Lj J,LI,e] at this
   omega) V.length
  rw [encV_all V rfl] at I
  omega
 refine Or.inr (Or.inr (Or.inr ?_))
 rw [he]
 refine ⟨by simp,by rw [List.length_cons];omega,W,?_,?_⟩
 ·show 0=(rd (bnds x.kind) _ []).1
  rw [List.drop_one,List.tail_cons,a0]
 ·rw [if_pos rfl]
  show x=decX x.kind (rd (bnds x.kind) _ []).2
  rw [List.drop_one,List.tail_cons,a0,G]
  obtain ⟨z,ky,sl,gn,gd,rq,bk,wt⟩:=x
  rcases (show z=1\/z=2\/z=3\/z=4\/z=5\/z=6\/z=7 by simp only at W;omega) with rfl|rfl|rfl|rfl|rfl|rfl|rfl
  all_goals (simp [iN,Ev.zero] at hr;cases gd<;>simp [decX,evD,goodD,jO,gdI]<;>simp_all)
theorem encE_in {x:Ev} (h:jU x 0):IsB (encE x)/\(encE x).length<=64/\0<(encE x).length:=by
 obtain ⟨K,_⟩:(1<=x.kind/\x.kind<=7)/\True:=by
  rcases h with ⟨_,h⟩|⟨_,_,h⟩|⟨_,_,_,h⟩|⟨h,_,_,_⟩
  ·omega
  ·omega
  ·omega
  ·exact ⟨h,trivial⟩
 refine ⟨fun G E=>?_,?_,by simp [encE]⟩
 ·unfold encE at E
  rcases List.mem_cons.1 E with rfl|E
  ·omega
  ·obtain ⟨U,_,J⟩:=List.mem_flatMap.1 E
   exact encN_in _ G J
 ·rcases dec_enc h with ⟨z,_,I⟩|⟨z,_,I⟩|⟨_,z,_⟩|⟨_,z,_⟩
  ·omega
  ·omega
  ·exact z
  ·exact z
end Go.Proofs.YtennppmadmgfoaaGreatDoor
