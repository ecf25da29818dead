/- Texts of the row's proof. Conditions: none. -/
import Derived.Deep.RegionLaw
import Derived.Test.YtfliffgmeobclaaGreatK08
namespace Go.Proofs.YtfliffgmeobclaaGreat
set_option maxRecDepth 100000
set_option maxHeartbeats 8000000
section
open Go.RowKit
theorem Q92 {p:Prop} (h:p:=by
 rw [Ia hk,List.countP_append,List.countP_singleton];simp [List.getD,hk]):p:=h
theorem Q135 {p:Prop} (h:p:=by
 go_wp2
 go_round
 case rel=>exact ⟨k+1,by omega,by go_num,by rw [hs.out];simp⟩
 case measure=>simp [intOf];omega):p:=h
def iZ (M:List Bool):Nat:=M.countP id
theorem yd {M:List Bool} {k:Nat} (hk:k<M.length):iZ (M.take (k+1))=iZ (M.take k)+if M.getD k false then 1 else 0:=by
 unfold iZ;exact Q92
theorem qt (M:List Bool):iZ M≤M.length:=List.countP_le_length
theorem lQ (v:Value) (M:List Bool) (w:World) (r:aI w 1 v (cI M)) (hn:M.length≤140737488351232) :
  Calls Tryz.prog 154 #[v] w fun e w'=>e=.returned (.int .i64 (iZ M))∧w=w':=by
 obtain ⟨a,c,rfl,l,m,n,p⟩:=aK (f:=fun b=>[Value.bool b]) false r
 have P:=Hu p
 clear r p l m n
 go_enter Tryz.func154,Tryz.ntmps154
 go_wp2
 go_loop [3,5,8] (fun q _ i=>∃ k:Nat,k≤M.length∧i=.int .i64 k∧q=.int .i64 (iZ (M.take k))) (fun _ _ i=>M.length - (intOf i).toNat)
 case atStart=>exact ⟨0,I4 _,rfl,rfl⟩
 case round=>
  obtain ⟨k,hk,rfl,rfl⟩:=hrel;have hle:=qt (M.take k)
  have hle2:(M.take k).length≤k:=by simp;omega
  rcases (show k<M.length∨M.length=k by omega) with hlt|heq
  ·have hlt':(k:Int)<(M.length:Int):=by omega
   obtain ⟨b0,o0,rfl,hb0,q⟩:=P.out (by intro h;rw [h] at hlt;simp at hlt);have a0:=q k 0 hlt (by omega);have hs:=Hu (yd hlt);obtain ⟨x,hx⟩:∃ x,x=M.getD k false:=⟨_,rfl⟩;rw [← hx] at hs a0;simp only [I5,Nat.mul_one,Nat.add_zero] at a0;clear hx q
   cases x with
   | true=>
    exact Q135
   | false=>
    exact Q135
  ·have hge:¬ (k:Int)<(M.length:Int):=by omega
   have HE:Hid (iZ M=iZ (M.take k)):=by rw [Ie (by omega)];rfl
   clear heq;go_wp2
   all_goals first|(go_ret;exact ⟨rI (by rw [HE.out]),rfl⟩)|exact Zx
theorem pow_up {c:Int} {j n:Nat} (hc:0≤c) (h:j≤n):c*2 ^ j≤c*2 ^ n:=by
 obtain ⟨m,rfl⟩:∃ m,n=j+m:=⟨n - j,by omega⟩;rw [Int.pow_add,← Int.mul_assoc]
 have h1:(1:Int)≤2 ^ m:=by
  have:=Nat.one_le_two_pow (n:=m)
  exact_mod_cast this
 have h0:0≤c*2 ^ j:=Int.mul_nonneg hc (Int.pow_nonneg (by omega));have:=Int.mul_le_mul_of_nonneg_left h1 h0;omega
def mF (c t:Int):Int:=min (c*2 ^ t.toNat) 500
def gz (M:List Bool) (failed:Bool) (a:Int):List Bool:=(M++[failed]).drop ((M.length+1:Nat) - a.toNat)
def zR (a b c:Int) (M:List Bool) (out:Bool) (u t:Int) (failed:Bool) (now:Int) (may:Bool) (M':List Bool) (out':Bool) (u' t':Int) (came:Bool) (code:Int):Prop:=
 ge a b c M.length out u t now code∧((code≠0∧M'=[]∧out'=false∧u'=0∧t'=0∧came=false)∨
  (code=0∧out=false∧may=true∧b≤iZ (gz M failed a)∧M'=[]∧out'=true∧u'=now+mF c t∧t'=min (t+1) 10∧came=true)∨
  (code=0∧(out=true∨(out=false∧may=false)∨(out=false∧may=true∧(iZ (gz M failed a):Int)<b))∧M'=gz M failed a∧out'=out∧u'=u∧t'=t∧came=false))
theorem fC {a b c:Int} {n:Nat} {out:Bool} {u t now:Int} (h:ge a b c n out u t now 0):i7 a b c∧0≤now∧now≤1099511627776∧rK a n out u t:=by
 rcases h with ⟨_,h⟩|⟨_,_,h⟩|⟨_,_,_,_,h⟩|⟨h1,h2,h3,h4,_⟩
 ·omega
 ·omega
 ·omega
 ·exact ⟨h1,h2,h3,h4⟩
end
end Go.Proofs.YtfliffgmeobclaaGreat
