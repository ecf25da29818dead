/- Texts of the row's proof. Conditions: none. -/
import Derived.Deep.RegionLaw
import Derived.Test.YtennppmadmgfoaaGreatDoorK06
namespace Go.Proofs.YtennppmadmgfoaaGreatDoor
open Proofs.Tryz
set_option maxRecDepth 100000
set_option maxHeartbeats 8000000
section
open Go.RowKit
theorem Q83 {p:Prop} (h:p:=by
 rw [Li hk,List.countP_append,List.countP_singleton];simp [List.getD,hk]):p:=h
theorem Q121 {p:Prop} (h:p:=by
 go_wp2
 go_round
 case rel=>exact ⟨k+1,by omega,by go_num,by rw [hs.out];simp⟩
 case measure=>simp [intOf];omega):p:=h
def ja (M:List Bool):Nat:=M.countP id
theorem zK {M:List Bool} {k:Nat} (hk:k<M.length):ja (M.take (k+1))=ja (M.take k)+if M.getD k false then 1 else 0:=by
 unfold ja;exact Q83
theorem rG (M:List Bool):ja M<=M.length:=List.countP_le_length
theorem mz (v:Value) (M:List Bool) (w:World) (r:aK w 1 v (cN M)) (hn:M.length<=140737488351232) :
  Calls prog 158 #[v] w fun e w'=>e=.returned (.int .i64 (ja M))/\w=w':=by
 obtain ⟨a,c,rfl,l,m,n,p⟩:=aO (f:=fun Y=>[Value.bool Y]) false r
 have P:=KL p
 clear r p l m n
 go_in
 go_wp2
 go_loop [3,5,8] (fun E _ I=>∃ k:Nat,k<=M.length/\I=.int .i64 k/\E=.int .i64 (ja (M.take k))) (fun _ _ I=>M.length - (intOf I).toNat)
 case atStart=>exact ⟨0,La _,rfl,rfl⟩
 case round=>
  obtain ⟨k,hk,rfl,rfl⟩:=hrel;have a3:=rG (M.take k)
  have a4:(M.take k).length<=k:=by simp;omega
  rcases (show k<M.length\/M.length=k by omega) with z|Z
  ·have a5:(k:Int)<(M.length:Int):=by omega
   obtain ⟨b0,o0,rfl,a1,E⟩:=P.out (by intro h;rw [h] at z;simp at z);have K:=E k 0 z (by omega);have hs:=KL (zK z);obtain ⟨J,U⟩:∃ J,J=M.getD k false:=⟨_,rfl⟩;rw [<- U] at hs K;simp only [Lb,Nat.mul_one,Nat.add_zero] at K;clear U E
   cases J with
   | true=>
    exact Q121
   | false=>
    exact Q121
  ·have a2:¬ (k:Int)<(M.length:Int):=by omega
   have W:Hid (ja M=ja (M.take k)):=by rw [Lo (by omega)];rfl
   clear Z;go_wp2
   all_goals first|(go_ret;exact ⟨rI (by rw [W.out]),rfl⟩)|exact Zx
theorem pow_up {c:Int} {j n:Nat} (E:0<=c) (I:j<=n):c*2 ^ j<=c*2 ^ n:=by
 obtain ⟨m,rfl⟩:∃ m,n=j+m:=⟨n - j,by omega⟩;rw [Int.pow_add,<- Int.mul_assoc]
 have z:(1:Int)<=2 ^ m:=by
  have:=Nat.one_le_two_pow (n:=m)
  exact_mod_cast this
 have h:0<=c*2 ^ j:=Int.mul_nonneg E (Int.pow_nonneg (by omega));have:=Int.mul_le_mul_of_nonneg_left z h;omega
def nz (c t:Int):Int:=min (c*2 ^ t.toNat) 500
def gJ (M:List Bool) (h:Bool) (a:Int):List Bool:=(M++[h]).drop ((M.length+1:Nat) - a.toNat)
def BV (a b c:Int) (M:List Bool) (h:Bool) (u t:Int) (I:Bool) (now:Int) (J:Bool) (z:List Bool) (K:Bool) (W U:Int) (E:Bool) (code:Int):Prop:=
 gv a b c M.length h u t now code/\((code≠0/\z=[]/\K=false/\W=0/\U=0/\E=false)\/
  (code=0/\h=false/\J=true/\b<=ja (gJ M I a)/\z=[]/\K=true/\W=now+nz c t/\U=min (t+1) 10/\E=true)\/
  (code=0/\(h=true\/(h=false/\J=false)\/(h=false/\J=true/\(ja (gJ M I a):Int)<b))/\z=gJ M I a/\K=h/\W=u/\U=t/\E=false))
theorem fJ {a b c:Int} {n:Nat} {z:Bool} {u t now:Int} (h:gv a b c n z u t now 0):im a b c/\0<=now/\now<=1099511627776/\sZ a n z u t:=by
 rcases h with ⟨_,h⟩|⟨_,_,h⟩|⟨_,_,_,_,h⟩|⟨E,I,J,K,_⟩
 ·omega
 ·omega
 ·omega
 ·exact ⟨E,I,J,K⟩
end
end Go.Proofs.YtennppmadmgfoaaGreatDoor
