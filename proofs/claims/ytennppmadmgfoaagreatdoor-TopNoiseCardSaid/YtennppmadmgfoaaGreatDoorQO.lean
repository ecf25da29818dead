/- Texts of the row's proof. Conditions: none. -/
import Derived.Test.YtennppmadmgfoaaGreatDoorK02
namespace Go.Proofs.YtennppmadmgfoaaGreatDoor
open Proofs.Tryz
set_option maxRecDepth 100000
set_option maxHeartbeats 8000000
open Go.RowKit
section
open Go.ChangeShapes Go.WideShapes Go.ChangeAt Go.RowKit
theorem byte_of_flat {cs:List Value} (z:dI [some .u8] cs):∃ x:Int,cs=[Value.int .u8 x]/\(0<=x/\x<=255):=by
 obtain ⟨h,I,rfl,G,E⟩:=jB z
 obtain rfl:=uo E
 exact ⟨h,rfl,by simp [Lit.wf,IntKind.min,IntKind.max,IntKind.signed,IntKind.bits] at G;omega⟩
def Is_sl_uint8 (W:World) (v:Value):Prop:=∃ X:List Int,aK W 1 v (X.map fun x=>[Value.int .u8 x])/\(∀ x∈X,(0<=x/\x<=255))/\X.length*1<=140737488351232
section
variable {H:Type} {enc:TypeId×Value->H} {W:World} {base:Nat} {v:Value} {d:DataW H} {p:List MemPlace}
theorem opn_sl_uint8 (E:Value.okWide prog W .any base 65 v) (z:DataW.Trod enc prog W 0 (fun _=>true) true 65 v d p) (G:∀ y∈d.weights prog 65,y<=reachBytes):Is_sl_uint8 W v:=by
 obtain ⟨J,h⟩:=xF 6 underlying65 (by kernel_rfl:kf prog 6 5=some [some .u8]) (by kernel_rfl:prog.cellsOf 5=1) E z G
 rw [show prog.bytesOf 5=1 from by kernel_rfl] at h
 exact CG (f:=fun I:Int=>[Value.int .u8 I]) (by decide) (fun _=>byte_of_flat) h
end
end
section
open Go.ChangeShapes Go.WideShapes Go.ChangeAt Go.RowKit
def Is_sl_sl_uint8 (W:World) (v:Value):Prop:=∃ (V:List Value) (LL:List (List Int)),V.length=LL.length/\aK W 1 v (V.map fun x=>[x])/\∀ i,i<LL.length->aK W 1 (V.getD i undef) ((LL.getD i []).map fun x=>[Value.int .u8 x])/\(∀ x∈LL.getD i [],0<=x/\x<=255)/\(LL.getD i []).length*1<=140737488351232
section
variable {H:Type} {enc:TypeId×Value->H} {W:World} {base:Nat} {v:Value} {d:DataW H} {p:List MemPlace}
theorem weightsAll_memL {P:Program} {e:TypeId}:∀ {l:List (DataW H)} {d:DataW H},d∈l->∀ n∈d.weights P e,n∈DataW.weightsAll P e l
 | x :: r,d,h,n,hn=>by
  simp only [DataW.weightsAll,List.mem_append]
  rcases List.mem_cons.1 h with rfl|h
  ·exact Or.inl hn
  ·exact Or.inr (weightsAll_memL h n hn)
theorem opn_sl_sl_uint8 (hv:Value.okWide prog W .any base 26 v) (K:DataW.Trod enc prog W 0 (fun _=>true) true 26 v d p) (hz:∀ y∈d.weights prog 26,y<=reachBytes):Is_sl_sl_uint8 W v:=by
 obtain ⟨a0,l0,c0,rfl⟩:=okWide_slice underlying26 hv
 obtain ⟨f,hf⟩:=K
 rcases Go.Deep.open_slice1 underlying26 (by kernel_rfl) hf with ⟨J,_⟩|⟨Y,ac,a8,m,n',V,D,Pl,J,hb,hl,hm,a2,e2,U⟩
 ·simp [Value.cells] at J
  obtain ⟨rfl,rfl,rfl⟩:=J
  exact ⟨[],[],rfl,⟨none,0,rfl,by simp,by unfold maxLen;omega,fun _=>rfl,fun K=>absurd rfl K⟩,fun z h=>absurd h (Nat.not_lt_zero z)⟩
 ·simp [Value.cells] at J
  obtain ⟨rfl,rfl,rfl⟩:=J
  obtain ⟨rfl,rfl⟩:=Prod.mk.inj e2
  have aa:l0<=m:=by rw [a2];split<;>omega
  obtain ⟨I,hX⟩:=Go.Deep.choose_lt (α:=List Int) (n:=l0) (p:=fun z I=>aK W 1 (V z) (I.map fun G=>[Value.int .u8 G])/\(∀ G∈I,0<=G/\G<=255)/\I.length*1<=140737488351232) (by
   intro z h
   obtain ⟨a9,a5⟩:=U z (by omega)
   obtain ⟨v',L,a1,Z⟩:=n9 6 underlying65 (by kernel_rfl:kf prog 6 5=some [some .u8]) (by kernel_rfl:prog.cellsOf 5=1) a5 (fun y hy=>hz y (by
    simp only [DataW.weights,underlying26]
    exact Ly _ (List.mem_append_left _ (weightsAll_memL (LH.2 ⟨z,List.mem_range.2 h,rfl⟩) y hy))))
   simp only [List.cons.injEq,and_true] at a1
   subst a1
   rw [show prog.bytesOf 5=1 from by kernel_rfl] at Z
   exact CG (f:=fun G:Int=>[Value.int .u8 G]) (by decide) (fun _=>byte_of_flat) Z)
  refine ⟨(List.range l0).map V,(List.range l0).map I,by simp,⟨some Y,c0,by simp,by simpa using hl,hm,by simp,fun a3=>?_⟩,fun z h=>?_⟩
  ·have ab:0<l0:=by
    rcases Nat.eq_zero_or_pos l0 with E|E
    ·subst E;simp at a3
    ·exact E
   obtain ⟨b,a6,a7⟩:=Y
   have E:=(U 0 (by omega)).1
   have a4:a7=none:=by simpa [Addr.add] using World.cell?_spot E
   subst a4
   refine ⟨b,a6,rfl,bV (by simpa [Addr.add] using E),fun z j h hj=>?_⟩
   simp only [Lh,List.length_range] at h
   obtain rfl:j=0:=by omega
   have:=(U z (by omega)).1
   simp only [Addr.add_lit] at this
   simp [List.getD,h,this]
  ·simp only [Lh,List.length_range] at h
   simpa [List.getD,h] using hX z h
end
end
end Go.Proofs.YtennppmadmgfoaaGreatDoor
