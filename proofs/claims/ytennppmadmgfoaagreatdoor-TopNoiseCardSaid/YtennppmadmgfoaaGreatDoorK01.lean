/- Texts of the row's proof. Conditions: none. -/
import Derived.Deep.Slices
import Derived.OpenShut
import Derived.ProofKit
import Derived.ShutString
import Derived.SizedLaws
import Derived.WalkKit
import Derived.Test.YtennppmadmgfoaaGreatDoorChecked
import Derived.Test.YtennppmadmgfoaaGreatDoorRows
namespace Go.Proofs.YtennppmadmgfoaaGreatDoor
set_option maxRecDepth 100000
set_option maxHeartbeats 8000000
section
open Go.RowKit
theorem KY:type_of% @Nat.le_refl:=@Nat.le_refl
theorem La:type_of% @Nat.zero_le:=@Nat.zero_le
theorem Lb:type_of% @List.getElem?_cons_zero:=@List.getElem?_cons_zero
theorem Lc:type_of% @List.getElem?_cons_succ:=@List.getElem?_cons_succ
theorem Le:type_of% @List.getElem?_toArray:=@List.getElem?_toArray
theorem Lh:type_of% @List.length_map:=@List.length_map
theorem Li:type_of% @List.take_succ_eq_append_getElem:=@List.take_succ_eq_append_getElem
theorem Lj:type_of% @List.getElem?_eq_getElem:=@List.getElem?_eq_getElem
theorem Ll:type_of% @List.length_append:=@List.length_append
theorem Lm:type_of% @Int.toNat_natCast:=@Int.toNat_natCast
theorem Lo:type_of% @List.take_of_length_le:=@List.take_of_length_le
theorem Lp:type_of% @List.getElem_mem:=@List.getElem_mem
theorem Lq:type_of% @List.length_set:=@List.length_set
theorem Lr:type_of% @Int.eq_ofNat_of_zero_le:=@Int.eq_ofNat_of_zero_le
theorem Ls:type_of% @List.length_take:=@List.length_take
theorem Lt:type_of% @Nat.mul_le_mul_right:=@Nat.mul_le_mul_right
theorem Lu:type_of% @List.getElem?_eq_none:=@List.getElem?_eq_none
theorem Lv:type_of% @List.flatten_append:=@List.flatten_append
theorem Lw:type_of% @List.mem_cons_self:=@List.mem_cons_self
theorem Lx:type_of% @List.take_append_drop:=@List.take_append_drop
theorem Ly:type_of% @List.mem_cons_of_mem:=@List.mem_cons_of_mem
theorem Lz:type_of% @Nat.le_trans:=@Nat.le_trans
theorem LG:type_of% @List.map_append:=@List.map_append
theorem LH:type_of% @List.mem_map:=@List.mem_map
theorem LI:type_of% @Option.getD_some:=@Option.getD_some
theorem LR:type_of% @List.getElem?_append_left:=@List.getElem?_append_left
theorem LU:type_of% @List.getElem?_append_right:=@List.getElem?_append_right
theorem LV:type_of% @Array.getElem?_toList:=@Array.getElem?_toList
theorem Q103 {p:Prop} (h:p:=by
 simp at h;subst h
 cases fuel with
 | zero=>simp [DataW.trod] at hx
 | succ fuel=>
  unfold DataW.trod at hx;rw [hk] at hx
  split at hx<;>simp_all [dI]):p:=h
end
section
open Go.ChangeShapes Go.WideShapes Go.ChangeAt Go.RowKit
def kf (P:Program):Nat->TypeId->Option (List (Option IntKind))
 | 0,_=>none
 | n+1,t=>
  match P.underlying t with
  | some (.int k)=>some [some k]
  | some .bool=>some [none]
  | some (.struct fs)=>
   match fs.toList.foldl (fun (oR:Option (List (Option IntKind))) f=>oR.bind fun l=>(kf P n f.type).bind fun m=>if f.offset=l.length/\P.cellsOf f.type=m.length then some (l++m) else none) (some []) with
   | some l=>if P.cellsOf t=l.length then some l else none
   | none=>none
  | _=>none
def dI:List (Option IntKind)->List Value->Prop
 | [],[]=>True
 | some k :: ks,v :: vs=>(∃ n,v=.int k n/\(Lit.int k n).wf=true)/\dI ks vs
 | none :: ks,v :: vs=>(∃ b,v=.bool b)/\dI ks vs
 | _,_=>False
theorem vZ {E:List (Option IntKind)}:∀ {cs:List Value} {I:List (Option IntKind)} {z:List Value},dI E cs->dI I z->dI (E++I) (cs++z):=by
 induction E with
 | nil=>intro cs I z h J;cases cs with
  | nil=>simpa using J
  | cons v vs=>simp [dI] at h
 | cons k E ih=>intro cs I z h J;cases cs with
  | nil=>cases k<;>simp [dI] at h
  | cons v vs=>cases k<;>(simp only [dI] at h;simp only [List.cons_append,dI];exact ⟨h.1,ih h.2 J⟩)
theorem vY {z:List (Option IntKind)}:∀ {cs:List Value},dI z cs->cs.length=z.length:=by
 induction z with
 | nil=>intro cs h;cases cs with
  | nil=>rfl
  | cons v vs=>simp [dI] at h
 | cons k z ih=>intro cs h;cases cs with
  | nil=>cases k<;>simp [dI] at h
  | cons v vs=>cases k<;>(simp only [dI] at h;simp [ih h.2])
section
variable {H:Type} {enc:TypeId×Value->H} {P:Program} {w:World} {base:Nat} {spare:Nat->Bool} {held:Bool}
theorem rR (P:Program) (n:Nat) (l:List Field):l.foldl (fun (oR:Option (List (Option IntKind))) f=>oR.bind fun l=>(kf P n f.type).bind fun m=>if f.offset=l.length/\P.cellsOf f.type=m.length then some (l++m) else none) none=none:=by
 induction l with
 | nil=>rfl
 | cons f l ih=>simpa using ih
theorem yn (n:Nat) (cs:List Value)
  (Z:∀ t z,kf P n t=some z->∀ (fuel:Nat) (c:List Value) (x:DataW H×List MemPlace),DataW.trod enc P w base spare held fuel t c=some x->dI z c) :
  ∀ (I:List Field) (E z:List (Option IntKind)) (fuel:Nat),dI E (cs.take E.length)->
   (∀ f∈I,∃ x:DataW H×List MemPlace,DataW.trod enc P w base spare held fuel f.type ((cs.drop f.offset).take (P.cellsOf f.type))=some x)->
   I.foldl (fun (oR:Option (List (Option IntKind))) f=>oR.bind fun l=>(kf P n f.type).bind fun m=>if f.offset=l.length/\P.cellsOf f.type=m.length then some (l++m) else none) (some E)=some z->
   dI z (cs.take z.length):=by
 intro I
 induction I with
 | nil=>intro E z fuel J _ h;simp at h;subst h;exact J
 | cons f I ih=>
  intro E z fuel J U h;simp only [List.foldl_cons,Option.bind_some] at h
  cases hm:kf P n f.type with
  | none=>rw [hm] at h;simp only [Option.bind_none] at h;rw [rR] at h;cases h
  | some m=>
   rw [hm] at h;simp only [Option.bind_some] at h;by_cases hc:f.offset=E.length/\P.cellsOf f.type=m.length
   ·rw [if_pos hc] at h;refine ih (E++m) z fuel ?_ (fun W Y=>U W (Ly _ Y)) h;obtain ⟨x,hx⟩:=U f Lw;have K:=Z _ _ hm _ _ _ hx;rw [hc.1,hc.2] at K;rw [Ll,List.take_add];exact vZ J K
   ·rw [if_neg hc,rR] at h
    cases h
theorem nE:∀ (n:Nat) (t:TypeId) (z:List (Option IntKind)),kf P n t=some z->∀ (fuel:Nat) (cs:List Value) (x:DataW H×List MemPlace),DataW.trod enc P w base spare held fuel t cs=some x->dI z cs:=by
 intro n
 induction n with
 | zero=>intro t z h;simp [kf] at h
 | succ n ih=>
  intro t z h fuel cs x hx;unfold kf at h
  split at h
  ·rename_i k hk
   exact Q103
  ·rename_i hk
   exact Q103
  ·rename_i I hk
   split at h
   ·rename_i l hl
    split at h
    ·rename_i Y
     simp at h;subst h;obtain ⟨xs,m,rfl,rfl,a3,a4,Z⟩:=DataW.trod_struct hk hx;have:=yn (P:=P) n cs (fun t z h fuel U x hx=>ih t z h fuel U x hx) I.toList [] l m (by simp [dI]) ?_ hl
     ·rw [<- Y,<- a3,List.take_length] at this;exact this
     ·intro f a1;obtain ⟨E,K,a0⟩:=List.mem_iff_getElem.1 a1
      have W:I[E]?=some f:=by
       rw [<- LV,Lj K,a0]
      have J:=Z E f W
      have a2:E<xs.length:=by rw [a4];simpa using K
      rw [Lj a2] at J;exact ⟨_,J⟩
    ·cases h
   ·cases h
  ·cases h
def vP (w:World) (J:List (Option IntKind)) (bytes:Nat) (v:Value) (L:List (List Value)):Prop:=
 ∃ (z:Option Addr) (h:Nat),v=.slice z L.length h/\L.length<=h/\h<=maxLen/\L.length*bytes<=140737488351232/\(z=none->h=0)/\(∀ U∈L,dI J U)/\
  ∀ K,z=some K->∀ E I,E<L.length->I<J.length->w.cell? (K.add (E*J.length+I))=(L.getD E [])[I]?
theorem yC {a:Addr} {n:Nat} {cs:List Value} (h:w.cells? base a n=some cs):cs.length=n/\∀ j,j<n->w.cell? (a.add j)=cs[j]?:=by
 unfold World.cells? at h
 split at h
 ·have Y:∀ (z:List Nat) (cs:List Value),z.mapM (fun K=>w.cell? (a.add K))=some cs->cs.length=z.length/\∀ j (E:j<z.length),w.cell? (a.add z[j])=cs[j]?:=by
   intro z
   induction z with
   | nil=>intro cs h;simp at h;subst h;simp
   | cons K z ih=>
    intro cs h;simp only [List.mapM_cons,Option.bind_eq_bind,Option.bind_eq_some_iff,Option.pure_def,Option.some.injEq] at h;obtain ⟨v,U,Z,W,rfl⟩:=h;obtain ⟨I,J⟩:=ih Z W;refine ⟨by simp [I],fun j E=>?_⟩
    cases j with
    | zero=>simpa using U
    | succ j=>simpa using J j (by simpa using E)
  obtain ⟨I,J⟩:=Y _ _ h;refine ⟨by simpa using I,fun j E=>?_⟩;have:=J j (by simpa using E);simpa using this
 ·cases h
theorem n9 {t e:TypeId} {ks:List (Option IntKind)} (n:Nat) (ht:P.underlying t=some (.slice e)) (hk:kf P n e=some ks) (hc:P.cellsOf e=ks.length) {fuel:Nat} {cs:List Value}
  {x:DataW H×List MemPlace} (h:DataW.trod enc P w base spare held fuel t cs=some x) (hz:∀ y∈x.1.weights P t,y<=reachBytes):∃ v L,cs=[v]/\vP w ks (P.bytesOf e) v L:=by
 rcases Go.Deep.open_slice ht h with ⟨rfl,rfl⟩|⟨a,len,cap,m,n',D,Pl,rfl,hb,hl,hm,rfl,rfl,hel⟩
 ·exact ⟨_,[],rfl,none,0,rfl,by simp,by unfold maxLen;omega,by simp,fun _=>rfl,by simp,by simp⟩
 ·have hlt:∀ i,i<len->i<(if spare a.block=true then cap else len):=by intro i hi;split<;>omega
  obtain ⟨f,hf⟩:=Go.Deep.choose_lt (α:=List Value) (n:=len) (p:=fun i cs'=>w.cells? base (a.add (i*P.cellsOf e)) (P.cellsOf e)=some cs'/\dI ks cs') (by
   intro i hi;obtain ⟨cs',h1,h2⟩:=hel i (hlt i hi)
   exact ⟨cs',h1,nE n e ks hk _ _ _ h2⟩)
  have hbd:len*P.bytesOf e<=140737488351232:=by
   have h1:=hz ((len+((if spare a.block=true then cap else len) - len))*P.bytesOf e) (by simp [DataW.weights,ht]);have h2:len*P.bytesOf e<=(len+((if spare a.block=true then cap else len) - len))*P.bytesOf e:=Lt _ (by omega);have h3:reachBytes=140737488351232:=by decide
   omega
  refine ⟨_,(List.range len).map f,rfl,some a,cap,by simp,by simpa using hl,hm,by simpa using hbd,by simp,?_,?_⟩
  ·intro c hcm;simp only [LH,List.mem_range] at hcm;obtain ⟨i,hi,rfl⟩:=hcm;exact (hf i hi).2
  ·intro ad had i j hi hj;simp only [Option.some.injEq] at had;subst had;simp only [Lh,List.length_range] at hi;have h1:=(yC (hf i hi).1).2 j (by rw [hc];exact hj);rw [Go.Deep.add_add,hc] at h1;rw [h1];simp [List.getD,hi]
theorem xF {t e:TypeId} {h:List (Option IntKind)} {v:Value} {d:DataW H} {p:List MemPlace} (n:Nat) (E:P.underlying t=some (.slice e)) (W:kf P n e=some h) (K:P.cellsOf e=h.length)
  (Y:Value.okWide P w .any base t v) (I:DataW.Trod enc P w 0 (fun _=>true) true t v d p) (Z:∀ y∈d.weights P t,y<=reachBytes):∃ L,vP w h (P.bytesOf e) v L:=by
 obtain ⟨a0,a2,a1,rfl⟩:=okWide_slice E Y
 obtain ⟨fuel,U⟩:=I
 obtain ⟨v,L,z,J⟩:=n9 n E W K U Z
 simp [Value.cells] at z
 subst z
 exact ⟨L,J⟩
end
def I9 (n:Int):Prop:=-9223372036854775808<=n/\n<=9223372036854775807
theorem lO {n:Int} (h:(Lit.int .i64 n).wf=true):I9 n:=by
 simp [Lit.wf,IntKind.min,IntKind.max,IntKind.signed,IntKind.bits] at h;unfold I9;omega
theorem jB {k:IntKind} {z:List (Option IntKind)} {cs:List Value} (h:dI (some k :: z) cs):∃ n vs,cs=.int k n :: vs/\(Lit.int k n).wf=true/\dI z vs:=by
 cases cs with
 | nil=>simp [dI] at h
 | cons v vs=>simp only [dI] at h;obtain ⟨⟨n,rfl,I⟩,E⟩:=h;exact ⟨n,vs,rfl,I,E⟩
theorem uo {cs:List Value} (h:dI [] cs):cs=[]:=by
 cases cs with
 | nil=>rfl
 | cons v vs=>simp [dI] at h
end
end Go.Proofs.YtennppmadmgfoaaGreatDoor
