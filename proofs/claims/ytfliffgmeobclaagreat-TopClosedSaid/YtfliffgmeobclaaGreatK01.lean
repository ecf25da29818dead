/- Texts of the row's proof. Conditions: none. -/
import Derived.Deep.Slices
import Derived.OpenShut
import Derived.ProofKit
import Derived.ShutString
import Derived.SizedLaws
import Derived.WalkKit
import Derived.Test.YtfliffgmeobclaaGreatChecked
import Derived.Test.YtfliffgmeobclaaGreatRows
namespace Go.Proofs.YtfliffgmeobclaaGreat
set_option maxRecDepth 100000
set_option maxHeartbeats 8000000
section
open Go.RowKit
theorem I3:type_of% @Nat.le_refl:=@Nat.le_refl
theorem I4:type_of% @Nat.zero_le:=@Nat.zero_le
theorem I5:type_of% @List.getElem?_cons_zero:=@List.getElem?_cons_zero
theorem I6:type_of% @List.getElem?_cons_succ:=@List.getElem?_cons_succ
theorem I7:type_of% @List.getElem?_toArray:=@List.getElem?_toArray
theorem I9:type_of% @List.length_map:=@List.length_map
theorem Ia:type_of% @List.take_succ_eq_append_getElem:=@List.take_succ_eq_append_getElem
theorem Ib:type_of% @List.getElem?_eq_getElem:=@List.getElem?_eq_getElem
theorem Ic:type_of% @List.length_append:=@List.length_append
theorem Id:type_of% @Int.toNat_natCast:=@Int.toNat_natCast
theorem Ie:type_of% @List.take_of_length_le:=@List.take_of_length_le
theorem If:type_of% @List.getElem_mem:=@List.getElem_mem
theorem Ig:type_of% @List.length_set:=@List.length_set
theorem Ih:type_of% @Int.eq_ofNat_of_zero_le:=@Int.eq_ofNat_of_zero_le
theorem Ii:type_of% @List.length_take:=@List.length_take
theorem Ij:type_of% @Nat.mul_le_mul_right:=@Nat.mul_le_mul_right
theorem Ik:type_of% @List.getElem?_eq_none:=@List.getElem?_eq_none
theorem Il:type_of% @List.flatten_append:=@List.flatten_append
theorem Im:type_of% @List.mem_cons_self:=@List.mem_cons_self
theorem Io:type_of% @List.take_append_drop:=@List.take_append_drop
theorem Ip:type_of% @List.mem_cons_of_mem:=@List.mem_cons_of_mem
theorem Iq:type_of% @Nat.le_trans:=@Nat.le_trans
theorem Ir:type_of% @List.map_append:=@List.map_append
theorem It:type_of% @List.mem_map:=@List.mem_map
theorem Iu:type_of% @Option.getD_some:=@Option.getD_some
theorem IB:type_of% @List.getElem?_append_left:=@List.getElem?_append_left
theorem IC:type_of% @List.getElem?_append_right:=@List.getElem?_append_right
theorem ID:type_of% @Array.getElem?_toList:=@Array.getElem?_toList
theorem Q116 {p:Prop} (h:p:=by
 simp at h;subst h
 cases fuel with
 | zero=>simp [DataW.trod] at hx
 | succ fuel=>
  unfold DataW.trod at hx;rw [hk] at hx
  split at hx<;>simp_all [dE]):p:=h
end
section
open Go.ChangeShapes Go.WideShapes Go.ChangeAt Go.RowKit
def jQ (P:Program):Nat→TypeId→Option (List (Option IntKind))
 | 0,_=>none
 | n+1,t=>
  match P.underlying t with
  | some (.int k)=>some [some k]
  | some .bool=>some [none]
  | some (.struct fs)=>
   match fs.toList.foldl (fun (nN:Option (List (Option IntKind))) f=>nN.bind fun l=>(jQ P n f.type).bind fun m=>if f.offset=l.length∧P.cellsOf f.type=m.length then some (l++m) else none) (some []) with
   | some l=>if P.cellsOf t=l.length then some l else none
   | none=>none
  | _=>none
def dE:List (Option IntKind)→List Value→Prop
 | [],[]=>True
 | some k :: ks,v :: vs=>(∃ n,v=.int k n∧(Lit.int k n).wf=true)∧dE ks vs
 | none :: ks,v :: vs=>(∃ b,v=.bool b)∧dE ks vs
 | _,_=>False
theorem uB {ks:List (Option IntKind)}:∀ {cs:List Value} {ks':List (Option IntKind)} {cs':List Value},dE ks cs→dE ks' cs'→dE (ks++ks') (cs++cs'):=by
 induction ks with
 | nil=>intro cs ks' cs' h h';cases cs with
  | nil=>simpa using h'
  | cons v vs=>simp [dE] at h
 | cons k ks ih=>intro cs ks' cs' h h';cases cs with
  | nil=>cases k<;>simp [dE] at h
  | cons v vs=>cases k<;>(simp only [dE] at h;simp only [List.cons_append,dE];exact ⟨h.1,ih h.2 h'⟩)
theorem uA {ks:List (Option IntKind)}:∀ {cs:List Value},dE ks cs→cs.length=ks.length:=by
 induction ks with
 | nil=>intro cs h;cases cs with
  | nil=>rfl
  | cons v vs=>simp [dE] at h
 | cons k ks ih=>intro cs h;cases cs with
  | nil=>cases k<;>simp [dE] at h
  | cons v vs=>cases k<;>(simp only [dE] at h;simp [ih h.2])
section
variable {H:Type} {enc:TypeId×Value→H} {P:Program} {w:World} {base:Nat} {spare:Nat→Bool} {held:Bool}
theorem qH (P:Program) (n:Nat) (l:List Field):l.foldl (fun (nN:Option (List (Option IntKind))) f=>nN.bind fun l=>(jQ P n f.type).bind fun m=>if f.offset=l.length∧P.cellsOf f.type=m.length then some (l++m) else none) none=none:=by
 induction l with
 | nil=>rfl
 | cons f l ih=>simpa using ih
theorem wD (n:Nat) (cs:List Value)
  (hrec:∀ t ks,jQ P n t=some ks→∀ (fuel:Nat) (c:List Value) (x:DataW H×List MemPlace),DataW.trod enc P w base spare held fuel t c=some x→dE ks c) :
  ∀ (fs:List Field) (l0 ks:List (Option IntKind)) (fuel:Nat),dE l0 (cs.take l0.length)→
   (∀ f∈fs,∃ x:DataW H×List MemPlace,DataW.trod enc P w base spare held fuel f.type ((cs.drop f.offset).take (P.cellsOf f.type))=some x)→
   fs.foldl (fun (nN:Option (List (Option IntKind))) f=>nN.bind fun l=>(jQ P n f.type).bind fun m=>if f.offset=l.length∧P.cellsOf f.type=m.length then some (l++m) else none) (some l0)=some ks→
   dE ks (cs.take ks.length):=by
 intro fs
 induction fs with
 | nil=>intro l0 ks fuel h _ he;simp at he;subst he;exact h
 | cons f fs ih=>
  intro l0 ks fuel h hf he;simp only [List.foldl_cons,Option.bind_some] at he
  cases hm:jQ P n f.type with
  | none=>rw [hm] at he;simp only [Option.bind_none] at he;rw [qH] at he;cases he
  | some m=>
   rw [hm] at he;simp only [Option.bind_some] at he;by_cases hc:f.offset=l0.length∧P.cellsOf f.type=m.length
   ·rw [if_pos hc] at he;refine ih (l0++m) ks fuel ?_ (fun g hg=>hf g (Ip _ hg)) he;obtain ⟨x,hx⟩:=hf f Im;have h2:=hrec _ _ hm _ _ _ hx;rw [hc.1,hc.2] at h2;rw [Ic,List.take_add];exact uB h h2
   ·rw [if_neg hc,qH] at he
    cases he
theorem mJ:∀ (n:Nat) (t:TypeId) (ks:List (Option IntKind)),jQ P n t=some ks→∀ (fuel:Nat) (cs:List Value) (x:DataW H×List MemPlace),DataW.trod enc P w base spare held fuel t cs=some x→dE ks cs:=by
 intro n
 induction n with
 | zero=>intro t ks h;simp [jQ] at h
 | succ n ih=>
  intro t ks h fuel cs x hx;unfold jQ at h
  split at h
  ·rename_i k hk
   exact Q116
  ·rename_i hk
   exact Q116
  ·rename_i fs hk
   split at h
   ·rename_i l hl
    split at h
    ·rename_i hcl
     simp at h;subst h;obtain ⟨xs,m,rfl,rfl,hlen,hxl,hf⟩:=DataW.trod_struct hk hx;have:=wD (P:=P) n cs (fun t ks h fuel c x hx=>ih t ks h fuel c x hx) fs.toList [] l m (by simp [dE]) ?_ hl
     ·rw [← hcl,← hlen,List.take_length] at this;exact this
     ·intro f hfm;obtain ⟨i,hi,hfi⟩:=List.mem_iff_getElem.1 hfm
      have h1:fs[i]?=some f:=by
       rw [← ID,Ib hi,hfi]
      have h2:=hf i f h1
      have hi':i<xs.length:=by rw [hxl];simpa using hi
      rw [Ib hi'] at h2;exact ⟨_,h2⟩
    ·cases h
   ·cases h
  ·cases h
def ur (w:World) (ks:List (Option IntKind)) (bytes:Nat) (v:Value) (L:List (List Value)):Prop:=
 ∃ (a:Option Addr) (cap:Nat),v=.slice a L.length cap∧L.length≤cap∧cap≤maxLen∧L.length*bytes≤140737488351232∧(a=none→cap=0)∧(∀ c∈L,dE ks c)∧
  ∀ ad,a=some ad→∀ i j,i<L.length→j<ks.length→w.cell? (ad.add (i*ks.length+j))=(L.getD i [])[j]?
theorem wP {a:Addr} {n:Nat} {cs:List Value} (h:w.cells? base a n=some cs):cs.length=n∧∀ j,j<n→w.cell? (a.add j)=cs[j]?:=by
 unfold World.cells? at h
 split at h
 ·have key:∀ (l:List Nat) (cs:List Value),l.mapM (fun i=>w.cell? (a.add i))=some cs→cs.length=l.length∧∀ j (hj:j<l.length),w.cell? (a.add l[j])=cs[j]?:=by
   intro l
   induction l with
   | nil=>intro cs h;simp at h;subst h;simp
   | cons i l ih=>
    intro cs h;simp only [List.mapM_cons,Option.bind_eq_bind,Option.bind_eq_some_iff,Option.pure_def,Option.some.injEq] at h;obtain ⟨v,hv,vs,hvs,rfl⟩:=h;obtain ⟨h1,h2⟩:=ih vs hvs;refine ⟨by simp [h1],fun j hj=>?_⟩
    cases j with
    | zero=>simpa using hv
    | succ j=>simpa using h2 j (by simpa using hj)
  obtain ⟨h1,h2⟩:=key _ _ h;refine ⟨by simpa using h1,fun j hj=>?_⟩;have:=h2 j (by simpa using hj);simpa using this
 ·cases h
theorem mw {t e:TypeId} {ks:List (Option IntKind)} (n:Nat) (ht:P.underlying t=some (.slice e)) (hk:jQ P n e=some ks) (hc:P.cellsOf e=ks.length) {fuel:Nat} {cs:List Value}
  {x:DataW H×List MemPlace} (h:DataW.trod enc P w base spare held fuel t cs=some x) (hz:∀ y∈x.1.weights P t,y≤reachBytes):∃ v L,cs=[v]∧ur w ks (P.bytesOf e) v L:=by
 rcases Go.Deep.open_slice ht h with ⟨rfl,rfl⟩|⟨a,len,cap,m,n',D,Pl,rfl,hb,hl,hm,rfl,rfl,hel⟩
 ·exact ⟨_,[],rfl,none,0,rfl,by simp,by unfold maxLen;omega,by simp,fun _=>rfl,by simp,by simp⟩
 ·have hlt:∀ i,i<len→i<(if spare a.block=true then cap else len):=by intro i hi;split<;>omega
  obtain ⟨f,hf⟩:=Go.Deep.choose_lt (α:=List Value) (n:=len) (p:=fun i cs'=>w.cells? base (a.add (i*P.cellsOf e)) (P.cellsOf e)=some cs'∧dE ks cs') (by
   intro i hi;obtain ⟨cs',h1,h2⟩:=hel i (hlt i hi)
   exact ⟨cs',h1,mJ n e ks hk _ _ _ h2⟩)
  have hbd:len*P.bytesOf e≤140737488351232:=by
   have h1:=hz ((len+((if spare a.block=true then cap else len) - len))*P.bytesOf e) (by simp [DataW.weights,ht]);have h2:len*P.bytesOf e≤(len+((if spare a.block=true then cap else len) - len))*P.bytesOf e:=Ij _ (by omega);have h3:reachBytes=140737488351232:=by decide
   omega
  refine ⟨_,(List.range len).map f,rfl,some a,cap,by simp,by simpa using hl,hm,by simpa using hbd,by simp,?_,?_⟩
  ·intro c hcm;simp only [It,List.mem_range] at hcm;obtain ⟨i,hi,rfl⟩:=hcm;exact (hf i hi).2
  ·intro ad had i j hi hj;simp only [Option.some.injEq] at had;subst had;simp only [I9,List.length_range] at hi;have h1:=(wP (hf i hi).1).2 j (by rw [hc];exact hj);rw [Go.Deep.add_add,hc] at h1;rw [h1];simp [List.getD,hi]
theorem vy {t e:TypeId} {ks:List (Option IntKind)} {v:Value} {d:DataW H} {p:List MemPlace} (n:Nat) (ht:P.underlying t=some (.slice e)) (hk:jQ P n e=some ks) (hc:P.cellsOf e=ks.length)
  (hv:Value.okWide P w .any base t v) (h:DataW.Trod enc P w 0 (fun _=>true) true t v d p) (hz:∀ y∈d.weights P t,y≤reachBytes):∃ L,ur w ks (P.bytesOf e) v L:=by
 obtain ⟨a0,len,cap,rfl⟩:=okWide_slice ht hv
 obtain ⟨fuel,hf⟩:=h
 obtain ⟨v,L,hcs,hL⟩:=mw n ht hk hc hf hz
 simp [Value.cells] at hcs
 subst hcs
 exact ⟨L,hL⟩
end
def EJ (n:Int):Prop:=-9223372036854775808≤n∧n≤9223372036854775807
theorem kW {n:Int} (h:(Lit.int .i64 n).wf=true):EJ n:=by
 simp [Lit.wf,IntKind.min,IntKind.max,IntKind.signed,IntKind.bits] at h;unfold EJ;omega
theorem jt {k:IntKind} {ks:List (Option IntKind)} {cs:List Value} (h:dE (some k :: ks) cs):∃ n vs,cs=.int k n :: vs∧(Lit.int k n).wf=true∧dE ks vs:=by
 cases cs with
 | nil=>simp [dE] at h
 | cons v vs=>simp only [dE] at h;obtain ⟨⟨n,rfl,hw⟩,h2⟩:=h;exact ⟨n,vs,rfl,hw,h2⟩
theorem sW {cs:List Value} (h:dE [] cs):cs=[]:=by
 cases cs with
 | nil=>rfl
 | cons v vs=>simp [dE] at h
end
end Go.Proofs.YtfliffgmeobclaaGreat
