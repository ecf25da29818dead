/- Texts of the row's proof. Conditions: none. -/
import Derived.Laws.AppendOwnNone
import Derived.Test.YtennppmadmgfoaaGreatDoorK05
namespace Go.Proofs.YtennppmadmgfoaaGreatDoor
open Proofs.Tryz
set_option maxRecDepth 100000
set_option maxHeartbeats 8000000
section
open Go.RowKit
theorem Q17 {p:Prop} (h:p:=by
 intro v' w1 hown hgrow _
 try simp only [Nat.zero_add,List.nil_append] at hown
 have B:Hid (Below w.heap.size w w1):=((KM _ _).alloc (KY _) _).trans ((KM _ _).grown hgrow (by simp) (by intro k hk;simp [Value.ownBlock] at hk;omega));have HO:=KL hown;clear hown hgrow;go_wp2;go_ret;exact ⟨_,rfl,HO.out,B.out⟩):p:=h
theorem Q19 {p:Prop} (h:p:=by
 intro C k u hu
 have hX:X≠[]:=by intro hX;subst hX;simp at hu
 obtain ⟨b,off,hab,_,hcell⟩:=h4 (by simpa using hX);simp only [Option.some.injEq] at hab;subst hab;have h:=Au (by decide) hlen hcell k u hu;rw [Go.WideShapes.add_plain] at h ⊢;exact aI _ h):p:=h
theorem Q39 {p:Prop} (h:p:=by
 go_wp2
 all_goals first|(go_ret;exact ⟨_,rfl,LJ _ _ _ _,KM _ _⟩)|exact Zx):p:=h
theorem Q42 {p:Prop} (h:p:=by
 exact (by refine aJ (B:=w1.heap.size) ?_ Zs;repeat (first|(with_reducible exact R2.out)|(with_reducible refine aD ?_ Zs _)|(with_reducible refine cX ?_ _)|(with_reducible refine dY ?_ _)))):p:=h
theorem Q58 {p:Prop} (h:p:=by
 simp [Fl.cells] at hu;rcases hu with rfl|rfl|rfl|rfl|rfl|rfl|rfl<;>rfl):p:=h
theorem Q96 {p:Prop} (h:p:=by
 intro u hu;simp only [List.mem_flatten,LH] at hu;obtain ⟨c,⟨x,_,rfl⟩,hu⟩:=hu;simp [Lf.cells] at hu;rcases hu with rfl|rfl|rfl|rfl|rfl|rfl<;>rfl):p:=h
theorem Q106 {p:Prop} (h:p:=by
 obtain ⟨h1,h2|⟨g,cap,cur,h3,h4,h5,h6⟩⟩:=h
 ·exact ⟨h1,Or.inl h2⟩
 ·exact ⟨h1,Or.inr ⟨g,cap,cur,h3,Lz hB h4,h5,h6⟩⟩):p:=h
theorem xX:(prog.info? 184).map (fun i=>(i.zero,i.size,i.bytes))=some (some (.agg #[.int .i64 0,.int .i64 0]),2,16):=by kernel_rfl
theorem ir (X:List Tm):∀ c∈X.map (fun x=>Tm.cells (x)),c.length=2:=by
 exact Q28
theorem uW (X:List Tm):∀ u∈(X.map (fun x=>Tm.cells (x))).flatten,u.oneCell'=true:=by
 intro u h;simp only [List.mem_flatten,LH] at h;obtain ⟨z,⟨x,_,rfl⟩,h⟩:=h;simp [Tm.cells] at h;rcases h with rfl|rfl<;>rfl
theorem vA (v:Value) (X:List Tm) (w:World) (r:aK w 2 v (X.map (fun x=>Tm.cells (x)))) (hb:X.length*16<=140737488351232) :
  Calls prog 60 #[v] w (gP w 184 2 X.length (X.map (fun x=>Tm.cells (x))).flatten):=by
 obtain ⟨i0,hi,a1,a2,a3⟩:=info_parts xX
 have hlen:=ir X
 have Z:=uW X
 obtain ⟨a,a0,rfl,J,U,z,h4⟩:=r
 simp only [Lh] at J ⊢
 cases a with
 | none=>
  have hX:X=[]:=List.length_eq_zero_iff.1 (by have:=z rfl;omega);have hc:=z rfl;subst hX hc;clear J U z h4;have a4:=fun (w:World) (K I:Nat)=>Lib.run_eql_slice_nil (P:=prog) w 181 184 none K I 0 0 underlying181;go_in;exact Q39
 | some ad=>
  have Y:∀ (C:Obj) k u,(X.map (fun x=>Tm.cells (x))).flatten[k]?=some u->(w.alloc C).cell? (ad.add k)=some u:=by
   exact Q19
  have W:(X.map (fun x=>Tm.cells (x))).flatten.length=X.length*2:=by rw [aP hlen,Lh]
  have E:=KL (And.intro hlen (And.intro Z (And.intro Y W)));clear hlen Z Y W J U z h4;have a4:=fun (w:World) (K I:Nat)=>Lib.run_eql_slice_nil (P:=prog) w 181 184 (some ad) K I 0 0 underlying181;go_in;go_wp2_with (at_builtin;go_loud (refine wpList_append_own _ rfl _ _ 181 rfl w.heap.size 184 i0 (.agg #[.int .i64 0,.int .i64 0]) 2 16 underlying181 hi a1 a2 a3 rfl (by decide) _ 0 [] rfl (gI w 184 2) ad X.length a0 ((X.map (fun x=>Tm.cells (x))).flatten) rfl E.out.2.2.2 (E.out.2.2.1 _) E.out.2.1 ?c1 ?c2 ?c3 ?_))
  case c1=>unfold maxLen;omega
  case c2=>omega
  case c3=>simp
  exact Q17
def lQ (w:World) (v:Value) (LL:List (List Tm)):Prop:=∃ V:List Value,V.length=LL.length/\aK w 1 v (V.map fun x=>[x])/\∀ i,i<LL.length->aK w 2 (V.getD i undef) ((LL.getD i []).map Tm.cells)
theorem eo {w w':World} {v:Value} {LL:List (List Tm)} (z:lQ w v LL) (h:Below w.heap.size w w'):lQ w' v LL:=by
 obtain ⟨V,E,I,J⟩:=z;exact ⟨V,E,aq I h,fun U K=>aq (J U K) h⟩
def LsNew (B:Nat) (w:World) (v:Value) (LL:List (List Tm)):Prop:=∃ V:List Value,V.length=LL.length/\aN B w 1 v (V.map fun x=>[x])/\∀ i,i<LL.length->aN B w 2 (V.getD i undef) ((LL.getD i []).map Tm.cells)
theorem LsNew.at_ {B:Nat} {w:World} {v:Value} {LL:List (List Tm)} (h:LsNew B w v LL):lQ w v LL:=by
 obtain ⟨V,z,E,I⟩:=h;exact ⟨V,z,E.1,fun K J=>(I K J).1⟩
theorem mN {B B':Nat} {w:World} {v:Value} {LL:List (List Tm)} (z:LsNew B w v LL) (h:B'<=B):LsNew B' w v LL:=by
 obtain ⟨V,E,I,J⟩:=z;exact ⟨V,E,aJ I h,fun U K=>aJ (J U K) h⟩
theorem bL {w:World} {v:Value} {LL:List (List Tm)} (z:lQ w v LL):∃ a cap,v=.slice a LL.length cap:=by
 obtain ⟨V,E,I,_⟩:=z;obtain ⟨a,h,rfl,_⟩:=ap (f:=fun J:Value=>[J]) I;exact ⟨a,h,by rw [E]⟩
theorem aZ {w w':World} {B sz n:Nat} {t:TypeId} {v:Value} {cs:List Value} (J:w.ownsRow B t sz v n cs) (Z:∀ b,v.ownBlock=some b->w'.heap[b]?=w.heap[b]?):w'.ownsRow B t sz v n cs:=by
 obtain ⟨z,K|⟨h,E,I,rfl,U,W,Y⟩⟩:=J
 ·exact ⟨z,Or.inl K⟩
 ·exact ⟨z,Or.inr ⟨h,E,I,rfl,U,(Z h rfl).trans W,Y⟩⟩
theorem oK {w:World} {B B' sz n:Nat} {t:TypeId} {v:Value} {cs:List Value} (h:w.ownsRow B t sz v n cs) (hB:B'<=B):w.ownsRow B' t sz v n cs:=by
 exact Q106
def eP (B:Nat) (w:World) (v:Value) (LL:List (List Tm)) (V:List Value):Prop:=V.length=LL.length/\w.ownsRow B 181 1 v LL.length V/\
 (∀ i,i<LL.length->w.ownsRow B 184 2 (V.getD i undef) (LL.getD i []).length ((LL.getD i []).map Tm.cells).flatten)/\
 (∀ i,i<LL.length->∀ b,(V.getD i undef).ownBlock=some b->v.ownBlock≠some b)/\
 (∀ i j,i<j->j<LL.length->∀ b,(V.getD i undef).ownBlock=some b->(V.getD j undef).ownBlock≠some b)
theorem uk (B:Nat) (w:World):eP B w (.slice none 0 0) [] []:=⟨rfl,LJ _ _ _ _,by simp,by simp,by simp⟩
theorem ee {B:Nat} {w w':World} {v:Value} {LL:List (List Tm)} {V:List Value} (U:eP B w v LL V) (K:∀ b,B<=b->b<w.heap.size->w'.heap[b]?=w.heap[b]?):eP B w' v LL V:=by
 obtain ⟨W,z,E,Y,Z⟩:=U;exact ⟨W,aZ z (fun b h=>K b (z.lt b h).1 (z.lt b h).2),fun J I=>aZ (E J I) (fun b h=>K b ((E J I).lt b h).1 ((E J I).lt b h).2),Y,Z⟩
theorem cB {B:Nat} {w w':World} {v:Value} {LL:List (List Tm)} {V:List Value} (h:eP B w v LL V) (z:Below w.heap.size w w'):eP B w' v LL V:=ee h (fun b _ E=>z.block b E)
theorem Aw {B B':Nat} {w:World} {v:Value} {LL:List (List Tm)} {V:List Value} (z:eP B w v LL V) (h:B'<=B):eP B' w v LL V:=by
 obtain ⟨E,I,J,K,U⟩:=z;exact ⟨E,oK I h,fun Y W=>oK (J Y W) h,K,U⟩
theorem gm {α:Type} {V:List α} {x d:α} {i:Nat} (h:i<V.length):(V++[x]).getD i d=V.getD i d:=by simp [List.getD,LR h]
theorem iy {α:Type} {V:List α} {x d:α}:(V++[x]).getD V.length d=x:=by simp [List.getD]
theorem Av {B:Nat} {w w1 I w3:World} {v v' x:Value} {LL:List (List Tm)} {L:List Tm} {V:List Value} (K:eP B w v LL V) (hB:B<=w.heap.size) (a1:Below w.heap.size w w1) (Z:w1.ownsRow w.heap.size 184 2 x L.length (L.map Tm.cells).flatten)
  (a0:Below w1.heap.size w1 I) (a3:w3.ownsRow B 181 1 v' (LL.length+1) (V++[x])) (hg:I.grownBy w3 v.ownBlock) (a4:v'.ownBlock=v.ownBlock\/v'.ownBlock=some I.heap.size):eP B w3 v' (LL++[L]) (V++[x]):=by
 obtain ⟨h1,h2,U,h4,h5⟩:=K
 have s1:=a1.size
 have s2:=a0.size
 have keep:∀ b,b<I.heap.size->v.ownBlock≠some b->w3.heap[b]?=I.heap[b]?:=fun b h a8=>hg.block b h (fun J=>a8 J.symm)
 have a9:∀ b,b<w.heap.size->I.heap[b]?=w.heap[b]?:=fun b h=>(a0.block b (by omega)).trans (a1.block b h)
 have a2:∀ b,v.ownBlock=some b->b<w.heap.size:=fun b h=>(h2.lt b h).2
 have hV:V.length=LL.length:=h1
 refine ⟨by simp [h1],by rw [Ll];exact a3,fun z hi=>?_,fun z hi b h Y=>?_,fun z j a6 hj b h W=>?_⟩
 ·rw [Ll,List.length_singleton] at hi;rcases (show z<LL.length\/z=LL.length by omega) with E|rfl
  ·rw [gm (by omega),gm E]
   exact aZ (U z E) fun b h=>by
    have:=((U z E).lt b h).2;rw [keep b (by omega) (h4 z E b h),a9 b this]
  ·rw [iy,<- hV,iy];refine oK (aZ Z fun b h=>?_) hB;have:=Z.lt b h;rw [keep b (by omega) (fun J=>by have:=a2 b J;omega)];exact a0.block b this.2
 ·rw [Ll,List.length_singleton] at hi
  have a5:b<I.heap.size/\v.ownBlock≠some b:=by
   rcases (show z<LL.length\/z=LL.length by omega) with E|rfl
   ·rw [gm (by omega)] at h;have:=((U z E).lt b h).2;exact ⟨by omega,h4 z E b h⟩
   ·rw [<- hV,iy] at h;have:=Z.lt b h;exact ⟨by omega,fun J=>by have:=a2 b J;omega⟩
  rcases a4 with K|K
  ·rw [K] at Y;exact a5.2 Y
  ·rw [K] at Y;injection Y with J;omega
 ·rw [Ll,List.length_singleton] at hj;rw [gm (by omega)] at h;have aa:=((U z (by omega)).lt b h).2;rcases (show j<LL.length\/j=LL.length by omega) with a7|rfl
  ·rw [gm (by omega)] at W;exact h5 z j a6 a7 b h W
  ·rw [<- hV,iy] at W;have:=Z.lt b W;omega
theorem mS:∀ V:List Value,(V.map fun x=>[x]).flatten=V
 | []=>rfl
 | x :: V=>by simpa using mS V
theorem gM {B:Nat} {w:World} {v:Value} {LL:List (List Tm)} {V:List Value} (E:eP B w v LL V):LsNew B w v LL:=by
 obtain ⟨h,I,J,_⟩:=E;refine ⟨V,h,aG (e:=181) (n:=LL.length) ?_ (by rw [Lh];exact h) (by intro W z;simp only [LH] at z;obtain ⟨Y,_,rfl⟩:=z;rfl),fun U K=>aG (J U K) (by rw [Lh]) (ir _)⟩;rw [mS];exact I
theorem ur {P:Program} (w:World) {o:Oper} {a:Act} {E:Act->World->Prop} {Q:Exit->Act->World->Prop} (s x:Operand) (t:TypeId)
  (ho:o.op=.call { callee:=.builtin .append,args:=#[s,x],argTypes:=#[t,t] })
  (base:Nat) (e:TypeId) (i:TypeInfo) (z:Value) (size bytes:Nat) (ht:P.underlying t=some (.slice e)) (hi:P.info? e=some i) (hz:i.zero=some z)
  (a4:i.size=size) (a0:i.bytes=bytes) (a6:z.cells.size=size) (a5:0<size)
  (v:Value) (n:Nat) (xs:List Value) (hs:a.eval s=v) (a3:w.ownsRow base e size v n xs)
  (h:Addr) (m c:Nat) (news:List Value) (hx:a.eval x=.slice (some h) m c) (hl:news.length=m*size) (a2:∀ j u,news[j]?=some u->w.cell? (h.add j)=some u) (J:∀ u∈news,u.oneCell'=true)
  (Y:n+m<=maxLen) (a1:(n+m)*bytes<=140737488355328) (Z:base<=w.heap.size)
  (I:∀ v' w',w'.ownsRow base e size v' (n+m) (xs++news)->w.grownBy w' v.ownBlock->(v'.ownBlock=v.ownBlock\/v'.ownBlock=some w.heap.size)->E (a.put o.dst v') w') :
  o.wp P a w E Q:=by
 obtain ⟨v',w',hr,K,U,_,W⟩:=run_append_own_at (P:=P) w base t o.type e i z size bytes ht hi hz a4 a0 a6 a5 v n xs a3 h m c news hl a2 J Y a1 Z
 unfold Oper.wp execOp
 simp only [ho,resolve,invoke,builtin,Sem.run_bind,Sem.run_pure,Result.andThen_ok,List.map_toArray,List.map_cons,List.map_nil,hs,hx,hr]
 exact I v' w' K U W
theorem Ga:(prog.info? 173).map (fun i=>(i.zero,i.size,i.bytes))=some (some (.agg #[.int .i64 0,.int .i64 0,.int .i64 0,.int .i64 0,.int .i64 0,.int .i64 0]),6,48):=by kernel_rfl
theorem Bm (X:List Lf):∀ c∈X.map (fun x=>Lf.cells (x)),c.length=6:=by
 exact Q28
theorem J0 (X:List Lf):∀ u∈(X.map (fun x=>Lf.cells (x))).flatten,u.oneCell'=true:=by
 exact Q96
theorem vF (v:Value) (X:List Lf) (w:World) (r:aK w 6 v (X.map (fun x=>Lf.cells (x)))) (hb:X.length*48<=140737488351232) :
  Calls prog 56 #[v] w (gP w 173 6 X.length (X.map (fun x=>Lf.cells (x))).flatten):=by
 obtain ⟨i0,hi,a1,a2,a3⟩:=info_parts Ga
 have hlen:=Bm X
 have Z:=J0 X
 obtain ⟨a,a0,rfl,J,U,z,h4⟩:=r
 simp only [Lh] at J ⊢
 cases a with
 | none=>
  have hX:X=[]:=List.length_eq_zero_iff.1 (by have:=z rfl;omega);have hc:=z rfl;subst hX hc;clear J U z h4;have a4:=fun (w:World) (K I:Nat)=>Lib.run_eql_slice_nil (P:=prog) w 42 173 none K I 0 0 underlying42;go_in;exact Q39
 | some ad=>
  have Y:∀ (C:Obj) k u,(X.map (fun x=>Lf.cells (x))).flatten[k]?=some u->(w.alloc C).cell? (ad.add k)=some u:=by
   exact Q19
  have W:(X.map (fun x=>Lf.cells (x))).flatten.length=X.length*6:=by rw [aP hlen,Lh]
  have E:=KL (And.intro hlen (And.intro Z (And.intro Y W)));clear hlen Z Y W J U z h4;have a4:=fun (w:World) (K I:Nat)=>Lib.run_eql_slice_nil (P:=prog) w 42 173 (some ad) K I 0 0 underlying42;go_in;go_wp2_with (at_builtin;go_loud (refine wpList_append_own _ rfl _ _ 42 rfl w.heap.size 173 i0 (.agg #[.int .i64 0,.int .i64 0,.int .i64 0,.int .i64 0,.int .i64 0,.int .i64 0]) 6 48 underlying42 hi a1 a2 a3 rfl (by decide) _ 0 [] rfl (gI w 173 6) ad X.length a0 ((X.map (fun x=>Lf.cells (x))).flatten) rfl E.out.2.2.2 (E.out.2.2.1 _) E.out.2.1 ?c1 ?c2 ?c3 ?_))
  case c1=>unfold maxLen;omega
  case c2=>omega
  case c3=>simp
  exact Q17
theorem FZ:(prog.info? 176).map (fun i=>(i.zero,i.size,i.bytes))=some (some (.agg #[.int .i64 0,.int .i64 0,.int .i64 0,.int .i64 0,.int .i64 0]),5,40):=by kernel_rfl
theorem Bk (X:List Rq):∀ c∈X.map (fun x=>Rq.cells (x)),c.length=5:=by
 exact Q28
theorem IZ (X:List Rq):∀ u∈(X.map (fun x=>Rq.cells (x))).flatten,u.oneCell'=true:=by
 intro u h;simp only [List.mem_flatten,LH] at h;obtain ⟨z,⟨x,_,rfl⟩,h⟩:=h;simp [Rq.cells] at h;rcases h with rfl|rfl|rfl|rfl|rfl<;>rfl
theorem vE (v:Value) (X:List Rq) (w:World) (r:aK w 5 v (X.map (fun x=>Rq.cells (x)))) (hb:X.length*40<=140737488351232) :
  Calls prog 57 #[v] w (gP w 176 5 X.length (X.map (fun x=>Rq.cells (x))).flatten):=by
 obtain ⟨i0,hi,a1,a2,a3⟩:=info_parts FZ
 have hlen:=Bk X
 have Z:=IZ X
 obtain ⟨a,a0,rfl,J,U,z,h4⟩:=r
 simp only [Lh] at J ⊢
 cases a with
 | none=>
  have hX:X=[]:=List.length_eq_zero_iff.1 (by have:=z rfl;omega);have hc:=z rfl;subst hX hc;clear J U z h4;have a4:=fun (w:World) (K I:Nat)=>Lib.run_eql_slice_nil (P:=prog) w 43 176 none K I 0 0 underlying43;go_in;exact Q39
 | some ad=>
  have Y:∀ (C:Obj) k u,(X.map (fun x=>Rq.cells (x))).flatten[k]?=some u->(w.alloc C).cell? (ad.add k)=some u:=by
   exact Q19
  have W:(X.map (fun x=>Rq.cells (x))).flatten.length=X.length*5:=by rw [aP hlen,Lh]
  have E:=KL (And.intro hlen (And.intro Z (And.intro Y W)));clear hlen Z Y W J U z h4;have a4:=fun (w:World) (K I:Nat)=>Lib.run_eql_slice_nil (P:=prog) w 43 176 (some ad) K I 0 0 underlying43;go_in;go_wp2_with (at_builtin;go_loud (refine wpList_append_own _ rfl _ _ 43 rfl w.heap.size 176 i0 (.agg #[.int .i64 0,.int .i64 0,.int .i64 0,.int .i64 0,.int .i64 0]) 5 40 underlying43 hi a1 a2 a3 rfl (by decide) _ 0 [] rfl (gI w 176 5) ad X.length a0 ((X.map (fun x=>Rq.cells (x))).flatten) rfl E.out.2.2.2 (E.out.2.2.1 _) E.out.2.1 ?c1 ?c2 ?c3 ?_))
  case c1=>unfold maxLen;omega
  case c2=>omega
  case c3=>simp
  exact Q17
theorem zT:(prog.info? 4).map (fun i=>(i.zero,i.size,i.bytes))=some (some (.bool false),1,1):=by kernel_rfl
theorem ls (X:List Bool):∀ c∈X.map (fun x=>[Value.bool (x)]),c.length=1:=by
 exact Q28
theorem CI (X:List Bool):∀ u∈(X.map (fun x=>[Value.bool (x)])).flatten,u.oneCell'=true:=by
 intro u h;simp only [List.mem_flatten,LH] at h;obtain ⟨z,⟨x,_,rfl⟩,h⟩:=h;simp [] at h;subst h
 rfl
theorem jz (v:Value) (X:List Bool) (w:World) (r:aK w 1 v (X.map (fun x=>[Value.bool (x)]))) (hb:X.length*1<=140737488351232) :
  Calls prog 59 #[v] w (gP w 4 1 X.length (X.map (fun x=>[Value.bool (x)])).flatten):=by
 obtain ⟨i0,hi,a1,a2,a3⟩:=info_parts zT
 have hlen:=ls X
 have Z:=CI X
 obtain ⟨a,a0,rfl,J,U,z,h4⟩:=r
 simp only [Lh] at J ⊢
 cases a with
 | none=>
  have hX:X=[]:=List.length_eq_zero_iff.1 (by have:=z rfl;omega);have hc:=z rfl;subst hX hc;clear J U z h4;have a4:=fun (w:World) (K I:Nat)=>Lib.run_eql_slice_nil (P:=prog) w 30 4 none K I 0 0 underlying30;go_in;exact Q39
 | some ad=>
  have Y:∀ (C:Obj) k u,(X.map (fun x=>[Value.bool (x)])).flatten[k]?=some u->(w.alloc C).cell? (ad.add k)=some u:=by
   exact Q19
  have W:(X.map (fun x=>[Value.bool (x)])).flatten.length=X.length*1:=by rw [aP hlen,Lh]
  have E:=KL (And.intro hlen (And.intro Z (And.intro Y W)));clear hlen Z Y W J U z h4;have a4:=fun (w:World) (K I:Nat)=>Lib.run_eql_slice_nil (P:=prog) w 30 4 (some ad) K I 0 0 underlying30;go_in;go_wp2_with (at_builtin;go_loud (refine wpList_append_own _ rfl _ _ 30 rfl w.heap.size 4 i0 (.bool false) 1 1 underlying30 hi a1 a2 a3 rfl (by decide) _ 0 [] rfl (gI w 4 1) ad X.length a0 ((X.map (fun x=>[Value.bool (x)])).flatten) rfl E.out.2.2.2 (E.out.2.2.1 _) E.out.2.1 ?c1 ?c2 ?c3 ?_))
  case c1=>unfold maxLen;omega
  case c2=>omega
  case c3=>simp
  exact Q17
def Hz (w:World) (M:List Bool) (z:Bool) (u t:Int) (h:Bool) (code:Int) (e:Ending) (w':World):Prop:=∃ v,e=.returned (.tuple #[.agg #[v,.bool z,.int .i64 u,.int .i64 t],.bool h,.int .i64 code])/\aN w.heap.size w' 1 v (cN M)/\Below w.heap.size w w'
theorem fC {w:World} {v:Value} {M:List Bool} (z:aK w 1 v (cN M)):∃ a h,v=.slice a M.length h/\(a=none->M=[]):=ap z
def Cb (a b c:Int) (M:List Bool) (h:Bool) (u t now:Int) (z:List Bool) (I:Bool) (K J:Int) (E:Bool) (code:Int):Prop:=
 gv a b c M.length h u t now code/\((code≠0/\z=[]/\I=false/\K=0/\J=0/\E=false)\/(code=0/\h=true/\u<=now/\z=M/\I=false/\K=0/\J=t/\E=true)\/(code=0/\(h=false\/(h=true/\now<u))/\z=M/\I=h/\K=u/\J=t/\E=false))
theorem rk (a b c:Int) (M:List Bool) (ak:Bool) (u t now:Int) (E:List Bool) (al:Bool) (u' t':Int) (a4:Bool) (code:Int) (v:Value) (w:World) (r:aK w 1 v (cN M)) (hn:M.length<=140737488351232) (h:Cb a b c M ak u t now E al u' t' a4 code) :
  Calls prog 51 #[.agg #[.int .i64 a,.int .i64 b,.int .i64 c],.agg #[v,.bool ak,.int .i64 u,.int .i64 t],.int .i64 now] w (Hz w E al u' t' a4 code):=by
 obtain ⟨hc,h⟩:=h
 have R:=KL r
 have HC:=KL hc
 obtain ⟨ad,cp,rfl,_⟩:=fC r
 clear r hc
 rcases h with ⟨h0,rfl,rfl,rfl,rfl,rfl⟩|⟨rfl,rfl,hu,rfl,rfl,rfl,rfl,rfl⟩|⟨rfl,ho,rfl,rfl,rfl,rfl,rfl⟩
 ·have e1:(code != 0)=true:=by simpa using h0
  clear h0;go_in;go_wp2_with (go_at_call 93;refine (iO _ _ _ _ _ _ _ _ _ _ _ _ HC.out).mono ?_;rintro W w1 ⟨rfl,z⟩;obtain ⟨a0,a1⟩:=aX z;have a3:=fX z;have U:=z.size;(try simp at U));refine LN (v:=.tuple #[.agg #[.slice none 0 0,.bool false,.int .i64 0,.int .i64 0],.bool false,.int .i64 code]) ?_ rfl ⟨_,rfl,bH _ _ _,Zb⟩;simp [results,results51,go_sem, *]
 ·go_in;go_wp2_with (go_at_call 93;refine (iO _ _ _ _ _ _ _ _ _ _ _ _ HC.out).mono ?_;rintro W w1 ⟨rfl,z⟩;obtain ⟨a0,a1⟩:=aX z;have a3:=fX z;have U:=z.size;(try simp at U));(try have a9:w.heap.size<w1.heap.size:=by omega);(try have aa:w.heap.size+1<w1.heap.size:=by omega);(try have ab:w.heap.size+1+1<w1.heap.size:=by omega);refine (jz _ E _ (aq (ai (ai (ai R.out _) _) _) z) (by omega)).mono ?_;rintro W I ⟨v2,rfl,K,J⟩;have R2:Hid (aN w1.heap.size I 1 v2 (cN E)):=aG K (Lh ..) (ls E);obtain ⟨Y,Z,rfl,_⟩:=fC R2.out.1;obtain ⟨a5,a6⟩:=aX J;have a8:=fX J;have a7:=J.size;(try have ac:w.heap.size<I.heap.size:=by omega);(try have af:w.heap.size+1<I.heap.size:=by omega);(try have ag:w.heap.size+1+1<I.heap.size:=by omega);clear K;go_wp2;refine LN (v:=.tuple #[.agg #[.slice Y E.length Z,.bool false,.int .i64 0,.int .i64 t'],.bool true,.int .i64 0]) ?_ rfl ⟨_,rfl,?_,Zb⟩
  ·simp [results,results51,go_sem, *]
  ·exact Q42
 ·rcases ho with rfl|⟨rfl,hu⟩
  ·go_in;go_wp2_with (go_at_call 93;refine (iO _ _ _ _ _ _ _ _ _ _ _ _ HC.out).mono ?_;rintro W w1 ⟨rfl,z⟩;obtain ⟨a0,a1⟩:=aX z;have a3:=fX z;have U:=z.size;(try simp at U));(try have a9:w.heap.size<w1.heap.size:=by omega);(try have aa:w.heap.size+1<w1.heap.size:=by omega);(try have ab:w.heap.size+1+1<w1.heap.size:=by omega);refine (jz _ E _ (aq (ai (ai (ai R.out _) _) _) z) (by omega)).mono ?_;rintro W I ⟨v2,rfl,K,J⟩;have R2:Hid (aN w1.heap.size I 1 v2 (cN E)):=aG K (Lh ..) (ls E);obtain ⟨Y,Z,rfl,_⟩:=fC R2.out.1;obtain ⟨a5,a6⟩:=aX J;have a8:=fX J;have a7:=J.size;(try have ac:w.heap.size<I.heap.size:=by omega);(try have af:w.heap.size+1<I.heap.size:=by omega);(try have ag:w.heap.size+1+1<I.heap.size:=by omega);clear K;go_wp2;refine LN (v:=.tuple #[.agg #[.slice Y E.length Z,.bool false,.int .i64 u',.int .i64 t'],.bool false,.int .i64 0]) ?_ rfl ⟨_,rfl,?_,Zb⟩
   ·simp [results,results51,go_sem, *]
   ·exact Q42
  ·go_in;go_wp2_with (go_at_call 93;refine (iO _ _ _ _ _ _ _ _ _ _ _ _ HC.out).mono ?_;rintro W w1 ⟨rfl,z⟩;obtain ⟨a0,a1⟩:=aX z;have a3:=fX z;have U:=z.size;(try simp at U));(try have a9:w.heap.size<w1.heap.size:=by omega);(try have aa:w.heap.size+1<w1.heap.size:=by omega);(try have ab:w.heap.size+1+1<w1.heap.size:=by omega);refine (jz _ E _ (aq (ai (ai (ai R.out _) _) _) z) (by omega)).mono ?_;rintro W I ⟨v2,rfl,K,J⟩;have R2:Hid (aN w1.heap.size I 1 v2 (cN E)):=aG K (Lh ..) (ls E);obtain ⟨Y,Z,rfl,_⟩:=fC R2.out.1;obtain ⟨a5,a6⟩:=aX J;have a8:=fX J;have a7:=J.size;(try have ac:w.heap.size<I.heap.size:=by omega);(try have af:w.heap.size+1<I.heap.size:=by omega);(try have ag:w.heap.size+1+1<I.heap.size:=by omega);clear K;go_wp2;refine LN (v:=.tuple #[.agg #[.slice Y E.length Z,.bool true,.int .i64 u',.int .i64 t'],.bool false,.int .i64 0]) ?_ rfl ⟨_,rfl,?_,Zb⟩
   ·simp [results,results51,go_sem, *]
   ·exact Q42
theorem Dl:(prog.info? 3).map (fun i=>(i.zero,i.size,i.bytes))=some (some (.int .i64 0),1,8):=by kernel_rfl
def il (X:List Sl) (k:Nat):List Int:=(List.range 12).map fun b=>((j8 X (b:Nat) k).length:Int)
def ny (l:List Int):List (List Value):=l.map fun x=>[Value.int .i64 x]
theorem gW (X:List Sl) (k:Nat):(il X k).length=12:=by simp [il]
theorem zY (l:List Int):∀ c∈ny l,c.length=1:=by
 intro c h;simp only [ny,LH] at h;obtain ⟨z,_,rfl⟩:=h
 rfl
theorem ye (l:List Int):(ny l).flatten=l.map (Value.int .i64):=by
 induction l with
 | nil=>rfl
 | cons x l ih=>simp only [ny,List.map_cons,List.flatten_cons] at ih ⊢;rw [ih];rfl
theorem kQ (X:List Sl) (k:Nat) (m:Nat) (h:m<12):(il X k)[m]?=some ((j8 X (m:Nat) k).length:Int):=by
 simp [il,h]
theorem JA {X:List Sl} {k:Nat} {s:Sl} (z:s=X.getD k Sl.zero) (h:s.used=false):il X (k+1)=il X k:=by
 unfold il;refine List.map_congr_left fun E _=>?_;rw [vi z (by rw [h];simp)]
theorem GK {X:List Sl} {k m:Nat} {s:Sl} (z:s=X.getD k Sl.zero) (I:s.used=true) (h:s.backend=(m:Int)) (K:m<12):il X (k+1)=(il X k).set m (((j8 X (m:Nat) k).length:Int)+1):=by
 apply List.ext_getElem?;intro E;rw [List.getElem?_set];by_cases hj:E<12
 ·rw [kQ _ _ _ hj];by_cases hmj:m=E
  ·subst hmj;rw [if_pos rfl,if_pos (by simpa [il] using hj),ve z I h];simp
  ·rw [if_neg hmj,kQ _ _ _ hj,vi z (by rw [h];intro J;have:=J.2;omega)]
 ·rw [if_neg (by omega),Lu (by rw [gW];omega),Lu (by rw [gW];omega)]
theorem cntL_0 (X:List Sl):(il X 0).map (Value.int .i64)=List.replicate 12 (.int .i64 0):=by
 simp [il,j8]
 rfl
theorem xK:(madeCells #[Value.int .i64 0] 12).toList=List.replicate 12 (.int .i64 0):=(fH #[Value.int .i64 0] 12 (by decide)).trans rfl
def Kg (w:World) (L:List Int) (code:Int) (e:Ending) (w':World):Prop:=∃ v,e=.returned (.tuple #[v,.int .i64 code])/\aN w.heap.size w' 1 v (L.map fun x=>[Value.int .i64 x])/\Below w.heap.size w w'
def I4 (w wr:World) (s:Value) (X:List Sl) (g k:Nat):Prop:=Below w.heap.size w wr/\w.heap.size<g/\wr.cell? ⟨w.heap.size,0,none⟩=some s/\wr.ownsRow (w.heap.size+1) 3 1 (.slice (some ⟨g,0,none⟩) 12 12) 12 ((il X k).map (Value.int .i64))
theorem jY (b0 o0 U:Nat) (X:List Sl) (w:World) (hb0:b0<w.heap.size) (hm:dR X) (r:aK w 4 (.slice (some ⟨b0,o0,none⟩) X.length U) (X.map Sl.cells)) (h1:∀ i j,i<X.length->j<4->w.cell? ⟨b0,o0+i*4+j,none⟩=(X.getD i Sl.zero).cells[j]?) :
  Calls prog 97 #[.agg #[.slice (some ⟨b0,o0,none⟩) X.length U]] w (Kg w (il X X.length) 0):=by
 obtain ⟨i0,hi,ac,ad,af⟩:=info_parts Dl
 have H1:=KL h1
 have R:=KL r
 have M:=KL hm
 have g2:X.length<=40:=hm.2.1
 clear h1 r hm
 go_in
 go_wp2_with (first|(go_at_call 47;refine (fp _ X _ (ai R.out _) M.out).mono ?_;rintro e w1 ⟨rfl,K⟩;obtain ⟨a4,aa⟩:=aX K;have ag:=fX K;have a9:=K.size;(try simp at a9))|(at_make;go_loud (refine wpList_make_full _ rfl _ _ 124 rfl (w.heap.size+1) 3 i0 (.int .i64 0) 1 underlying124 hi ac ad .i64 .i64 12 12 12 rfl rfl rfl rfl ?c1 ?c2 ?c3 ?_)))
 case c1=>rw [af];omega
 case c2=>unfold maxLen;omega
 case c3=>omega
 intro w2 I a5
 rw [show (madeCells #[.int .i64 0] (12*1)).toList=(il X 0).map (Value.int .i64) from xK.trans (cntL_0 X).symm] at I
 have Z:Below w1.heap.size w1 w2:=(KM _ _).grown a5 (by simp) (fun k hk=>by cases hk)
 have BB:=KL ((((KM w.heap.size w).alloc (KY _) _).trans (K.mono (by simp))).trans (Z.mono (by omega)))
 have c1:w2.cell? ⟨w.heap.size,0,none⟩=some (.slice (some ⟨b0,o0,none⟩) X.length U):=by
  rw [Z.cell (p:=⟨w.heap.size,0,none⟩) (by simp;omega),a4 _ _ (by simp)];go_simp
 have z:=KL I
 obtain ⟨g,hg⟩:∃ g,g=w1.heap.size:=⟨_,rfl⟩
 have ab:w.heap.size<g:=by omega
 rw [<- hg] at z ⊢
 clear I a5 Z a4 aa ag K a9 hg
 go_wp2_with fail
 go_loopw [17] (fun i wr=>∃ k:Nat,k<=X.length/\i=.int .i64 k/\I4 w wr (.slice (some ⟨b0,o0,none⟩) X.length U) X g k) (fun i _=>X.length - (intOf i).toNat)
 case atStart=>exact ⟨0,La _,rfl,BB.out,ab,c1,z.out⟩
 case round=>
  obtain ⟨k,hk,rfl,hb,a8,c1,I⟩:=hrel;clear z BB;rcases (show k<X.length\/X.length=k by omega) with hlt|ak
  ·have am:(k:Int)<(X.length:Int):=by omega
   obtain ⟨s,hs⟩:∃ s,s=X.getD k Sl.zero:=⟨_,rfl⟩
   have a7:dB s:=by rw [hs];refine M.out.2.2 _ ?_;simp only [List.getD,Lj hlt,LI];exact Lp _
   have hold:∀ j,j<4->wr.cell? ⟨b0,o0+k*4+j,none⟩=s.cells[j]?:=fun j hj=>by
    exact Q157
   have a0:=hold 0 (by omega);have a1:=hold 1 (by omega);have a2:=hold 2 (by omega);have a3:=hold 3 (by omega);clear hold;have HS:=KL hs;have J:=KL hb;have z:=KL I;clear hs hb I;obtain ⟨W,u,Y,bb⟩:=s;simp only [Sl.cells,Lb,Lc,Nat.add_zero] at a0 a1 a2 a3;have gl:g<wr.heap.size:=(z.out.lt _ rfl).2
   cases u with
   | false=>
    have KB:=KL ((KM wr.heap.size wr).alloc (KY _) (.cells #[.int .i64 W,.bool false,.int .i64 Y,.int .i64 bb] 167));go_wp2;go_roundw
    case rel=>exact ⟨k+1,by omega,by go_num,by unfold I4;rw [JA HS.out rfl];exact ⟨J.out.trans (KB.out.mono (J.out.size)),a8,aI _ c1,jq z.out KB.out⟩⟩
    case measure=>simp [intOf];omega
   | true=>
    obtain ⟨f1,f2,f3,f4,f5,f6⟩:0<=W/\W<=1048575/\0<=Y/\Y<=4294967295/\0<=bb/\bb<=11:=by simpa [dB] using a7
    obtain ⟨E,rfl⟩:=Lr f5;have a6:E<12:=by omega
    have e1:wr.cell? ⟨g,E,none⟩=some (.int .i64 ((j8 X (E:Nat) k).length:Int)):=by rw [z.out.cellAt E (by omega),List.getElem?_map,kQ _ _ _ a6];rfl
    have e2:wr.frozen? ⟨g,E,none⟩=false:=z.out.frozenAt E;have hL:=lc X (E:Nat) k;have KB:=KL ((KM wr.heap.size wr).alloc (KY _) (.cells #[.int .i64 W,.bool true,.int .i64 Y,.int .i64 E] 167));have an:(E:Int)<12:=by omega
    clear a7;go_wp2;go_roundw
    case rel=>
     refine ⟨k+1,by omega,by go_num,(J.out.setCell (by simp;omega) _).alloc (by simp;have:=J.out.size;omega) _,a8,(by repeat (first|(with_reducible assumption)|(with_reducible refine aI _ ?_)|(with_reducible refine dn _ ?_)|(refine (aW (by omega)).trans ?_))),?_⟩;rw [GK HS.out rfl rfl a6,List.map_set];exact (z.out.stored E _).1.alloc _
    case measure=>simp [intOf];omega
  ·have al:¬ (k:Int)<(X.length:Int):=by omega
   have J:=KL hb;have z:=KL I;clear hb I;go_wp2;refine LN (v:=.tuple #[.slice (some ⟨g,0,none⟩) 12 12,.int .i64 0]) ?_ rfl ?_
   ·simp [results,results97,go_sem, *]
   ·refine ⟨_,rfl,aJ (aG (e:=3) (n:=12) (L:=ny (il X k)) ?_ ((Lh ..).trans (gW _ _)) (zY _)) (Nat.le_succ _),J.out⟩;rw [ye];exact z.out
theorem kN:(prog.info? 179).map (fun i=>(i.zero,i.size,i.bytes))=some (some (.agg #[.int .i64 0,.int .i64 0]),2,16):=by kernel_rfl
theorem iu (X:List Sp):∀ c∈X.map (fun x=>Sp.cells (x)),c.length=2:=by
 exact Q28
theorem uX (X:List Sp):∀ u∈(X.map (fun x=>Sp.cells (x))).flatten,u.oneCell'=true:=by
 intro u h;simp only [List.mem_flatten,LH] at h;obtain ⟨z,⟨x,_,rfl⟩,h⟩:=h;simp [Sp.cells] at h;rcases h with rfl|rfl<;>rfl
theorem vC (v:Value) (X:List Sp) (w:World) (r:aK w 2 v (X.map (fun x=>Sp.cells (x)))) (hb:X.length*16<=140737488351232) :
  Calls prog 58 #[v] w (gP w 179 2 X.length (X.map (fun x=>Sp.cells (x))).flatten):=by
 obtain ⟨i0,hi,a1,a2,a3⟩:=info_parts kN
 have hlen:=iu X
 have Z:=uX X
 obtain ⟨a,a0,rfl,J,U,z,h4⟩:=r
 simp only [Lh] at J ⊢
 cases a with
 | none=>
  have hX:X=[]:=List.length_eq_zero_iff.1 (by have:=z rfl;omega);have hc:=z rfl;subst hX hc;clear J U z h4;have a4:=fun (w:World) (K I:Nat)=>Lib.run_eql_slice_nil (P:=prog) w 46 179 none K I 0 0 underlying46;go_in;exact Q39
 | some ad=>
  have Y:∀ (C:Obj) k u,(X.map (fun x=>Sp.cells (x))).flatten[k]?=some u->(w.alloc C).cell? (ad.add k)=some u:=by
   exact Q19
  have W:(X.map (fun x=>Sp.cells (x))).flatten.length=X.length*2:=by rw [aP hlen,Lh]
  have E:=KL (And.intro hlen (And.intro Z (And.intro Y W)));clear hlen Z Y W J U z h4;have a4:=fun (w:World) (K I:Nat)=>Lib.run_eql_slice_nil (P:=prog) w 46 179 (some ad) K I 0 0 underlying46;go_in;go_wp2_with (at_builtin;go_loud (refine wpList_append_own _ rfl _ _ 46 rfl w.heap.size 179 i0 (.agg #[.int .i64 0,.int .i64 0]) 2 16 underlying46 hi a1 a2 a3 rfl (by decide) _ 0 [] rfl (gI w 179 2) ad X.length a0 ((X.map (fun x=>Sp.cells (x))).flatten) rfl E.out.2.2.2 (E.out.2.2.1 _) E.out.2.1 ?c1 ?c2 ?c3 ?_))
  case c1=>unfold maxLen;omega
  case c2=>omega
  case c3=>simp
  exact Q17
theorem xY:(prog.info? 170).map (fun i=>(i.zero,i.size,i.bytes))=some (some (.agg #[.int .i64 0,.int .i64 0,.int .i64 0,.int .i64 0,.bool false,.int .i64 0,.int .i64 0]),7,56):=by kernel_rfl
theorem qt (X:List Fl):∀ c∈X.map (fun x=>Fl.cells (x)),c.length=7:=by
 exact Q28
theorem Bg (X:List Fl):∀ u∈(X.map (fun x=>Fl.cells (x))).flatten,u.oneCell'=true:=by
 intro u hu;simp only [List.mem_flatten,LH] at hu;obtain ⟨c,⟨x,_,rfl⟩,hu⟩:=hu;exact Q58
theorem JB (v:Value) (X:List Fl) (w:World) (r:aK w 7 v (X.map (fun x=>Fl.cells (x)))) (hb:X.length*56<=140737488351232) :
  Calls prog 55 #[v] w (gP w 170 7 X.length (X.map (fun x=>Fl.cells (x))).flatten):=by
 obtain ⟨i0,hi,a1,a2,a3⟩:=info_parts xY
 have hlen:=qt X
 have Z:=Bg X
 obtain ⟨a,a0,rfl,J,U,z,h4⟩:=r
 simp only [Lh] at J ⊢
 cases a with
 | none=>
  have hX:X=[]:=List.length_eq_zero_iff.1 (by have:=z rfl;omega);have hc:=z rfl;subst hX hc;clear J U z h4;have a4:=fun (w:World) (K I:Nat)=>Lib.run_eql_slice_nil (P:=prog) w 41 170 none K I 0 0 underlying41;go_in;exact Q39
 | some ad=>
  have Y:∀ (C:Obj) k u,(X.map (fun x=>Fl.cells (x))).flatten[k]?=some u->(w.alloc C).cell? (ad.add k)=some u:=by
   exact Q19
  have W:(X.map (fun x=>Fl.cells (x))).flatten.length=X.length*7:=by rw [aP hlen,Lh]
  have E:=KL (And.intro hlen (And.intro Z (And.intro Y W)));clear hlen Z Y W J U z h4;have a4:=fun (w:World) (K I:Nat)=>Lib.run_eql_slice_nil (P:=prog) w 41 170 (some ad) K I 0 0 underlying41;go_in;go_wp2_with (at_builtin;go_loud (refine wpList_append_own _ rfl _ _ 41 rfl w.heap.size 170 i0 (.agg #[.int .i64 0,.int .i64 0,.int .i64 0,.int .i64 0,.bool false,.int .i64 0,.int .i64 0]) 7 56 underlying41 hi a1 a2 a3 rfl (by decide) _ 0 [] rfl (gI w 170 7) ad X.length a0 ((X.map (fun x=>Fl.cells (x))).flatten) rfl E.out.2.2.2 (E.out.2.2.1 _) E.out.2.1 ?c1 ?c2 ?c3 ?_))
  case c1=>unfold maxLen;omega
  case c2=>omega
  case c3=>simp
  exact Q17
theorem FX:(prog.info? 167).map (fun i=>(i.zero,i.size,i.bytes))=some (some (.agg #[.int .i64 0,.bool false,.int .i64 0,.int .i64 0]),4,32):=by kernel_rfl
theorem ld (X:List Sl):∀ c∈X.map (fun x=>Sl.cells (x)),c.length=4:=by
 exact Q28
theorem IY (X:List Sl):∀ u∈(X.map (fun x=>Sl.cells (x))).flatten,u.oneCell'=true:=by
 intro u h;simp only [List.mem_flatten,LH] at h;obtain ⟨z,⟨x,_,rfl⟩,h⟩:=h;simp [Sl.cells] at h;rcases h with rfl|rfl|rfl|rfl<;>rfl
theorem BD (v:Value) (X:List Sl) (w:World) (r:aK w 4 v (X.map (fun x=>Sl.cells (x)))) (hb:X.length*32<=140737488351232) :
  Calls prog 54 #[v] w (gP w 167 4 X.length (X.map (fun x=>Sl.cells (x))).flatten):=by
 obtain ⟨i0,hi,a1,a2,a3⟩:=info_parts FX
 have hlen:=ld X
 have Z:=IY X
 obtain ⟨a,a0,rfl,J,U,z,h4⟩:=r
 simp only [Lh] at J ⊢
 cases a with
 | none=>
  have hX:X=[]:=List.length_eq_zero_iff.1 (by have:=z rfl;omega);have hc:=z rfl;subst hX hc;clear J U z h4;have a4:=fun (w:World) (K I:Nat)=>Lib.run_eql_slice_nil (P:=prog) w 38 167 none K I 0 0 underlying38;go_in;exact Q39
 | some ad=>
  have Y:∀ (C:Obj) k u,(X.map (fun x=>Sl.cells (x))).flatten[k]?=some u->(w.alloc C).cell? (ad.add k)=some u:=by
   exact Q19
  have W:(X.map (fun x=>Sl.cells (x))).flatten.length=X.length*4:=by rw [aP hlen,Lh]
  have E:=KL (And.intro hlen (And.intro Z (And.intro Y W)));clear hlen Z Y W J U z h4;have a4:=fun (w:World) (K I:Nat)=>Lib.run_eql_slice_nil (P:=prog) w 38 167 (some ad) K I 0 0 underlying38;go_in;go_wp2_with (at_builtin;go_loud (refine wpList_append_own _ rfl _ _ 38 rfl w.heap.size 167 i0 (.agg #[.int .i64 0,.bool false,.int .i64 0,.int .i64 0]) 4 32 underlying38 hi a1 a2 a3 rfl (by decide) _ 0 [] rfl (gI w 167 4) ad X.length a0 ((X.map (fun x=>Sl.cells (x))).flatten) rfl E.out.2.2.2 (E.out.2.2.1 _) E.out.2.1 ?c1 ?c2 ?c3 ?_))
  case c1=>unfold maxLen;omega
  case c2=>omega
  case c3=>simp
  exact Q17
end
end Go.Proofs.YtennppmadmgfoaaGreatDoor
