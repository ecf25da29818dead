/- Texts of the row's proof. Conditions: none. -/
import Derived.Test.YtfliffgmeobclaaGreatK03
import Derived.Test.YtfliffgmeobclaaGreatK07
namespace Go.Proofs.YtfliffgmeobclaaGreat
set_option maxRecDepth 100000
set_option maxHeartbeats 8000000
section
open Go.RowKit
theorem Q16 {p:Prop} (h:p:=by
 intro v' w1 hown hgrow _
 try simp only [Nat.zero_add,List.nil_append] at hown
 have B:Hid (Below w.heap.size w w1):=((Hv _ _).alloc (I3 _) _).trans ((Hv _ _).grown hgrow (by simp) (by intro k hk;simp [Value.ownBlock] at hk;omega));have HO:=Hu hown;clear hown hgrow;go_wp2;go_ret;exact ⟨_,rfl,HO.out,B.out⟩):p:=h
theorem Q20 {p:Prop} (h:p:=by
 intro C k u hu
 have hX:X≠[]:=by intro hX;subst hX;simp at hu
 obtain ⟨b,off,hab,_,hcell⟩:=h4 (by simpa using hX);simp only [Option.some.injEq] at hab;subst hab;have h:=yK (by decide) hlen hcell k u hu;rw [Go.WideShapes.add_plain] at h ⊢;exact aE _ h):p:=h
theorem Q41 {p:Prop} (h:p:=by
 go_wp2
 all_goals first|(go_ret;exact ⟨_,rfl,Iv _ _ _ _,Hv _ _⟩)|exact Zx):p:=h
theorem Q44 {p:Prop} (h:p:=by
 exact (by refine aG (B:=w1.heap.size) ?_ Zs;repeat (first|(with_reducible exact R2.out)|(with_reducible refine aB ?_ Zs _)|(with_reducible refine cR ?_ _)|(with_reducible refine dW ?_ _)))):p:=h
theorem Q75 {p:Prop} (h:p:=by
 simp [Fl.cells] at hu;rcases hu with rfl|rfl|rfl|rfl|rfl|rfl|rfl<;>rfl):p:=h
theorem Q108 {p:Prop} (h:p:=by
 intro u hu;simp only [List.mem_flatten,It] at hu;obtain ⟨c,⟨x,_,rfl⟩,hu⟩:=hu;simp [Lf.cells] at hu;rcases hu with rfl|rfl|rfl|rfl|rfl|rfl<;>rfl):p:=h
theorem Q119 {p:Prop} (h:p:=by
 obtain ⟨h1,h2|⟨g,cap,cur,h3,h4,h5,h6⟩⟩:=h
 ·exact ⟨h1,Or.inl h2⟩
 ·exact ⟨h1,Or.inr ⟨g,cap,cur,h3,Iq hB h4,h5,h6⟩⟩):p:=h
theorem vQ:(Tryz.prog.info? 156).map (fun i=>(i.zero,i.size,i.bytes))=some (some (.agg #[.int .i64 0,.int .i64 0]),2,16):=by kernel_rfl
theorem ig (X:List Tm):∀ c∈X.map (fun x=>Tm.cells (x)),c.length=2:=by
 exact Q29
theorem tN (X:List Tm):∀ u∈(X.map (fun x=>Tm.cells (x))).flatten,u.oneCell'=true:=by
 intro u hu;simp only [List.mem_flatten,It] at hu;obtain ⟨c,⟨x,_,rfl⟩,hu⟩:=hu;simp [Tm.cells] at hu;rcases hu with rfl|rfl<;>rfl
theorem ud (v:Value) (X:List Tm) (w:World) (r:aI w 2 v (X.map (fun x=>Tm.cells (x)))) (hb:X.length*16≤140737488351232) :
  Calls Tryz.prog 56 #[v] w (gI w 156 2 X.length (X.map (fun x=>Tm.cells (x))).flatten):=by
 obtain ⟨i0,hi,hi0,hi1,hi2⟩:=info_parts vQ
 have hlen:=ig X
 have hone:=tN X
 obtain ⟨a,cap,rfl,h1,h2,h3,h4⟩:=r
 simp only [I9] at h1 ⊢
 cases a with
 | none=>
  have hX:X=[]:=List.length_eq_zero_iff.1 (by have:=h3 rfl;omega);have hc:=h3 rfl;subst hX hc;clear h1 h2 h3 h4;have hnil:=fun (w:World) (n c:Nat)=>Lib.run_eql_slice_nil (P:=Tryz.prog) w 153 156 none n c 0 0 Tryz.underlying153;go_enter Tryz.func56,Tryz.ntmps56;exact Q41
 | some ad=>
  have hnews:∀ (C:Obj) k u,(X.map (fun x=>Tm.cells (x))).flatten[k]?=some u→(w.alloc C).cell? (ad.add k)=some u:=by
   exact Q20
  have hfl:(X.map (fun x=>Tm.cells (x))).flatten.length=X.length*2:=by rw [aO hlen,I9]
  have A:=Hu (And.intro hlen (And.intro hone (And.intro hnews hfl)));clear hlen hone hnews hfl h1 h2 h3 h4;have hnil:=fun (w:World) (n c:Nat)=>Lib.run_eql_slice_nil (P:=Tryz.prog) w 153 156 (some ad) n c 0 0 Tryz.underlying153;go_enter Tryz.func56,Tryz.ntmps56;go_wp2_with (at_builtin;go_loud (refine wpList_append_own _ rfl _ _ 153 rfl w.heap.size 156 i0 (.agg #[.int .i64 0,.int .i64 0]) 2 16 Tryz.underlying153 hi hi0 hi1 hi2 rfl (by decide) _ 0 [] rfl (gx w 156 2) ad X.length cap ((X.map (fun x=>Tm.cells (x))).flatten) rfl A.out.2.2.2 (A.out.2.2.1 _) A.out.2.1 ?c1 ?c2 ?c3 ?_))
  case c1=>unfold maxLen;omega
  case c2=>omega
  case c3=>simp
  exact Q16
def kY (w:World) (v:Value) (LL:List (List Tm)):Prop:=∃ V:List Value,V.length=LL.length∧aI w 1 v (V.map fun x=>[x])∧∀ i,i<LL.length→aI w 2 (V.getD i undef) ((LL.getD i []).map Tm.cells)
theorem ed {w w':World} {v:Value} {LL:List (List Tm)} (h:kY w v LL) (hb:Below w.heap.size w w'):kY w' v LL:=by
 obtain ⟨V,h1,h2,h3⟩:=h;exact ⟨V,h1,au h2 hb,fun i hi=>au (h3 i hi) hb⟩
def LsNew (B:Nat) (w:World) (v:Value) (LL:List (List Tm)):Prop:=∃ V:List Value,V.length=LL.length∧aM B w 1 v (V.map fun x=>[x])∧∀ i,i<LL.length→aM B w 2 (V.getD i undef) ((LL.getD i []).map Tm.cells)
theorem LsNew.at_ {B:Nat} {w:World} {v:Value} {LL:List (List Tm)} (h:LsNew B w v LL):kY w v LL:=by
 obtain ⟨V,h1,h2,h3⟩:=h;exact ⟨V,h1,h2.1,fun i hi=>(h3 i hi).1⟩
theorem mb {B B':Nat} {w:World} {v:Value} {LL:List (List Tm)} (h:LsNew B w v LL) (hB:B'≤B):LsNew B' w v LL:=by
 obtain ⟨V,h1,h2,h3⟩:=h;exact ⟨V,h1,aG h2 hB,fun i hi=>aG (h3 i hi) hB⟩
theorem bI {w:World} {v:Value} {LL:List (List Tm)} (h:kY w v LL):∃ a cap,v=.slice a LL.length cap:=by
 obtain ⟨V,h1,h2,_⟩:=h;obtain ⟨a,c,rfl,_⟩:=aq (f:=fun x:Value=>[x]) h2;exact ⟨a,c,by rw [h1]⟩
theorem aX {w w':World} {B sz n:Nat} {t:TypeId} {v:Value} {cs:List Value} (h:w.ownsRow B t sz v n cs) (hb:∀ b,v.ownBlock=some b→w'.heap[b]?=w.heap[b]?):w'.ownsRow B t sz v n cs:=by
 obtain ⟨h1,h2|⟨g,cap,cur,rfl,h4,h5,h6⟩⟩:=h
 ·exact ⟨h1,Or.inl h2⟩
 ·exact ⟨h1,Or.inr ⟨g,cap,cur,rfl,h4,(hb g rfl).trans h5,h6⟩⟩
theorem nE {w:World} {B B' sz n:Nat} {t:TypeId} {v:Value} {cs:List Value} (h:w.ownsRow B t sz v n cs) (hB:B'≤B):w.ownsRow B' t sz v n cs:=by
 exact Q119
def eJ (B:Nat) (w:World) (v:Value) (LL:List (List Tm)) (V:List Value):Prop:=V.length=LL.length∧w.ownsRow B 153 1 v LL.length V∧
 (∀ i,i<LL.length→w.ownsRow B 156 2 (V.getD i undef) (LL.getD i []).length ((LL.getD i []).map Tm.cells).flatten)∧
 (∀ i,i<LL.length→∀ b,(V.getD i undef).ownBlock=some b→v.ownBlock≠some b)∧
 (∀ i j,i<j→j<LL.length→∀ b,(V.getD i undef).ownBlock=some b→(V.getD j undef).ownBlock≠some b)
theorem sS (B:Nat) (w:World):eJ B w (.slice none 0 0) [] []:=⟨rfl,Iv _ _ _ _,by simp,by simp,by simp⟩
theorem ea {B:Nat} {w w':World} {v:Value} {LL:List (List Tm)} {V:List Value} (h:eJ B w v LL V) (hb:∀ b,B≤b→b<w.heap.size→w'.heap[b]?=w.heap[b]?):eJ B w' v LL V:=by
 obtain ⟨h1,h2,h3,h4,h5⟩:=h;exact ⟨h1,aX h2 (fun b hv=>hb b (h2.lt b hv).1 (h2.lt b hv).2),fun i hi=>aX (h3 i hi) (fun b hv=>hb b ((h3 i hi).lt b hv).1 ((h3 i hi).lt b hv).2),h4,h5⟩
theorem cj {B:Nat} {w w':World} {v:Value} {LL:List (List Tm)} {V:List Value} (h:eJ B w v LL V) (hb:Below w.heap.size w w'):eJ B w' v LL V:=ea h (fun b _ hb'=>hb.block b hb')
theorem yM {B B':Nat} {w:World} {v:Value} {LL:List (List Tm)} {V:List Value} (h:eJ B w v LL V) (hB:B'≤B):eJ B' w v LL V:=by
 obtain ⟨h1,h2,h3,h4,h5⟩:=h;exact ⟨h1,nE h2 hB,fun i hi=>nE (h3 i hi) hB,h4,h5⟩
theorem ga {α:Type} {V:List α} {x d:α} {i:Nat} (h:i<V.length):(V++[x]).getD i d=V.getD i d:=by simp [List.getD,IB h]
theorem il {α:Type} {V:List α} {x d:α}:(V++[x]).getD V.length d=x:=by simp [List.getD]
theorem yL {B:Nat} {w w1 w2 w3:World} {v v' x:Value} {LL:List (List Tm)} {L:List Tm} {V:List Value} (h:eJ B w v LL V) (hB:B≤w.heap.size) (hb1:Below w.heap.size w w1) (hx:w1.ownsRow w.heap.size 156 2 x L.length (L.map Tm.cells).flatten)
  (hb2:Below w1.heap.size w1 w2) (happ:w3.ownsRow B 153 1 v' (LL.length+1) (V++[x])) (hg:w2.grownBy w3 v.ownBlock) (hat:v'.ownBlock=v.ownBlock∨v'.ownBlock=some w2.heap.size):eJ B w3 v' (LL++[L]) (V++[x]):=by
 obtain ⟨h1,h2,h3,h4,h5⟩:=h
 have s1:=hb1.size
 have s2:=hb2.size
 have keep:∀ b,b<w2.heap.size→v.ownBlock≠some b→w3.heap[b]?=w2.heap[b]?:=fun b hb hne=>hg.block b hb (fun e=>hne e.symm)
 have old:∀ b,b<w.heap.size→w2.heap[b]?=w.heap[b]?:=fun b hb=>(hb2.block b (by omega)).trans (hb1.block b hb)
 have hvb:∀ b,v.ownBlock=some b→b<w.heap.size:=fun b hb=>(h2.lt b hb).2
 have hV:V.length=LL.length:=h1
 refine ⟨by simp [h1],by rw [Ic];exact happ,fun i hi=>?_,fun i hi b hb hv'=>?_,fun i j hij hj b hb hb'=>?_⟩
 ·rw [Ic,List.length_singleton] at hi;rcases (show i<LL.length∨i=LL.length by omega) with hi'|rfl
  ·rw [ga (by omega),ga hi']
   exact aX (h3 i hi') fun b hb=>by
    have:=((h3 i hi').lt b hb).2;rw [keep b (by omega) (h4 i hi' b hb),old b this]
  ·rw [il,← hV,il];refine nE (aX hx fun b hb=>?_) hB;have:=hx.lt b hb;rw [keep b (by omega) (fun e=>by have:=hvb b e;omega)];exact hb2.block b this.2
 ·rw [Ic,List.length_singleton] at hi
  have hbl:b<w2.heap.size∧v.ownBlock≠some b:=by
   rcases (show i<LL.length∨i=LL.length by omega) with hi'|rfl
   ·rw [ga (by omega)] at hb;have:=((h3 i hi').lt b hb).2;exact ⟨by omega,h4 i hi' b hb⟩
   ·rw [← hV,il] at hb;have:=hx.lt b hb;exact ⟨by omega,fun e=>by have:=hvb b e;omega⟩
  rcases hat with h|h
  ·rw [h] at hv';exact hbl.2 hv'
  ·rw [h] at hv';injection hv' with e;omega
 ·rw [Ic,List.length_singleton] at hj;rw [ga (by omega)] at hb;have hbi:=((h3 i (by omega)).lt b hb).2;rcases (show j<LL.length∨j=LL.length by omega) with hj'|rfl
  ·rw [ga (by omega)] at hb';exact h5 i j hij hj' b hb hb'
  ·rw [← hV,il] at hb';have:=hx.lt b hb';omega
theorem mi:∀ V:List Value,(V.map fun x=>[x]).flatten=V
 | []=>rfl
 | x :: V=>by simpa using mi V
theorem gE {B:Nat} {w:World} {v:Value} {LL:List (List Tm)} {V:List Value} (h:eJ B w v LL V):LsNew B w v LL:=by
 obtain ⟨h1,h2,h3,_⟩:=h;refine ⟨V,h1,aD (e:=153) (n:=LL.length) ?_ (by rw [I9];exact h1) (by intro c hc;simp only [It] at hc;obtain ⟨x,_,rfl⟩:=hc;rfl),fun i hi=>aD (h3 i hi) (by rw [I9]) (ig _)⟩;rw [mi];exact h2
theorem sY {P:Program} (w:World) {o:Oper} {a:Act} {K:Act→World→Prop} {Q:Exit→Act→World→Prop} (s x:Operand) (t:TypeId)
  (ho:o.op=.call { callee:=.builtin .append,args:=#[s,x],argTypes:=#[t,t] })
  (base:Nat) (e:TypeId) (i:TypeInfo) (z:Value) (size bytes:Nat) (ht:P.underlying t=some (.slice e)) (hi:P.info? e=some i) (hz:i.zero=some z)
  (hsize:i.size=size) (hby:i.bytes=bytes) (hzs:z.cells.size=size) (hsz:0<size)
  (v:Value) (n:Nat) (xs:List Value) (hs:a.eval s=v) (hown:w.ownsRow base e size v n xs)
  (ad:Addr) (m c:Nat) (news:List Value) (hx:a.eval x=.slice (some ad) m c) (hl:news.length=m*size) (hnews:∀ j u,news[j]?=some u→w.cell? (ad.add j)=some u) (h1:∀ u∈news,u.oneCell'=true)
  (h63:n+m≤maxLen) (hbytes:(n+m)*bytes≤140737488355328) (hbase:base≤w.heap.size)
  (h:∀ v' w',w'.ownsRow base e size v' (n+m) (xs++news)→w.grownBy w' v.ownBlock→(v'.ownBlock=v.ownBlock∨v'.ownBlock=some w.heap.size)→K (a.put o.dst v') w') :
  o.wp P a w K Q:=by
 obtain ⟨v',w',hr,h2,h3,_,h5⟩:=run_append_own_at (P:=P) w base t o.type e i z size bytes ht hi hz hsize hby hzs hsz v n xs hown ad m c news hl hnews h1 h63 hbytes hbase
 unfold Oper.wp execOp
 simp only [ho,resolve,invoke,builtin,Sem.run_bind,Sem.run_pure,Result.andThen_ok,List.map_toArray,List.map_cons,List.map_nil,hs,hx,hr]
 exact h v' w' h2 h3 h5
theorem Du:(Tryz.prog.info? 94).map (fun i=>(i.zero,i.size,i.bytes))=some (some (.agg #[.int .i64 0,.int .i64 0,.int .i64 0,.int .i64 0,.int .i64 0,.int .i64 0]),6,48):=by kernel_rfl
theorem zv (X:List Lf):∀ c∈X.map (fun x=>Lf.cells (x)),c.length=6:=by
 exact Q29
theorem FF (X:List Lf):∀ u∈(X.map (fun x=>Lf.cells (x))).flatten,u.oneCell'=true:=by
 exact Q108
theorem uh (v:Value) (X:List Lf) (w:World) (r:aI w 6 v (X.map (fun x=>Lf.cells (x)))) (hb:X.length*48≤140737488351232) :
  Calls Tryz.prog 52 #[v] w (gI w 94 6 X.length (X.map (fun x=>Lf.cells (x))).flatten):=by
 obtain ⟨i0,hi,hi0,hi1,hi2⟩:=info_parts Du
 have hlen:=zv X
 have hone:=FF X
 obtain ⟨a,cap,rfl,h1,h2,h3,h4⟩:=r
 simp only [I9] at h1 ⊢
 cases a with
 | none=>
  have hX:X=[]:=List.length_eq_zero_iff.1 (by have:=h3 rfl;omega);have hc:=h3 rfl;subst hX hc;clear h1 h2 h3 h4;have hnil:=fun (w:World) (n c:Nat)=>Lib.run_eql_slice_nil (P:=Tryz.prog) w 49 94 none n c 0 0 Tryz.underlying49;go_enter Tryz.func52,Tryz.ntmps52;exact Q41
 | some ad=>
  have hnews:∀ (C:Obj) k u,(X.map (fun x=>Lf.cells (x))).flatten[k]?=some u→(w.alloc C).cell? (ad.add k)=some u:=by
   exact Q20
  have hfl:(X.map (fun x=>Lf.cells (x))).flatten.length=X.length*6:=by rw [aO hlen,I9]
  have A:=Hu (And.intro hlen (And.intro hone (And.intro hnews hfl)));clear hlen hone hnews hfl h1 h2 h3 h4;have hnil:=fun (w:World) (n c:Nat)=>Lib.run_eql_slice_nil (P:=Tryz.prog) w 49 94 (some ad) n c 0 0 Tryz.underlying49;go_enter Tryz.func52,Tryz.ntmps52;go_wp2_with (at_builtin;go_loud (refine wpList_append_own _ rfl _ _ 49 rfl w.heap.size 94 i0 (.agg #[.int .i64 0,.int .i64 0,.int .i64 0,.int .i64 0,.int .i64 0,.int .i64 0]) 6 48 Tryz.underlying49 hi hi0 hi1 hi2 rfl (by decide) _ 0 [] rfl (gx w 94 6) ad X.length cap ((X.map (fun x=>Lf.cells (x))).flatten) rfl A.out.2.2.2 (A.out.2.2.1 _) A.out.2.1 ?c1 ?c2 ?c3 ?_))
  case c1=>unfold maxLen;omega
  case c2=>omega
  case c3=>simp
  exact Q16
theorem Dt:(Tryz.prog.info? 148).map (fun i=>(i.zero,i.size,i.bytes))=some (some (.agg #[.int .i64 0,.int .i64 0,.int .i64 0,.int .i64 0,.int .i64 0]),5,40):=by kernel_rfl
theorem zu (X:List Rq):∀ c∈X.map (fun x=>Rq.cells (x)),c.length=5:=by
 exact Q29
theorem FE (X:List Rq):∀ u∈(X.map (fun x=>Rq.cells (x))).flatten,u.oneCell'=true:=by
 intro u hu;simp only [List.mem_flatten,It] at hu;obtain ⟨c,⟨x,_,rfl⟩,hu⟩:=hu;simp [Rq.cells] at hu;rcases hu with rfl|rfl|rfl|rfl|rfl<;>rfl
theorem ug (v:Value) (X:List Rq) (w:World) (r:aI w 5 v (X.map (fun x=>Rq.cells (x)))) (hb:X.length*40≤140737488351232) :
  Calls Tryz.prog 53 #[v] w (gI w 148 5 X.length (X.map (fun x=>Rq.cells (x))).flatten):=by
 obtain ⟨i0,hi,hi0,hi1,hi2⟩:=info_parts Dt
 have hlen:=zu X
 have hone:=FE X
 obtain ⟨a,cap,rfl,h1,h2,h3,h4⟩:=r
 simp only [I9] at h1 ⊢
 cases a with
 | none=>
  have hX:X=[]:=List.length_eq_zero_iff.1 (by have:=h3 rfl;omega);have hc:=h3 rfl;subst hX hc;clear h1 h2 h3 h4;have hnil:=fun (w:World) (n c:Nat)=>Lib.run_eql_slice_nil (P:=Tryz.prog) w 50 148 none n c 0 0 Tryz.underlying50;go_enter Tryz.func53,Tryz.ntmps53;exact Q41
 | some ad=>
  have hnews:∀ (C:Obj) k u,(X.map (fun x=>Rq.cells (x))).flatten[k]?=some u→(w.alloc C).cell? (ad.add k)=some u:=by
   exact Q20
  have hfl:(X.map (fun x=>Rq.cells (x))).flatten.length=X.length*5:=by rw [aO hlen,I9]
  have A:=Hu (And.intro hlen (And.intro hone (And.intro hnews hfl)));clear hlen hone hnews hfl h1 h2 h3 h4;have hnil:=fun (w:World) (n c:Nat)=>Lib.run_eql_slice_nil (P:=Tryz.prog) w 50 148 (some ad) n c 0 0 Tryz.underlying50;go_enter Tryz.func53,Tryz.ntmps53;go_wp2_with (at_builtin;go_loud (refine wpList_append_own _ rfl _ _ 50 rfl w.heap.size 148 i0 (.agg #[.int .i64 0,.int .i64 0,.int .i64 0,.int .i64 0,.int .i64 0]) 5 40 Tryz.underlying50 hi hi0 hi1 hi2 rfl (by decide) _ 0 [] rfl (gx w 148 5) ad X.length cap ((X.map (fun x=>Rq.cells (x))).flatten) rfl A.out.2.2.2 (A.out.2.2.1 _) A.out.2.1 ?c1 ?c2 ?c3 ?_))
  case c1=>unfold maxLen;omega
  case c2=>omega
  case c3=>simp
  exact Q16
theorem yl:(Tryz.prog.info? 4).map (fun i=>(i.zero,i.size,i.bytes))=some (some (.bool false),1,1):=by kernel_rfl
theorem kN (X:List Bool):∀ c∈X.map (fun x=>[Value.bool (x)]),c.length=1:=by
 exact Q29
theorem AC (X:List Bool):∀ u∈(X.map (fun x=>[Value.bool (x)])).flatten,u.oneCell'=true:=by
 intro u hu;simp only [List.mem_flatten,It] at hu;obtain ⟨c,⟨x,_,rfl⟩,hu⟩:=hu;simp [] at hu;subst hu
 rfl
theorem jr (v:Value) (X:List Bool) (w:World) (r:aI w 1 v (X.map (fun x=>[Value.bool (x)]))) (hb:X.length*1≤140737488351232) :
  Calls Tryz.prog 55 #[v] w (gI w 4 1 X.length (X.map (fun x=>[Value.bool (x)])).flatten):=by
 obtain ⟨i0,hi,hi0,hi1,hi2⟩:=info_parts yl
 have hlen:=kN X
 have hone:=AC X
 obtain ⟨a,cap,rfl,h1,h2,h3,h4⟩:=r
 simp only [I9] at h1 ⊢
 cases a with
 | none=>
  have hX:X=[]:=List.length_eq_zero_iff.1 (by have:=h3 rfl;omega);have hc:=h3 rfl;subst hX hc;clear h1 h2 h3 h4;have hnil:=fun (w:World) (n c:Nat)=>Lib.run_eql_slice_nil (P:=Tryz.prog) w 127 4 none n c 0 0 Tryz.underlying127;go_enter Tryz.func55,Tryz.ntmps55;exact Q41
 | some ad=>
  have hnews:∀ (C:Obj) k u,(X.map (fun x=>[Value.bool (x)])).flatten[k]?=some u→(w.alloc C).cell? (ad.add k)=some u:=by
   exact Q20
  have hfl:(X.map (fun x=>[Value.bool (x)])).flatten.length=X.length*1:=by rw [aO hlen,I9]
  have A:=Hu (And.intro hlen (And.intro hone (And.intro hnews hfl)));clear hlen hone hnews hfl h1 h2 h3 h4;have hnil:=fun (w:World) (n c:Nat)=>Lib.run_eql_slice_nil (P:=Tryz.prog) w 127 4 (some ad) n c 0 0 Tryz.underlying127;go_enter Tryz.func55,Tryz.ntmps55;go_wp2_with (at_builtin;go_loud (refine wpList_append_own _ rfl _ _ 127 rfl w.heap.size 4 i0 (.bool false) 1 1 Tryz.underlying127 hi hi0 hi1 hi2 rfl (by decide) _ 0 [] rfl (gx w 4 1) ad X.length cap ((X.map (fun x=>[Value.bool (x)])).flatten) rfl A.out.2.2.2 (A.out.2.2.1 _) A.out.2.1 ?c1 ?c2 ?c3 ?_))
  case c1=>unfold maxLen;omega
  case c2=>omega
  case c3=>simp
  exact Q16
def Ey (w:World) (M:List Bool) (out:Bool) (u t:Int) (came:Bool) (code:Int) (e:Ending) (w':World):Prop:=∃ v,e=.returned (.tuple #[.agg #[v,.bool out,.int .i64 u,.int .i64 t],.bool came,.int .i64 code])∧aM w.heap.size w' 1 v (cI M)∧Below w.heap.size w w'
theorem fq {w:World} {v:Value} {M:List Bool} (h:aI w 1 v (cI M)):∃ a cap,v=.slice a M.length cap∧(a=none→M=[]):=aq h
def zY (a b c:Int) (M:List Bool) (out:Bool) (u t now:Int) (M':List Bool) (out':Bool) (u' t':Int) (came:Bool) (code:Int):Prop:=
 ge a b c M.length out u t now code∧((code≠0∧M'=[]∧out'=false∧u'=0∧t'=0∧came=false)∨(code=0∧out=true∧u≤now∧M'=M∧out'=false∧u'=0∧t'=t∧came=true)∨(code=0∧(out=false∨(out=true∧now<u))∧M'=M∧out'=out∧u'=u∧t'=t∧came=false))
theorem qd (a b c:Int) (M:List Bool) (out:Bool) (u t now:Int) (M':List Bool) (out':Bool) (u' t':Int) (came:Bool) (code:Int) (v:Value) (w:World) (r:aI w 1 v (cI M)) (hn:M.length≤140737488351232) (h:zY a b c M out u t now M' out' u' t' came code) :
  Calls Tryz.prog 45 #[.agg #[.int .i64 a,.int .i64 b,.int .i64 c],.agg #[v,.bool out,.int .i64 u,.int .i64 t],.int .i64 now] w (Ey w M' out' u' t' came code):=by
 obtain ⟨hc,h⟩:=h
 have R:=Hu r
 have HC:=Hu hc
 obtain ⟨ad,cp,rfl,_⟩:=fq r
 clear r hc
 rcases h with ⟨h0,rfl,rfl,rfl,rfl,rfl⟩|⟨rfl,rfl,hu,rfl,rfl,rfl,rfl,rfl⟩|⟨rfl,ho,rfl,rfl,rfl,rfl,rfl⟩
 ·have e1:(code != 0)=true:=by simpa using h0
  clear h0;go_enter Tryz.func45,Tryz.ntmps45;go_wp2_with (go_at_call 89;refine (iF _ _ _ _ _ _ _ _ _ _ _ _ HC.out).mono ?_;rintro e w1 ⟨rfl,hb1⟩;obtain ⟨hc1,hf1⟩:=aV hb1;have hz1:=fQ hb1;have hy1:=hb1.size;(try simp at hy1));refine Ix (v:=.tuple #[.agg #[.slice none 0 0,.bool false,.int .i64 0,.int .i64 0],.bool false,.int .i64 code]) ?_ rfl ⟨_,rfl,bD _ _ _,Zb⟩;simp [results,Tryz.results45,go_sem, *]
 ·go_enter Tryz.func45,Tryz.ntmps45;go_wp2_with (go_at_call 89;refine (iF _ _ _ _ _ _ _ _ _ _ _ _ HC.out).mono ?_;rintro e w1 ⟨rfl,hb1⟩;obtain ⟨hc1,hf1⟩:=aV hb1;have hz1:=fQ hb1;have hy1:=hb1.size;(try simp at hy1));(try have kw1_0:w.heap.size<w1.heap.size:=by omega);(try have kw1_1:w.heap.size+1<w1.heap.size:=by omega);(try have kw1_2:w.heap.size+1+1<w1.heap.size:=by omega);refine (jr _ M' _ (au (ai (ai (ai R.out _) _) _) hb1) (by omega)).mono ?_;rintro e w2 ⟨v2,rfl,hown,hb2⟩;have R2:Hid (aM w1.heap.size w2 1 v2 (cI M')):=aD hown (I9 ..) (kN M');obtain ⟨a2,c2,rfl,_⟩:=fq R2.out.1;obtain ⟨hc2,hf2⟩:=aV hb2;have hz2:=fQ hb2;have hy2:=hb2.size;(try have kw2_0:w.heap.size<w2.heap.size:=by omega);(try have kw2_1:w.heap.size+1<w2.heap.size:=by omega);(try have kw2_2:w.heap.size+1+1<w2.heap.size:=by omega);clear hown;go_wp2;refine Ix (v:=.tuple #[.agg #[.slice a2 M'.length c2,.bool false,.int .i64 0,.int .i64 t'],.bool true,.int .i64 0]) ?_ rfl ⟨_,rfl,?_,Zb⟩
  ·simp [results,Tryz.results45,go_sem, *]
  ·exact Q44
 ·rcases ho with rfl|⟨rfl,hu⟩
  ·go_enter Tryz.func45,Tryz.ntmps45;go_wp2_with (go_at_call 89;refine (iF _ _ _ _ _ _ _ _ _ _ _ _ HC.out).mono ?_;rintro e w1 ⟨rfl,hb1⟩;obtain ⟨hc1,hf1⟩:=aV hb1;have hz1:=fQ hb1;have hy1:=hb1.size;(try simp at hy1));(try have kw1_0:w.heap.size<w1.heap.size:=by omega);(try have kw1_1:w.heap.size+1<w1.heap.size:=by omega);(try have kw1_2:w.heap.size+1+1<w1.heap.size:=by omega);refine (jr _ M' _ (au (ai (ai (ai R.out _) _) _) hb1) (by omega)).mono ?_;rintro e w2 ⟨v2,rfl,hown,hb2⟩;have R2:Hid (aM w1.heap.size w2 1 v2 (cI M')):=aD hown (I9 ..) (kN M');obtain ⟨a2,c2,rfl,_⟩:=fq R2.out.1;obtain ⟨hc2,hf2⟩:=aV hb2;have hz2:=fQ hb2;have hy2:=hb2.size;(try have kw2_0:w.heap.size<w2.heap.size:=by omega);(try have kw2_1:w.heap.size+1<w2.heap.size:=by omega);(try have kw2_2:w.heap.size+1+1<w2.heap.size:=by omega);clear hown;go_wp2;refine Ix (v:=.tuple #[.agg #[.slice a2 M'.length c2,.bool false,.int .i64 u',.int .i64 t'],.bool false,.int .i64 0]) ?_ rfl ⟨_,rfl,?_,Zb⟩
   ·simp [results,Tryz.results45,go_sem, *]
   ·exact Q44
  ·go_enter Tryz.func45,Tryz.ntmps45;go_wp2_with (go_at_call 89;refine (iF _ _ _ _ _ _ _ _ _ _ _ _ HC.out).mono ?_;rintro e w1 ⟨rfl,hb1⟩;obtain ⟨hc1,hf1⟩:=aV hb1;have hz1:=fQ hb1;have hy1:=hb1.size;(try simp at hy1));(try have kw1_0:w.heap.size<w1.heap.size:=by omega);(try have kw1_1:w.heap.size+1<w1.heap.size:=by omega);(try have kw1_2:w.heap.size+1+1<w1.heap.size:=by omega);refine (jr _ M' _ (au (ai (ai (ai R.out _) _) _) hb1) (by omega)).mono ?_;rintro e w2 ⟨v2,rfl,hown,hb2⟩;have R2:Hid (aM w1.heap.size w2 1 v2 (cI M')):=aD hown (I9 ..) (kN M');obtain ⟨a2,c2,rfl,_⟩:=fq R2.out.1;obtain ⟨hc2,hf2⟩:=aV hb2;have hz2:=fQ hb2;have hy2:=hb2.size;(try have kw2_0:w.heap.size<w2.heap.size:=by omega);(try have kw2_1:w.heap.size+1<w2.heap.size:=by omega);(try have kw2_2:w.heap.size+1+1<w2.heap.size:=by omega);clear hown;go_wp2;refine Ix (v:=.tuple #[.agg #[.slice a2 M'.length c2,.bool true,.int .i64 u',.int .i64 t'],.bool false,.int .i64 0]) ?_ rfl ⟨_,rfl,?_,Zb⟩
   ·simp [results,Tryz.results45,go_sem, *]
   ·exact Q44
theorem Bg:(Tryz.prog.info? 3).map (fun i=>(i.zero,i.size,i.bytes))=some (some (.int .i64 0),1,8):=by kernel_rfl
def gZ (X:List Sl) (k:Nat):List Int:=(List.range 12).map fun b=>((iX X (b:Nat) k).length:Int)
def mE (l:List Int):List (List Value):=l.map fun x=>[Value.int .i64 x]
theorem gR (X:List Sl) (k:Nat):(gZ X k).length=12:=by simp [gZ]
theorem yr (l:List Int):∀ c∈mE l,c.length=1:=by
 intro c hc;simp only [mE,It] at hc;obtain ⟨x,_,rfl⟩:=hc
 rfl
theorem vW (l:List Int):(mE l).flatten=l.map (Value.int .i64):=by
 induction l with
 | nil=>rfl
 | cons x l ih=>simp only [mE,List.map_cons,List.flatten_cons] at ih ⊢;rw [ih];rfl
theorem kA (X:List Sl) (k:Nat) (m:Nat) (h:m<12):(gZ X k)[m]?=some ((iX X (m:Nat) k).length:Int):=by
 simp [gZ,h]
theorem Gq {X:List Sl} {k:Nat} {s:Sl} (hs:s=X.getD k Sl.zero) (h:s.used=false):gZ X (k+1)=gZ X k:=by
 unfold gZ;refine List.map_congr_left fun b _=>?_;rw [tS hs (by rw [h];simp)]
theorem DZ {X:List Sl} {k m:Nat} {s:Sl} (hs:s=X.getD k Sl.zero) (h:s.used=true) (hm:s.backend=(m:Int)) (h12:m<12):gZ X (k+1)=(gZ X k).set m (((iX X (m:Nat) k).length:Int)+1):=by
 apply List.ext_getElem?;intro j;rw [List.getElem?_set];by_cases hj:j<12
 ·rw [kA _ _ _ hj];by_cases hmj:m=j
  ·subst hmj;rw [if_pos rfl,if_pos (by simpa [gZ] using hj),tR hs h hm];simp
  ·rw [if_neg hmj,kA _ _ _ hj,tS hs (by rw [hm];intro h';have:=h'.2;omega)]
 ·rw [if_neg (by omega),Ik (by rw [gR];omega),Ik (by rw [gR];omega)]
theorem cntL_0 (X:List Sl):(gZ X 0).map (Value.int .i64)=List.replicate 12 (.int .i64 0):=by
 simp [gZ,iX]
 rfl
theorem vD:(madeCells #[Value.int .i64 0] 12).toList=List.replicate 12 (.int .i64 0):=(fy #[Value.int .i64 0] 12 (by decide)).trans rfl
def GX (w:World) (L:List Int) (code:Int) (e:Ending) (w':World):Prop:=∃ v,e=.returned (.tuple #[v,.int .i64 code])∧aM w.heap.size w' 1 v (L.map fun x=>[Value.int .i64 x])∧Below w.heap.size w w'
def EB (w wr:World) (s:Value) (X:List Sl) (g k:Nat):Prop:=Below w.heap.size w wr∧w.heap.size<g∧wr.cell? ⟨w.heap.size,0,none⟩=some s∧wr.ownsRow (w.heap.size+1) 3 1 (.slice (some ⟨g,0,none⟩) 12 12) 12 ((gZ X k).map (Value.int .i64))
theorem jN (b0 o0 c0:Nat) (X:List Sl) (w:World) (hb0:b0<w.heap.size) (hm:dN X) (r:aI w 4 (.slice (some ⟨b0,o0,none⟩) X.length c0) (X.map Sl.cells)) (h1:∀ i j,i<X.length→j<4→w.cell? ⟨b0,o0+i*4+j,none⟩=(X.getD i Sl.zero).cells[j]?) :
  Calls Tryz.prog 93 #[.agg #[.slice (some ⟨b0,o0,none⟩) X.length c0]] w (GX w (gZ X X.length) 0):=by
 obtain ⟨i0,hi,hi0,hi1,hi2⟩:=info_parts Bg
 have H1:=Hu h1
 have R:=Hu r
 have M:=Hu hm
 have g2:X.length≤40:=hm.2.1
 clear h1 r hm
 go_enter Tryz.func93,Tryz.ntmps93
 go_wp2_with (first|(go_at_call 41;refine (fc _ X _ (ai R.out _) M.out).mono ?_;rintro e w1 ⟨rfl,hb1⟩;obtain ⟨hc1,hf1⟩:=aV hb1;have hz1:=fQ hb1;have hy1:=hb1.size;(try simp at hy1))|(at_make;go_loud (refine wpList_make_full _ rfl _ _ 117 rfl (w.heap.size+1) 3 i0 (.int .i64 0) 1 Tryz.underlying117 hi hi0 hi1 .i64 .i64 12 12 12 rfl rfl rfl rfl ?c1 ?c2 ?c3 ?_)))
 case c1=>rw [hi2];omega
 case c2=>unfold maxLen;omega
 case c3=>omega
 intro w2 hown hgrow
 rw [show (madeCells #[.int .i64 0] (12*1)).toList=(gZ X 0).map (Value.int .i64) from vD.trans (cntL_0 X).symm] at hown
 have B0:Below w1.heap.size w1 w2:=(Hv _ _).grown hgrow (by simp) (fun k hk=>by cases hk)
 have BB:=Hu ((((Hv w.heap.size w).alloc (I3 _) _).trans (hb1.mono (by simp))).trans (B0.mono (by omega)))
 have c1:w2.cell? ⟨w.heap.size,0,none⟩=some (.slice (some ⟨b0,o0,none⟩) X.length c0):=by
  rw [B0.cell (p:=⟨w.heap.size,0,none⟩) (by simp;omega),hc1 _ _ (by simp)];go_simp
 have HO:=Hu hown
 obtain ⟨g,hg⟩:∃ g,g=w1.heap.size:=⟨_,rfl⟩
 have hg1:w.heap.size<g:=by omega
 rw [← hg] at HO ⊢
 clear hown hgrow B0 hc1 hf1 hz1 hb1 hy1 hg
 go_wp2_with fail
 go_loopw [17] (fun i wr=>∃ k:Nat,k≤X.length∧i=.int .i64 k∧EB w wr (.slice (some ⟨b0,o0,none⟩) X.length c0) X g k) (fun i _=>X.length - (intOf i).toNat)
 case atStart=>exact ⟨0,I4 _,rfl,BB.out,hg1,c1,HO.out⟩
 case round=>
  obtain ⟨k,hk,rfl,hb,hsz,c1,hown⟩:=hrel;clear HO BB;rcases (show k<X.length∨X.length=k by omega) with hlt|heq
  ·have hlt':(k:Int)<(X.length:Int):=by omega
   obtain ⟨s,hs⟩:∃ s,s=X.getD k Sl.zero:=⟨_,rfl⟩
   have hmem:dw s:=by rw [hs];refine M.out.2.2 _ ?_;simp only [List.getD,Ib hlt,Iu];exact If _
   have hold:∀ j,j<4→wr.cell? ⟨b0,o0+k*4+j,none⟩=s.cells[j]?:=fun j hj=>by
    exact Q170
   have a0:=hold 0 (by omega);have a1:=hold 1 (by omega);have a2:=hold 2 (by omega);have a3:=hold 3 (by omega);clear hold;have HS:=Hu hs;have HB:=Hu hb;have HO:=Hu hown;clear hs hb hown;obtain ⟨g',u,ky,bb⟩:=s;simp only [Sl.cells,I5,I6,Nat.add_zero] at a0 a1 a2 a3;have gl:g<wr.heap.size:=(HO.out.lt _ rfl).2
   cases u with
   | false=>
    have KB:=Hu ((Hv wr.heap.size wr).alloc (I3 _) (.cells #[.int .i64 g',.bool false,.int .i64 ky,.int .i64 bb] 143));go_wp2;go_roundw
    case rel=>exact ⟨k+1,by omega,by go_num,by unfold EB;rw [Gq HS.out rfl];exact ⟨HB.out.trans (KB.out.mono (HB.out.size)),hsz,aE _ c1,jh HO.out KB.out⟩⟩
    case measure=>simp [intOf];omega
   | true=>
    obtain ⟨f1,f2,f3,f4,f5,f6⟩:0≤g'∧g'≤1048575∧0≤ky∧ky≤4294967295∧0≤bb∧bb≤11:=by simpa [dw] using hmem
    obtain ⟨m,rfl⟩:=Ih f5;have hm12:m<12:=by omega
    have e1:wr.cell? ⟨g,m,none⟩=some (.int .i64 ((iX X (m:Nat) k).length:Int)):=by rw [HO.out.cellAt m (by omega),List.getElem?_map,kA _ _ _ hm12];rfl
    have e2:wr.frozen? ⟨g,m,none⟩=false:=HO.out.frozenAt m;have hL:=kL X (m:Nat) k;have KB:=Hu ((Hv wr.heap.size wr).alloc (I3 _) (.cells #[.int .i64 g',.bool true,.int .i64 ky,.int .i64 m] 143));have hm12':(m:Int)<12:=by omega
    clear hmem;go_wp2;go_roundw
    case rel=>
     refine ⟨k+1,by omega,by go_num,(HB.out.setCell (by simp;omega) _).alloc (by simp;have:=HB.out.size;omega) _,hsz,(by repeat (first|(with_reducible assumption)|(with_reducible refine aE _ ?_)|(with_reducible refine dh _ ?_)|(refine (aR (by omega)).trans ?_))),?_⟩;rw [DZ HS.out rfl rfl hm12,List.map_set];exact (HO.out.stored m _).1.alloc _
    case measure=>simp [intOf];omega
  ·have hge:¬ (k:Int)<(X.length:Int):=by omega
   have HB:=Hu hb;have HO:=Hu hown;clear hb hown;go_wp2;refine Ix (v:=.tuple #[.slice (some ⟨g,0,none⟩) 12 12,.int .i64 0]) ?_ rfl ?_
   ·simp [results,Tryz.results93,go_sem, *]
   ·refine ⟨_,rfl,aG (aD (e:=3) (n:=12) (L:=mE (gZ X k)) ?_ ((I9 ..).trans (gR _ _)) (yr _)) (Nat.le_succ _),HB.out⟩;rw [vW];exact HO.out
theorem ku:(Tryz.prog.info? 151).map (fun i=>(i.zero,i.size,i.bytes))=some (some (.agg #[.int .i64 0,.int .i64 0]),2,16):=by kernel_rfl
theorem ii (X:List Sp):∀ c∈X.map (fun x=>Sp.cells (x)),c.length=2:=by
 exact Q29
theorem tO (X:List Sp):∀ u∈(X.map (fun x=>Sp.cells (x))).flatten,u.oneCell'=true:=by
 intro u hu;simp only [List.mem_flatten,It] at hu;obtain ⟨c,⟨x,_,rfl⟩,hu⟩:=hu;simp [Sp.cells] at hu;rcases hu with rfl|rfl<;>rfl
theorem ue (v:Value) (X:List Sp) (w:World) (r:aI w 2 v (X.map (fun x=>Sp.cells (x)))) (hb:X.length*16≤140737488351232) :
  Calls Tryz.prog 54 #[v] w (gI w 151 2 X.length (X.map (fun x=>Sp.cells (x))).flatten):=by
 obtain ⟨i0,hi,hi0,hi1,hi2⟩:=info_parts ku
 have hlen:=ii X
 have hone:=tO X
 obtain ⟨a,cap,rfl,h1,h2,h3,h4⟩:=r
 simp only [I9] at h1 ⊢
 cases a with
 | none=>
  have hX:X=[]:=List.length_eq_zero_iff.1 (by have:=h3 rfl;omega);have hc:=h3 rfl;subst hX hc;clear h1 h2 h3 h4;have hnil:=fun (w:World) (n c:Nat)=>Lib.run_eql_slice_nil (P:=Tryz.prog) w 53 151 none n c 0 0 Tryz.underlying53;go_enter Tryz.func54,Tryz.ntmps54;exact Q41
 | some ad=>
  have hnews:∀ (C:Obj) k u,(X.map (fun x=>Sp.cells (x))).flatten[k]?=some u→(w.alloc C).cell? (ad.add k)=some u:=by
   exact Q20
  have hfl:(X.map (fun x=>Sp.cells (x))).flatten.length=X.length*2:=by rw [aO hlen,I9]
  have A:=Hu (And.intro hlen (And.intro hone (And.intro hnews hfl)));clear hlen hone hnews hfl h1 h2 h3 h4;have hnil:=fun (w:World) (n c:Nat)=>Lib.run_eql_slice_nil (P:=Tryz.prog) w 53 151 (some ad) n c 0 0 Tryz.underlying53;go_enter Tryz.func54,Tryz.ntmps54;go_wp2_with (at_builtin;go_loud (refine wpList_append_own _ rfl _ _ 53 rfl w.heap.size 151 i0 (.agg #[.int .i64 0,.int .i64 0]) 2 16 Tryz.underlying53 hi hi0 hi1 hi2 rfl (by decide) _ 0 [] rfl (gx w 151 2) ad X.length cap ((X.map (fun x=>Sp.cells (x))).flatten) rfl A.out.2.2.2 (A.out.2.2.1 _) A.out.2.1 ?c1 ?c2 ?c3 ?_))
  case c1=>unfold maxLen;omega
  case c2=>omega
  case c3=>simp
  exact Q16
theorem vR:(Tryz.prog.info? 98).map (fun i=>(i.zero,i.size,i.bytes))=some (some (.agg #[.int .i64 0,.int .i64 0,.int .i64 0,.int .i64 0,.bool false,.int .i64 0,.int .i64 0]),7,56):=by kernel_rfl
theorem pf (X:List Fl):∀ c∈X.map (fun x=>Fl.cells (x)),c.length=7:=by
 exact Q29
theorem zp (X:List Fl):∀ u∈(X.map (fun x=>Fl.cells (x))).flatten,u.oneCell'=true:=by
 intro u hu;simp only [List.mem_flatten,It] at hu;obtain ⟨c,⟨x,_,rfl⟩,hu⟩:=hu;exact Q75
theorem Gr (v:Value) (X:List Fl) (w:World) (r:aI w 7 v (X.map (fun x=>Fl.cells (x)))) (hb:X.length*56≤140737488351232) :
  Calls Tryz.prog 51 #[v] w (gI w 98 7 X.length (X.map (fun x=>Fl.cells (x))).flatten):=by
 obtain ⟨i0,hi,hi0,hi1,hi2⟩:=info_parts vR
 have hlen:=pf X
 have hone:=zp X
 obtain ⟨a,cap,rfl,h1,h2,h3,h4⟩:=r
 simp only [I9] at h1 ⊢
 cases a with
 | none=>
  have hX:X=[]:=List.length_eq_zero_iff.1 (by have:=h3 rfl;omega);have hc:=h3 rfl;subst hX hc;clear h1 h2 h3 h4;have hnil:=fun (w:World) (n c:Nat)=>Lib.run_eql_slice_nil (P:=Tryz.prog) w 48 98 none n c 0 0 Tryz.underlying48;go_enter Tryz.func51,Tryz.ntmps51;exact Q41
 | some ad=>
  have hnews:∀ (C:Obj) k u,(X.map (fun x=>Fl.cells (x))).flatten[k]?=some u→(w.alloc C).cell? (ad.add k)=some u:=by
   exact Q20
  have hfl:(X.map (fun x=>Fl.cells (x))).flatten.length=X.length*7:=by rw [aO hlen,I9]
  have A:=Hu (And.intro hlen (And.intro hone (And.intro hnews hfl)));clear hlen hone hnews hfl h1 h2 h3 h4;have hnil:=fun (w:World) (n c:Nat)=>Lib.run_eql_slice_nil (P:=Tryz.prog) w 48 98 (some ad) n c 0 0 Tryz.underlying48;go_enter Tryz.func51,Tryz.ntmps51;go_wp2_with (at_builtin;go_loud (refine wpList_append_own _ rfl _ _ 48 rfl w.heap.size 98 i0 (.agg #[.int .i64 0,.int .i64 0,.int .i64 0,.int .i64 0,.bool false,.int .i64 0,.int .i64 0]) 7 56 Tryz.underlying48 hi hi0 hi1 hi2 rfl (by decide) _ 0 [] rfl (gx w 98 7) ad X.length cap ((X.map (fun x=>Fl.cells (x))).flatten) rfl A.out.2.2.2 (A.out.2.2.1 _) A.out.2.1 ?c1 ?c2 ?c3 ?_))
  case c1=>unfold maxLen;omega
  case c2=>omega
  case c3=>simp
  exact Q16
theorem Ds:(Tryz.prog.info? 143).map (fun i=>(i.zero,i.size,i.bytes))=some (some (.agg #[.int .i64 0,.bool false,.int .i64 0,.int .i64 0]),4,32):=by kernel_rfl
theorem kM (X:List Sl):∀ c∈X.map (fun x=>Sl.cells (x)),c.length=4:=by
 exact Q29
theorem FC (X:List Sl):∀ u∈(X.map (fun x=>Sl.cells (x))).flatten,u.oneCell'=true:=by
 intro u hu;simp only [List.mem_flatten,It] at hu;obtain ⟨c,⟨x,_,rfl⟩,hu⟩:=hu;simp [Sl.cells] at hu;rcases hu with rfl|rfl|rfl|rfl<;>rfl
theorem zH (v:Value) (X:List Sl) (w:World) (r:aI w 4 v (X.map (fun x=>Sl.cells (x)))) (hb:X.length*32≤140737488351232) :
  Calls Tryz.prog 50 #[v] w (gI w 143 4 X.length (X.map (fun x=>Sl.cells (x))).flatten):=by
 obtain ⟨i0,hi,hi0,hi1,hi2⟩:=info_parts Ds
 have hlen:=kM X
 have hone:=FC X
 obtain ⟨a,cap,rfl,h1,h2,h3,h4⟩:=r
 simp only [I9] at h1 ⊢
 cases a with
 | none=>
  have hX:X=[]:=List.length_eq_zero_iff.1 (by have:=h3 rfl;omega);have hc:=h3 rfl;subst hX hc;clear h1 h2 h3 h4;have hnil:=fun (w:World) (n c:Nat)=>Lib.run_eql_slice_nil (P:=Tryz.prog) w 45 143 none n c 0 0 Tryz.underlying45;go_enter Tryz.func50,Tryz.ntmps50;exact Q41
 | some ad=>
  have hnews:∀ (C:Obj) k u,(X.map (fun x=>Sl.cells (x))).flatten[k]?=some u→(w.alloc C).cell? (ad.add k)=some u:=by
   exact Q20
  have hfl:(X.map (fun x=>Sl.cells (x))).flatten.length=X.length*4:=by rw [aO hlen,I9]
  have A:=Hu (And.intro hlen (And.intro hone (And.intro hnews hfl)));clear hlen hone hnews hfl h1 h2 h3 h4;have hnil:=fun (w:World) (n c:Nat)=>Lib.run_eql_slice_nil (P:=Tryz.prog) w 45 143 (some ad) n c 0 0 Tryz.underlying45;go_enter Tryz.func50,Tryz.ntmps50;go_wp2_with (at_builtin;go_loud (refine wpList_append_own _ rfl _ _ 45 rfl w.heap.size 143 i0 (.agg #[.int .i64 0,.bool false,.int .i64 0,.int .i64 0]) 4 32 Tryz.underlying45 hi hi0 hi1 hi2 rfl (by decide) _ 0 [] rfl (gx w 143 4) ad X.length cap ((X.map (fun x=>Sl.cells (x))).flatten) rfl A.out.2.2.2 (A.out.2.2.1 _) A.out.2.1 ?c1 ?c2 ?c3 ?_))
  case c1=>unfold maxLen;omega
  case c2=>omega
  case c3=>simp
  exact Q16
end
end Go.Proofs.YtfliffgmeobclaaGreat
