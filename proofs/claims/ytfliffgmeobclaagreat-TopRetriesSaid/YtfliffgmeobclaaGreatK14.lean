/- Texts of the row's proof. Conditions: none. -/
import Derived.Deep.DeepAppendRoom
import Derived.Deep.Onto
import Derived.Deep.RegionLaw
import Derived.Lib.AppendZerosOnto
import Derived.Lib.Overlaps
import Derived.Test.YtfliffgmeobclaaGreatK03
namespace Go.Proofs.YtfliffgmeobclaaGreat
set_option maxRecDepth 100000
set_option maxHeartbeats 8000000
section
open Go.RowKit
theorem Q57 {p:Prop} (h:p:=by
 rw [show i+(X.length+1 - i)=X.length+1 by omega,← hG,← hrow] at h;rw [show ((X.length:Int)+1 - (i:Int))=((X.length+1 - i:Nat):Int) by omega];exact h):p:=h
theorem Q60 {p:Prop} (h:p:=by
 rw [← e2,← htk,List.getElem?_drop,List.getElem?_take] at hu
 split at hu
 ·rw [ae hg,← Iw];exact hu
 ·cases hu):p:=h
theorem Q71 {p:Prop} (h:p:=by
 rw [hrow];simp only [Array.toList_append,List.append_assoc];rw [List.take_append_of_le_length (by omega),I7 (by omega)]):p:=h
theorem Q90 {p:Prop} (h:p:=by
 simp [Result.andThen,sliced,show ¬ cap=i+1 by omega,Addr.add_lit,show ((i:Int)+1).toNat=i+1 by omega]):p:=h
theorem Q95 {p:Prop} (h:p:=by
 simp [Result.andThen,sliced,show ¬ G=i+1 by omega,Addr.add_lit,show ((i:Int)+1).toNat=i+1 by omega]):p:=h
theorem Q111 {p:Prop} (h:p:=by
 show World.ownsRow _ _ _ _ _ _ _
 rw [HIn.out,Ie];simpa using hown'):p:=h
theorem Q137 {p:Prop} (h:p:=by
 rw [run_slice_h W 49 _ _ _ ht .i64 _ (by omega) (by omega),he,hz];simp [Result.andThen,sliced,Addr.add_lit]):p:=h
theorem dO {P:Program} (w:World) (dT sT ty elem:TypeId) (sz g o dLen dCap:Nat) (a:Addr) (sLen sCap:Nat) (cur:Array Value) (t:TypeId) (cs:List Value)
  (hu:P.underlying dT=some (.slice elem)) (hs:(P.info? elem).map (·.size)=some sz)
  (hg:w.heap[g]?=some (.cells cur t (0,0))) (hn:cs.length=Nat.min sLen dLen*sz)
  (hsrc:∀ j v,cs[j]?=some v→w.cell? (a.add j)=some v) (hfit:o+cs.length≤cur.size) (h1:∀ v∈cs,v.oneCell'=true) :
  (Builtin.copy_ #[dT,sT] ty #[.slice (some ⟨g,o,none⟩) dLen dCap,.slice (some a) sLen sCap]).run P w =
   .ok (goInt (Nat.min sLen dLen:Nat)) (w.setRow g (cur.toList.take o++cs++cur.toList.drop (o+cs.length)).toArray):=by
 have hl:=run_loadCells_list (P:=P) w a cs hsrc
 have hst:=run_storeCells_at P g o t cs 0 cur w hg (by simpa using hfit) h1
 cases hq:P.info? elem with
 | none=>simp [hq] at hs
 | some i=>
  have hi:i.size=sz:=by simpa [hq] using hs
  simp [Builtin.copy_,run_underlying hu,Builtin.lenOf,Builtin.firstCells,sizeOf,typeInfo,hq,hi,← hn,hl,hst]
theorem iB {P:Program} (w:World) {ops:Array Oper} {rest:List Oper} {o:Oper} {a:Act} {Q:Exit→Act→World→Prop} (hgd:o.guard=none) (d s:Operand) (t t':TypeId)
  (ho:o.op=.call { callee:=.builtin .append,args:=#[d,s],argTypes:=#[t,t'] }) (v u:Value) (hd:a.eval d=v) (hs:a.eval s=u) {v':Value} {w':World}
  (hr:∀ ty,(Builtin.append_ #[t,t'] ty #[v,u]).run P w=.ok v' w') (h:wpList P ops Q rest (a.put o.dst v') w'):wpList P ops Q (o :: rest) a w:=by
 refine wpList_plain hgd fun K hK=>?_
 unfold Oper.wp
 simp [execOp,ho,resolve,invoke,builtin,hd,hs,hr,Result.andThen]
 exact hK _ _ h
theorem gs {P:Program} {ops:Array Oper} {o:Oper} {a:Act} {w:World} {K:Act→World→Prop} {Q:Exit→Act→World→Prop} {E:Prop}
  (hg:o.guard=none) (d x:Operand) (dT sT:TypeId) (hop:o.op=Op.call { callee:=Callee.builtin Builtin.copy,args:=#[d,x],argTypes:=#[dT,sT] })
  (v u:Value) (hd:a.eval d=v) (hx:a.eval x=u) {v':Value} {w':World} (hr:∀ ty,(Builtin.copy_ #[dT,sT] ty #[v,u]).run P w=.ok v' w') (hK:K (a.put o.dst v') w') :
  if Region.wanted o (yielded ops a.tmps)=true then Oper.wp P o a w K Q else E:=by
 have hw:Region.wanted o (yielded ops a.tmps)=true:=by simp [Region.wanted,hg]
 rw [if_pos hw]
 unfold Oper.wp
 simp [execOp,hop,resolve,invoke,builtin,hd,hx,hr,Result.andThen]
 exact hK
def eo {α:Type} (X:List α) (i:Nat) (c:α):List α:=X.take i++c :: X.drop i
theorem Dh {α:Type} (X:List α) (i:Nat) (c:α) (h:i≤X.length):(eo X i c).length=X.length+1:=by simp [eo];omega
theorem qw {α:Type} (X:List α) (c:α):eo X X.length c=X++[c]:=by simp [eo]
theorem jp {sz:Nat} {X:List (List Value)} (hX:∀ c∈X,c.length=sz) (i:Nat) (hi:i≤X.length):X.flatten.take (i*sz)=(X.take i).flatten∧X.flatten.drop (i*sz)=(X.drop i).flatten∧(X.take i).flatten.length=i*sz∧(X.drop i).flatten.length=(X.length - i)*sz:=by
 have h1:(X.take i).flatten.length=i*sz:=by rw [aO (fun c hc=>hX c (List.mem_of_mem_take hc)),Ib,Nat.min_eq_left hi]
 have h2:(X.drop i).flatten.length=(X.length - i)*sz:=by rw [aO (fun c hc=>hX c (List.mem_of_mem_drop hc)),List.length_drop]
 have e:X.flatten=(X.take i).flatten++(X.drop i).flatten:=by rw [← Ie,Ig]
 refine ⟨?_,?_,h1,h2⟩
 ·rw [e,List.take_append_of_le_length (by omega),I7 (by omega)]
 ·rw [e,List.drop_append,List.drop_of_length_le (by omega),h1];simp
theorem qt {sz cap i:Nat} {X:List (List Value)} {c:List Value} {cur:List Value} (hX:∀ c∈X,c.length=sz) (hc:c.length=sz) (hi:i<X.length) (hcap:X.length+1≤cap) (hl:cur.length=cap*sz) (ht:cur.take (X.length*sz)=X.flatten) :
  ∀ cur1,cur1=cur.take ((i+1)*sz)++(X.drop i).flatten++cur.drop ((i+1)*sz+(X.drop i).flatten.length)→cur1.length=cap*sz∧(cur1.take (i*sz)++c++cur1.drop (i*sz+c.length)).length=cap*sz∧(cur1.take (i*sz)++c++cur1.drop (i*sz+c.length)).take ((X.length+1)*sz)=(eo X i c).flatten:=by
 intro cur1 h1
 obtain ⟨e1,e2,e3,e4⟩:=jp hX i (by omega)
 have m1:(i+1)*sz=i*sz+sz:=Nat.succ_mul i sz
 have m2:X.length*sz+sz≤cap*sz:=by rw [← Nat.succ_mul];exact Ic _ hcap
 have m3:(X.length - i)*sz+i*sz=X.length*sz:=by rw [← Nat.add_mul,Nat.sub_add_cancel (by omega)]
 have m4:(X.length+1)*sz=X.length*sz+sz:=Nat.succ_mul _ _
 have m5:i*sz+sz≤X.length*sz:=by rw [← Nat.succ_mul];exact Ic _ hi
 have l0:(cur.take ((i+1)*sz)).length=i*sz+sz:=by rw [Ib];omega
 have l1:cur1.length=cap*sz:=by rw [h1];simp only [I5,l0,e4,List.length_drop];omega
 have t1:cur1.take (i*sz)=(X.take i).flatten:=by
  rw [h1,List.append_assoc,List.take_append_of_le_length (by omega),List.take_take,Nat.min_eq_left (by omega)];have:cur.take (i*sz)=(cur.take (X.length*sz)).take (i*sz):=by rw [List.take_take,Nat.min_eq_left (by omega)]
  rw [this,ht,e1]
 have d1:cur1.drop (i*sz+c.length)=(X.drop i).flatten++cur.drop ((i+1)*sz+(X.drop i).flatten.length):=by
  rw [h1,List.append_assoc,List.drop_append,List.drop_of_length_le (by omega),l0,hc];simp
 refine ⟨l1,?_,?_⟩
 ·simp only [I5,Ib,List.length_drop,l1,hc];omega
 ·rw [t1,d1];have:(eo X i c).flatten=(X.take i).flatten++c++(X.drop i).flatten:=by simp [eo]
  rw [this,← List.append_assoc,List.take_append_of_le_length (by simp only [I5,e3,e4,hc];omega),I7 (by simp only [I5,e3,e4,hc];omega)]
theorem qv {sz cap i:Nat} {X:List (List Value)} {c:List Value} {row:List Value} (hX:∀ c∈X,c.length=sz) (hc:c.length=sz) (hi:i<X.length) (hcap:X.length+1≤cap) (hl:row.length=cap*sz) (ht:row.take (i*sz)=(X.take i).flatten) :
  ∀ r1,r1=row.take (i*sz)++c++row.drop (i*sz+c.length)→r1.length=cap*sz∧(r1.take ((i+1)*sz)++(X.drop i).flatten++r1.drop ((i+1)*sz+(X.drop i).flatten.length)).length=cap*sz∧(r1.take ((i+1)*sz)++(X.drop i).flatten++r1.drop ((i+1)*sz+(X.drop i).flatten.length)).take ((X.length+1)*sz)=(eo X i c).flatten:=by
 intro r1 h1
 obtain ⟨e1,e2,e3,e4⟩:=jp hX i (by omega)
 have m1:(i+1)*sz=i*sz+sz:=Nat.succ_mul i sz
 have m2:X.length*sz+sz≤cap*sz:=by rw [← Nat.succ_mul];exact Ic _ hcap
 have m3:(X.length - i)*sz+i*sz=X.length*sz:=by rw [← Nat.add_mul,Nat.sub_add_cancel (by omega)]
 have m4:(X.length+1)*sz=X.length*sz+sz:=Nat.succ_mul _ _
 have m5:i*sz+sz≤X.length*sz:=by rw [← Nat.succ_mul];exact Ic _ hi
 have l1:r1.length=cap*sz:=by rw [h1];simp only [I5,Ib,List.length_drop,hc];omega
 have t1:r1.take ((i+1)*sz)=(X.take i).flatten++c:=by
  rw [h1,ht,List.take_append_of_le_length (by simp only [I5,e3,hc];omega),I7 (by simp only [I5,e3,hc];omega)]
 refine ⟨l1,?_,?_⟩
 ·simp only [I5,Ib,List.length_drop,l1,e4];omega
 ·rw [t1];have:(eo X i c).flatten=(X.take i).flatten++c++(X.drop i).flatten:=by simp [eo]
  rw [this,List.take_append_of_le_length (by simp only [I5,e3,e4,hc];omega),I7 (by simp only [I5,e3,e4,hc];omega)]
def zM (B:Nat) (w:World) (E:TypeId) (sz:Nat) (v:Value) (X:List (List Value)) (i:Nat) (c:List Value) (e:Ending) (w':World):Prop:=∃ v',e=.returned v'∧w'.ownsRow B E sz v' (X.length+1) (eo X i c).flatten∧w.grownBy w' v.ownBlock
def InsPost2 (B:Nat) (w:World) (E:TypeId) (sz:Nat) (v:Value) (X:List (List Value)) (i:Nat) (c:List Value) (e:Ending) (w':World):Prop:=∃ v',e=.returned v'∧w'.ownsRow B E sz v' (X.length+1) (eo X i c).flatten∧w.grownBy w' v.ownBlock∧∀ b,v'.ownBlock=some b→v.ownBlock=some b∨w.heap.size≤b
theorem InsPost2.one {B:Nat} {w:World} {E:TypeId} {sz:Nat} {v:Value} {X:List (List Value)} {i:Nat} {c:List Value} {e:Ending} {w':World} (h:InsPost2 B w E sz v X i c e w'):zM B w E sz v X i c e w':=by
 obtain ⟨v',h1,h2,h3,_⟩:=h;exact ⟨v',h1,h2,h3⟩
theorem qx {w w':World} (h:w.grownBy w' none) (o:Option Nat):w.grownBy w' o:=⟨h.os,h.tape,h.output,h.size,fun k hk _=>h.block k hk (by simp)⟩
theorem fN {P:Program} (w:World) {ops:Array Oper} {rest:List Oper} {o:Oper} {a:Act} {Q:Exit→Act→World→Prop} (hgd:o.guard=none) (s x:Operand) (t:TypeId)
  (ho:o.op=.call { callee:=.builtin .append,args:=#[s,x],argTypes:=#[t,t] })
  (base:Nat) (e:TypeId) (i:TypeInfo) (z:Value) (size bytes:Nat) (ht:P.underlying t=some (.slice e)) (hi:P.info? e=some i) (hz:i.zero=some z)
  (hsize:i.size=size) (hby:i.bytes=bytes) (hzs:z.cells.size=size) (hsz:0<size)
  (v:Value) (n:Nat) (xs:List Value) (hs:a.eval s=v) (hown:w.ownsRow base e size v n xs)
  (ad:Addr) (m c:Nat) (news:List Value) (hx:a.eval x=.slice (some ad) m c) (hl:news.length=m*size) (hnews:∀ j u,news[j]?=some u→w.cell? (ad.add j)=some u) (h1:∀ u∈news,u.oneCell'=true) (hm:0<m)
  (h63:n+m≤maxLen) (hbytes:(n+m)*bytes≤140737488355328) (hbase:base≤w.heap.size)
  (h:∀ v' w',w'.ownsRow base e size v' (n+m) (xs++news)→w.grownBy w' v.ownBlock→(∀ b,v'.ownBlock=some b→v.ownBlock=some b∨w.heap.size≤b)→wpList P ops Q rest (a.put o.dst v') w'):wpList P ops Q (o :: rest) a w:=by
 have hxl:=hown.1
 rcases hown.2 with ⟨rfl,rfl⟩|⟨g,cap,cur,rfl,hbg,hg,hnc,hcm,hcs,htake⟩
 ·obtain rfl:xs=[]:=List.eq_nil_of_length_eq_zero (by simpa using hxl)
  exact wpList_append_grows w hgd s x t ho e i z size bytes ht hi hz hsize hby hzs hsz none 0 0 [] hs (fun _=>⟨rfl,rfl⟩) (by simp) (fun b hb=>by cases hb) ad m c news hx hl hnews h1 (by omega) h63 hbytes
   (fun v' w' h2 h3=>h v' w' (h2.mono hbase) (qx h3 _) (fun b hb=>Or.inr (h2.lt b hb).1))
 ·by_cases hroom:n+m≤cap
  ·exact wpList_append_own_spare w hgd s x t ho base e i size ht hi hsize g n cap xs hs hown ad m c news hx hl hnews h1 hroom (fun w' h2 h3=>h _ w' h2 h3 (fun b hb=>Or.inl hb))
  ·exact wpList_append_grows w hgd s x t ho e i z size bytes ht hi hz hsize hby hzs hsz (some ⟨g,0,none⟩) n cap xs hs (fun e=>by cases e) hxl (fun b hb=>by injection hb with hb;subst hb;exact hown.cells (g:=g) rfl) ad m c news hx hl hnews h1 (by omega) h63 hbytes
    (fun v' w' h2 h3=>h v' w' (h2.mono hbase) (qx h3 _) (fun b hb=>Or.inr (h2.lt b hb).1))
theorem yg:(Tryz.prog.info? 156).map (fun i=>(i.zero,i.size,i.bytes))=some (some (.agg #[.int .i64 0,.int .i64 0]),2,16):=by kernel_rfl
theorem insTm2 (B:Nat) (v:Value) (X:List (List Value)) (i vb:Nat) (c:List Value) (w:World) (ho:w.ownsRow B 156 2 v X.length X.flatten) (hX:∀ c∈X,c.length=2) (h1:∀ u∈X.flatten,u.oneCell'=true) (hc:c.length=2) (hc1:∀ u∈c,u.oneCell'=true)
  (hi:i≤X.length) (hn:X.length≤100000) (hvb:w.heap[vb]?=some (.cells c.toArray 156 (0,0))) (hne:v.ownBlock≠some vb) (hB:B≤w.heap.size) :
  Calls Tryz.prog 146 #[v,.int .i64 (i:Int),.slice (some ⟨vb,0,none⟩) 1 1] w (InsPost2 B w 156 2 v X i c):=by
 obtain ⟨i0,ji,ji0,ji1,ji2⟩:=info_parts yg
 have hz:∀ W,(sizeOf 156).run Tryz.prog W=.ok 2 W:=fun W=>by simp [sizeOf,typeInfo,ji,ji1]
 have ht:Tryz.prog.underlying 153=some (.slice (Tryz.prog.elem 153)):=by kernel_rfl
 have htu:Tryz.prog.underlying 153=some (.slice 156):=by kernel_rfl
 have he:Tryz.prog.elem 153=156:=by kernel_rfl
 have hsz:(Tryz.prog.info? 156).map (·.size)=some 2:=by rw [ji];simp [ji1]
 have hvn:∀ j u,c[j]?=some u→w.cell? ((⟨vb,0,none⟩:Addr).add j)=some u:=fun j u hu=>by
  rw [Addr.add_lit,Nat.zero_add,ae hvb];simpa using hu
 have lvb:=lt_of_block hvb
 rcases Nat.lt_or_ge i X.length with hlt|hge
 ·obtain ⟨hxl,h0|⟨g,cap,cur,rfl,hgB,hg,hcap,hcm,hcs,htk⟩⟩:=ho
  ·omega
  ·have hgv:g≠vb:=fun h=>hne (by rw [h];rfl);have lg:=lt_of_block hg;have hcl:cur.toList.length=cap*2:=by simpa using hcs
   obtain ⟨e1,e2,e3,e4⟩:=jp hX i (by omega);have g0:¬ (i:Int)=(X.length:Int):=by omega
   have g0b:((i:Int) == (X.length:Int))=false:=by simpa using g0
   have hsl1:∀ W,(Instr.slice 153 (.slice (some ⟨g,0,none⟩) X.length cap) (some (.int .i64 (i:Int))) none none).run Tryz.prog W=.ok (.slice (some ⟨g,i*2,none⟩) (X.length - i) (cap - i)) W:=fun W=>by
    rw [run_slice_l W 153 _ _ _ ht .i64 (i:Int) (by omega) (by omega),he,hz];simp [Result.andThen,sliced,show ¬ cap=i by omega,Addr.add_lit]
   have hxc:X.length≤100000:=hn
   have hw1:IntKind.i64.wrap ((i:Int)+1)=(i:Int)+1:=by rw [IntKind.wrap_i64];omega
   have hw2:((i:Int)+1).toNat=i+1:=by omega
   have hcmx:(cap:Int)≤9223372036854775807:=by unfold maxLen at hcm;omega
   rcases (show X.length+1≤cap∨cap=X.length by omega) with hroom|hfull
   ·have g1:¬ (cap:Int)<(X.length:Int)+1:=by omega
    obtain ⟨c1,hc1d⟩:∃ c1,c1=cur.toList.take ((i+1)*2)++(X.drop i).flatten++cur.toList.drop ((i+1)*2+(X.drop i).flatten.length):=⟨_,rfl⟩;obtain ⟨l1,l2,l3⟩:=qt hX hc hlt hroom hcl htk c1 hc1d;have m1:(X.length - i)*2+(i+1)*2=X.length*2+2:=by rw [← Nat.add_mul,show X.length - i+(i+1)=X.length+1 by omega,Nat.succ_mul]
    have m2:X.length*2+2≤cap*2:=by rw [← Nat.succ_mul];exact Ic _ hroom
    have m3:i*2+2≤X.length*2:=by rw [← Nat.succ_mul];exact Ic _ hlt
    have hsl2:∀ W,(Instr.slice 153 (.slice (some ⟨g,0,none⟩) X.length cap) none (some (.int .i64 ((X.length:Int)+1))) none).run Tryz.prog W=.ok (.slice (some ⟨g,0,none⟩) (X.length+1) cap) W:=fun W=>by
     exact Q85
    have hsl3:∀ W,(Instr.slice 153 (.slice (some ⟨g,0,none⟩) (X.length+1) cap) (some (.int .i64 ((i:Int)+1))) none none).run Tryz.prog W=.ok (.slice (some ⟨g,(i+1)*2,none⟩) (X.length - i) (cap - (i+1))) W:=fun W=>by
     rw [run_slice_l W 153 _ _ _ ht .i64 _ (by omega) (by omega),he,hz];exact Q90
    have hsl4:∀ W,(Instr.slice 153 (.slice (some ⟨g,0,none⟩) (X.length+1) cap) (some (.int .i64 (i:Int))) none none).run Tryz.prog W=.ok (.slice (some ⟨g,i*2,none⟩) (X.length+1 - i) (cap - i)) W:=fun W=>by
     rw [run_slice_l W 153 _ _ _ ht .i64 _ (by omega) (by omega),he,hz];simp [Result.andThen,sliced,show ¬ cap=i by omega,Addr.add_lit]
    have hov:∀ lb cb,(callFunc 165 #[.slice (some ⟨vb,0,none⟩) 1 1,.slice (some ⟨g,(i+1)*2,none⟩) lb cb]).run Tryz.prog w=.ok (.value (.bool false)) w:=fun lb cb=>by
     rw [run_callFunc_extern Tryz.func165 (by kernel_rfl) (by kernel_rfl) (by kernel_rfl) (e:=Extern.SlicesOverlaps.overlaps #[153,153] #[4]) (by kernel_rfl),
      Lib.run_overlaps_apart w 153 4 156 htu 2 hz ⟨vb,0,none⟩ ⟨g,(i+1)*2,none⟩ 1 1 lb cb (Ne.symm hgv) 156 156 c.toArray.size cur.size (by simp [World.shape?,hvb]) (by simp [World.shape?,hg]) (by omega) (ap hvb _) (ap hvb _)]
     rfl
    have hcp1:∀ ty,(Builtin.copy_ #[153,153] ty #[.slice (some ⟨g,(i+1)*2,none⟩) (X.length - i) (cap - (i+1)),.slice (some ⟨g,i*2,none⟩) (X.length+1 - i) (cap - i)]).run Tryz.prog w.drew=.ok (goInt ((X.length - i:Nat):Int)) (w.drew.setRow g c1.toArray):=fun ty=>by
     have hmin:Nat.min (X.length+1 - i) (X.length - i)=X.length - i:=by simp only [Nat.min_def];split<;>omega
     have:=dO (P:=Tryz.prog) w.drew 153 153 ty 156 2 g ((i+1)*2) (X.length - i) (cap - (i+1)) ⟨g,i*2,none⟩ (X.length+1 - i) (cap - i) cur 156 (X.drop i).flatten htu hsz hg (by rw [hmin,e4]) (fun j u hu=>by
      rw [Addr.add_lit];rw [← e2,← htk,List.getElem?_drop,List.getElem?_take] at hu
      split at hu
      ·rw [ae (w:=w.drew) hg,← Iw];exact hu
      ·cases hu) (by rw [e4];rw [hcs];omega) (fun u hu=>h1 u (by rw [← Ig (i*2) X.flatten,e2];exact List.mem_append_right _ hu))
     rw [hmin,← hc1d] at this;exact this
    have hg1:(w.drew.setRow g c1.toArray).heap[g]?=some (.cells c1.toArray 156 (0,0)):=setRow_heap w.drew g cur c1.toArray 156 (0,0) hg
    have hcp2:∀ ty,(Builtin.copy_ #[153,153] ty #[.slice (some ⟨g,i*2,none⟩) (X.length+1 - i) (cap - i),.slice (some ⟨vb,0,none⟩) 1 1]).run Tryz.prog (w.drew.setRow g c1.toArray)=.ok (goInt ((1:Nat):Int)) ((w.drew.setRow g c1.toArray).setRow g (c1.take (i*2)++c++c1.drop (i*2+c.length)).toArray):=fun ty=>by
     have hmin:Nat.min 1 (X.length+1 - i)=1:=by simp only [Nat.min_def];split<;>omega
     have:=dO (P:=Tryz.prog) (w.drew.setRow g c1.toArray) 153 153 ty 156 2 g (i*2) (X.length+1 - i) (cap - i) ⟨vb,0,none⟩ 1 1 c1.toArray 156 c htu hsz hg1 (by rw [hmin,hc]) (fun j u hu=>by
      have h:=hvn j u hu;rw [Addr.add_lit] at h ⊢
      exact (cell_setRow_other w.drew g _ _ (by show vb≠g;exact Ne.symm hgv)).trans h) (by simp only [List.size_toArray];omega) hc1
     rw [hmin] at this;exact this
    have HL2:=Hm l2;have HL3:=Hm l3;have HG:Hid (((w.drew.setRow g c1.toArray).setRow g (c1.take (i*2)++c++c1.drop (i*2+c.length)).toArray).heap[g]?=some (.cells (c1.take (i*2)++c++c1.drop (i*2+c.length)).toArray 156 (0,0))):=setRow_heap _ g _ _ _ _ hg1
    have HGr:Hid (w.grownBy ((w.drew.setRow g c1.toArray).setRow g (c1.take (i*2)++c++c1.drop (i*2+c.length)).toArray) (some g)):=⟨rfl,rfl,rfl,by simp [World.setRow],fun k _ hk=>by
     have hkg:k≠g:=fun e=>hk (by rw [e])
     rw [setRow_other _ _ _ _ hkg,setRow_other _ _ _ _ hkg];rfl⟩
    generalize c1.take (i*2)++c++c1.drop (i*2+c.length)=c2 at hcp2 HL2 HL3 HG HGr;clear hc1d l1 l2 l3 m1 m2 m3 e1 e2 e3 e4 hcl htk hg hg1 h1 hc1 hvn hvb hcs hxl hX hc;clear ht htu he hsz hz;go_enter Tryz.func146,Tryz.ntmps146;go_wp2_with (simp only [hov])
    go_region_law (refine gs rfl _ _ 153 153 rfl _ _ (by simp [Act.eval,Act.put]) (by simp [Act.eval,Act.put]) hcp1 ?_)
    go_wp2_with (at_builtin;refine wpList_copyK _ rfl _ _ 153 153 rfl _ _ rfl rfl hcp2 ?_);refine Ip (v:=.slice (some ⟨g,0,none⟩) (X.length+1) cap) ?_ rfl ⟨_,rfl,⟨by rw [← HL3.out,Ib,HL2.out];exact Nat.min_eq_left (Ic _ hroom),.inr ⟨g,cap,c2.toArray,rfl,hgB,HG.out,hroom,hcm,by simpa using HL2.out,by simpa using HL3.out⟩⟩,HGr.out,fun b hb=>Or.inl hb⟩;simp [results,Tryz.results146,go_sem, *]
   ·subst hfull;have g1:(X.length:Int)<(X.length:Int)+1:=by omega
    obtain ⟨G,hG⟩:∃ G,G=grownCap w (X.length+1) X.length 156:=⟨_,rfl⟩
    have hGe:X.length+1≤G:=by rw [hG];exact grownCap_ge _ _ _ _
    have hGm:G≤maxLen:=by rw [hG];exact grownCap_le_maxLen _ _ _ _ (by unfold maxLen;omega)
    have hGx:(G:Int)≤9223372036854775807:=by unfold maxLen at hGm;omega
    obtain ⟨row,hrow⟩:∃ row:Array Value,row=(X.take i).flatten.toArray++Builtin.zeroCells (.agg #[.int .i64 0,.int .i64 0]:Value).cells (X.length+1 - i)++Builtin.zeroCells (.agg #[.int .i64 0,.int .i64 0]:Value).cells (G - (X.length+1)):=⟨_,rfl⟩
    have hrl:row.toList.length=G*2:=by
     rw [hrow];simp only [Array.toList_append,I5,Array.length_toList,size_zeroCells,e3];have:(.agg #[.int .i64 0,.int .i64 0]:Value).cells.size=2:=rfl;rw [this,← Nat.add_mul,← Nat.add_mul]
     congr 1;omega
    have hrt:row.toList.take (i*2)=(X.take i).flatten:=by
     exact Q71
    obtain ⟨r1,hr1⟩:∃ r1,r1=row.toList.take (i*2)++c++row.toList.drop (i*2+c.length):=⟨_,rfl⟩;obtain ⟨l1,l2,l3⟩:=qv hX hc hlt hGe hrl hrt r1 hr1;have m1:(X.length - i)*2+(i+1)*2=X.length*2+2:=by rw [← Nat.add_mul,show X.length - i+(i+1)=X.length+1 by omega,Nat.succ_mul]
    have m2:X.length*2+2≤G*2:=by rw [← Nat.succ_mul];exact Ic _ hGe
    have m3:i*2+2≤X.length*2:=by rw [← Nat.succ_mul];exact Ic _ hlt
    have hsl2:∀ W,(Instr.slice 153 (.slice (some ⟨g,0,none⟩) X.length X.length) none (some (.int .i64 (i:Int))) none).run Tryz.prog W=.ok (.slice (some ⟨g,0,none⟩) i X.length) W:=fun W=>by
     exact Q85
    have hap:∀ ty,(Builtin.append_ #[153,3] ty #[.slice (some ⟨g,0,none⟩) i X.length,.int .i64 ((X.length:Int)+1 - (i:Int))]).run Tryz.prog w=.ok (.slice (some ⟨w.heap.size,0,none⟩) (X.length+1) G) (w.drew.alloc (.cells row 156)):=fun ty=>by
     have hold:(Builtin.firstCells i0.size i (.slice (some ⟨g,0,none⟩) i X.length)).run Tryz.prog w.drew=.ok (X.take i).flatten.toArray w.drew:=by
      rw [ji1]
      exact run_firstCells_some w.drew 2 i ⟨g,0,none⟩ i X.length (X.take i).flatten (by rw [e3]) (fun j u hu=>by
       rw [Addr.add_lit,Nat.zero_add,ae (w:=w.drew) hg,← Iw];rw [← e1,← htk,List.take_take,List.getElem?_take] at hu
       split at hu
       ·exact hu
       ·cases hu)
     have h:=Lib.run_append_grow_zeros (P:=Tryz.prog) w 153 3 ty 156 i0 _ .i64 .i64 htu (by kernel_rfl) ji ji0 (some ⟨g,0,none⟩) i X.length (X.take i).flatten hold (X.length+1 - i) (by omega) (by rw [ji1];decide) (by omega) (by omega) (by rw [ji2];omega) (by rw [ji2,show i+(X.length+1 - i)=X.length+1 by omega];exact growslice_fits (by omega) (by omega));exact Q57
    have hsl3:∀ W,(Instr.slice 153 (.slice (some ⟨w.heap.size,0,none⟩) (X.length+1) G) (some (.int .i64 (i:Int))) none none).run Tryz.prog W=.ok (.slice (some ⟨w.heap.size,i*2,none⟩) (X.length+1 - i) (G - i)) W:=fun W=>by
     rw [run_slice_l W 153 _ _ _ ht .i64 _ (by omega) (by omega),he,hz];simp [Result.andThen,sliced,show ¬ G=i by omega,Addr.add_lit]
    have hsl4:∀ W,(Instr.slice 153 (.slice (some ⟨w.heap.size,0,none⟩) (X.length+1) G) (some (.int .i64 ((i:Int)+1))) none none).run Tryz.prog W=.ok (.slice (some ⟨w.heap.size,(i+1)*2,none⟩) (X.length - i) (G - (i+1))) W:=fun W=>by
     rw [run_slice_l W 153 _ _ _ ht .i64 _ (by omega) (by omega),he,hz];exact Q95
    have hg3:(w.alloc (.cells row 156)).drew.heap[w.heap.size]?=some (.cells row 156 (0,0)):=az (w:=w.drew) _ rfl
    have hcp3:∀ ty,(Builtin.copy_ #[153,153] ty #[.slice (some ⟨w.heap.size,i*2,none⟩) (X.length+1 - i) (G - i),.slice (some ⟨vb,0,none⟩) 1 1]).run Tryz.prog (w.alloc (.cells row 156)).drew=.ok (goInt ((1:Nat):Int)) ((w.alloc (.cells row 156)).drew.setRow w.heap.size r1.toArray):=fun ty=>by
     have hmin:Nat.min 1 (X.length+1 - i)=1:=by simp only [Nat.min_def];split<;>omega
     have:=dO (P:=Tryz.prog) (w.alloc (.cells row 156)).drew 153 153 ty 156 2 w.heap.size (i*2) (X.length+1 - i) (G - i) ⟨vb,0,none⟩ 1 1 row 156 c htu hsz hg3 (by rw [hmin,hc]) (fun j u hu=>by
      have h:=hvn j u hu;rw [Addr.add_lit] at h ⊢
      exact aE (w:=w.drew) _ h) (by rw [← Array.length_toList,hrl];omega) hc1
     rw [hmin,← hr1] at this;exact this
    have hg4:((w.alloc (.cells row 156)).drew.setRow w.heap.size r1.toArray).drew.heap[w.heap.size]?=some (.cells r1.toArray 156 (0,0)):=setRow_heap _ w.heap.size _ _ _ _ hg3;obtain ⟨r2,hr2⟩:∃ r2,r2=r1.take ((i+1)*2)++(X.drop i).flatten++r1.drop ((i+1)*2+(X.drop i).flatten.length):=⟨_,rfl⟩
    have hcp4:∀ ty,(Builtin.copy_ #[153,153] ty #[.slice (some ⟨w.heap.size,(i+1)*2,none⟩) (X.length - i) (G - (i+1)),.slice (some ⟨g,i*2,none⟩) (X.length - i) (X.length - i)]).run Tryz.prog ((w.alloc (.cells row 156)).drew.setRow w.heap.size r1.toArray).drew=.ok (goInt ((X.length - i:Nat):Int)) (((w.alloc (.cells row 156)).drew.setRow w.heap.size r1.toArray).drew.setRow w.heap.size r2.toArray):=fun ty=>by
     have hmin:Nat.min (X.length - i) (X.length - i)=X.length - i:=by simp only [Nat.min_def];split<;>omega
     have:=dO (P:=Tryz.prog) ((w.alloc (.cells row 156)).drew.setRow w.heap.size r1.toArray).drew 153 153 ty 156 2 w.heap.size ((i+1)*2) (X.length - i) (G - (i+1)) ⟨g,i*2,none⟩ (X.length - i) (X.length - i) r1.toArray 156 (X.drop i).flatten htu hsz hg4 (by rw [hmin,e4]) (fun j u hu=>by
      rw [Addr.add_lit]
      have hcell:w.cell? ⟨g,i*2+j,none⟩=some u:=by
       exact Q60
      have h2:(w.alloc (.cells row 156)).drew.cell? ⟨g,i*2+j,none⟩=some u:=aE (w:=w.drew) _ hcell
      exact (cell_setRow_other _ _ _ _ (by show g≠w.heap.size;omega)).trans h2) (by simp only [List.size_toArray];rw [e4];omega) (fun u hu=>h1 u (by rw [← Ig (i*2) X.flatten,e2];exact List.mem_append_right _ hu))
     rw [hmin] at this;simp only at this;rw [← hr2] at this;exact this
    rw [← hr2] at l2 l3;have HL2:=Hm l2;have HL3:=Hm l3;have HG:Hid ((((w.alloc (.cells row 156)).drew.setRow w.heap.size r1.toArray).drew.setRow w.heap.size r2.toArray).heap[w.heap.size]?=some (.cells r2.toArray 156 (0,0))):=setRow_heap _ _ _ _ _ _ hg4
    have HGr:Hid (w.grownBy (((w.alloc (.cells row 156)).drew.setRow w.heap.size r1.toArray).drew.setRow w.heap.size r2.toArray) (some g)):=⟨rfl,rfl,rfl,by simp [World.setRow],fun k hk _=>by
     rw [setRow_other _ _ _ _ (by omega:k≠w.heap.size)];refine (setRow_other (w.alloc (.cells row 156)).drew w.heap.size k _ (by omega)).trans ?_
     exact heap_alloc_old w.drew _ hk⟩
    clear hr1 hr2 l1 l2 l3 m1 m2 m3 e1 e2 e3 e4 hcl htk hg hg3 hg4 h1 hc1 hvn hvb hcs hxl hX hc hrow hrl hrt hG;clear ht htu he hsz hz;go_enter Tryz.func146,Tryz.ntmps146;go_wp2_with (at_builtin;first|(refine iB _ rfl _ _ 153 3 rfl _ _ rfl rfl hap ?_)|(refine wpList_copyK _ rfl _ _ 153 153 rfl _ _ rfl rfl hcp3 ?_))
    go_region_law (refine gs rfl _ _ 153 153 rfl _ _ (by simp [Act.eval,Act.put]) (by simp [Act.eval,Act.put]) hcp4 ?_)
    go_wp2;refine Ip (v:=.slice (some ⟨w.heap.size,0,none⟩) (X.length+1) G) ?_ rfl ⟨_,rfl,⟨by rw [← HL3.out,Ib,HL2.out];exact Nat.min_eq_left (Ic _ hGe),.inr ⟨w.heap.size,G,r2.toArray,rfl,hB,HG.out,hGe,hGm,by simpa using HL2.out,by simpa using HL3.out⟩⟩,HGr.out,fun b hb=>Or.inr (Nat.le_of_eq (Option.some.inj hb))⟩;simp [results,Tryz.results146,go_sem, *]
 ·obtain rfl:i=X.length:=by omega
  have HO:=Hm ho;obtain ⟨a,cap,rfl,_,_⟩:=aC ho
  obtain ⟨u0,hsl⟩:∃ u,∀ W,(Instr.slice 153 (.slice a X.length cap) (some (.int .i64 (X.length:Int))) none none).run Tryz.prog W=.ok u W:=⟨_,fun W=>by
   rw [run_slice_l W 153 _ _ _ ht .i64 _ (by omega) (by omega),he,hz];rfl⟩
  have HN:=Hm hvn;have HC1:=Hm hc1;have HIn:=Hm (qw X c);have HTU:=Hm htu;clear ho hvn hc1 h1 hX hvb ht htu he hsz hz;go_enter Tryz.func146,Tryz.ntmps146;go_wp2_with (at_builtin;go_loud (refine fN _ rfl _ _ 153 rfl B 156 i0 (.agg #[.int .i64 0,.int .i64 0]) 2 16 HTU.out ji ji0 ji1 ji2 rfl (by decide) _ X.length X.flatten rfl HO.out ⟨vb,0,none⟩ 1 1 c rfl (by rw [hc]) HN.out HC1.out (Nat.zero_lt_one) ?c2 ?c3 hB ?_))
  case c2=>unfold maxLen;omega
  case c3=>omega
  intro v' w' hown' hgrow hnew'
  have HO2:Hid (w'.ownsRow B 156 2 v' (X.length+1) (eo X X.length c).flatten):=by
   exact Q111
  have HG2:=Hm hgrow;have HG3:=Hm hnew';obtain ⟨a',cap',rfl,_,_⟩:=aC hown';clear hown' hgrow hnew';go_wp2;refine Ip (v:=.slice a' (X.length+1) cap') ?_ rfl ⟨_,rfl,HO2.out,HG2.out,HG3.out⟩;simp [results,Tryz.results146,go_sem, *]
theorem yh:(Tryz.prog.info? 94).map (fun i=>(i.zero,i.size,i.bytes))=some (some (.agg #[.int .i64 0,.int .i64 0,.int .i64 0,.int .i64 0,.int .i64 0,.int .i64 0]),6,48):=by kernel_rfl
theorem insLf2 (B:Nat) (v:Value) (X:List (List Value)) (i vb:Nat) (c:List Value) (w:World) (ho:w.ownsRow B 94 6 v X.length X.flatten) (hX:∀ c∈X,c.length=6) (h1:∀ u∈X.flatten,u.oneCell'=true) (hc:c.length=6) (hc1:∀ u∈c,u.oneCell'=true)
  (hi:i≤X.length) (hn:X.length≤100000) (hvb:w.heap[vb]?=some (.cells c.toArray 94 (0,0))) (hne:v.ownBlock≠some vb) (hB:B≤w.heap.size) :
  Calls Tryz.prog 143 #[v,.int .i64 (i:Int),.slice (some ⟨vb,0,none⟩) 1 1] w (InsPost2 B w 94 6 v X i c):=by
 obtain ⟨i0,ji,ji0,ji1,ji2⟩:=info_parts yh
 have hz:∀ W,(sizeOf 94).run Tryz.prog W=.ok 6 W:=fun W=>by simp [sizeOf,typeInfo,ji,ji1]
 have ht:Tryz.prog.underlying 49=some (.slice (Tryz.prog.elem 49)):=by kernel_rfl
 have htu:Tryz.prog.underlying 49=some (.slice 94):=by kernel_rfl
 have he:Tryz.prog.elem 49=94:=by kernel_rfl
 have hsz:(Tryz.prog.info? 94).map (·.size)=some 6:=by rw [ji];simp [ji1]
 have hvn:∀ j u,c[j]?=some u→w.cell? ((⟨vb,0,none⟩:Addr).add j)=some u:=fun j u hu=>by
  rw [Addr.add_lit,Nat.zero_add,ae hvb];simpa using hu
 have lvb:=lt_of_block hvb
 rcases Nat.lt_or_ge i X.length with hlt|hge
 ·obtain ⟨hxl,h0|⟨g,cap,cur,rfl,hgB,hg,hcap,hcm,hcs,htk⟩⟩:=ho
  ·omega
  ·have hgv:g≠vb:=fun h=>hne (by rw [h];rfl);have lg:=lt_of_block hg;have hcl:cur.toList.length=cap*6:=by simpa using hcs
   obtain ⟨e1,e2,e3,e4⟩:=jp hX i (by omega);have g0:¬ (i:Int)=(X.length:Int):=by omega
   have g0b:((i:Int) == (X.length:Int))=false:=by simpa using g0
   have hsl1:∀ W,(Instr.slice 49 (.slice (some ⟨g,0,none⟩) X.length cap) (some (.int .i64 (i:Int))) none none).run Tryz.prog W=.ok (.slice (some ⟨g,i*6,none⟩) (X.length - i) (cap - i)) W:=fun W=>by
    rw [run_slice_l W 49 _ _ _ ht .i64 (i:Int) (by omega) (by omega),he,hz];simp [Result.andThen,sliced,show ¬ cap=i by omega,Addr.add_lit]
   have hxc:X.length≤100000:=hn
   have hw1:IntKind.i64.wrap ((i:Int)+1)=(i:Int)+1:=by rw [IntKind.wrap_i64];omega
   have hw2:((i:Int)+1).toNat=i+1:=by omega
   have hcmx:(cap:Int)≤9223372036854775807:=by unfold maxLen at hcm;omega
   rcases (show X.length+1≤cap∨cap=X.length by omega) with hroom|hfull
   ·have g1:¬ (cap:Int)<(X.length:Int)+1:=by omega
    obtain ⟨c1,hc1d⟩:∃ c1,c1=cur.toList.take ((i+1)*6)++(X.drop i).flatten++cur.toList.drop ((i+1)*6+(X.drop i).flatten.length):=⟨_,rfl⟩;obtain ⟨l1,l2,l3⟩:=qt hX hc hlt hroom hcl htk c1 hc1d;have m1:(X.length - i)*6+(i+1)*6=X.length*6+6:=by rw [← Nat.add_mul,show X.length - i+(i+1)=X.length+1 by omega,Nat.succ_mul]
    have m2:X.length*6+6≤cap*6:=by rw [← Nat.succ_mul];exact Ic _ hroom
    have m3:i*6+6≤X.length*6:=by rw [← Nat.succ_mul];exact Ic _ hlt
    have hsl2:∀ W,(Instr.slice 49 (.slice (some ⟨g,0,none⟩) X.length cap) none (some (.int .i64 ((X.length:Int)+1))) none).run Tryz.prog W=.ok (.slice (some ⟨g,0,none⟩) (X.length+1) cap) W:=fun W=>by
     exact Q137
    have hsl3:∀ W,(Instr.slice 49 (.slice (some ⟨g,0,none⟩) (X.length+1) cap) (some (.int .i64 ((i:Int)+1))) none none).run Tryz.prog W=.ok (.slice (some ⟨g,(i+1)*6,none⟩) (X.length - i) (cap - (i+1))) W:=fun W=>by
     rw [run_slice_l W 49 _ _ _ ht .i64 _ (by omega) (by omega),he,hz];exact Q90
    have hsl4:∀ W,(Instr.slice 49 (.slice (some ⟨g,0,none⟩) (X.length+1) cap) (some (.int .i64 (i:Int))) none none).run Tryz.prog W=.ok (.slice (some ⟨g,i*6,none⟩) (X.length+1 - i) (cap - i)) W:=fun W=>by
     rw [run_slice_l W 49 _ _ _ ht .i64 _ (by omega) (by omega),he,hz];simp [Result.andThen,sliced,show ¬ cap=i by omega,Addr.add_lit]
    have hov:∀ lb cb,(callFunc 163 #[.slice (some ⟨vb,0,none⟩) 1 1,.slice (some ⟨g,(i+1)*6,none⟩) lb cb]).run Tryz.prog w=.ok (.value (.bool false)) w:=fun lb cb=>by
     rw [run_callFunc_extern Tryz.func163 (by kernel_rfl) (by kernel_rfl) (by kernel_rfl) (e:=Extern.SlicesOverlaps.overlaps #[49,49] #[4]) (by kernel_rfl),
      Lib.run_overlaps_apart w 49 4 94 htu 6 hz ⟨vb,0,none⟩ ⟨g,(i+1)*6,none⟩ 1 1 lb cb (Ne.symm hgv) 94 94 c.toArray.size cur.size (by simp [World.shape?,hvb]) (by simp [World.shape?,hg]) (by omega) (ap hvb _) (ap hvb _)]
     rfl
    have hcp1:∀ ty,(Builtin.copy_ #[49,49] ty #[.slice (some ⟨g,(i+1)*6,none⟩) (X.length - i) (cap - (i+1)),.slice (some ⟨g,i*6,none⟩) (X.length+1 - i) (cap - i)]).run Tryz.prog w.drew=.ok (goInt ((X.length - i:Nat):Int)) (w.drew.setRow g c1.toArray):=fun ty=>by
     have hmin:Nat.min (X.length+1 - i) (X.length - i)=X.length - i:=by simp only [Nat.min_def];split<;>omega
     have:=dO (P:=Tryz.prog) w.drew 49 49 ty 94 6 g ((i+1)*6) (X.length - i) (cap - (i+1)) ⟨g,i*6,none⟩ (X.length+1 - i) (cap - i) cur 94 (X.drop i).flatten htu hsz hg (by rw [hmin,e4]) (fun j u hu=>by
      rw [Addr.add_lit];rw [← e2,← htk,List.getElem?_drop,List.getElem?_take] at hu
      split at hu
      ·rw [ae (w:=w.drew) hg,← Iw];exact hu
      ·cases hu) (by rw [e4];rw [hcs];omega) (fun u hu=>h1 u (by rw [← Ig (i*6) X.flatten,e2];exact List.mem_append_right _ hu))
     rw [hmin,← hc1d] at this;exact this
    have hg1:(w.drew.setRow g c1.toArray).heap[g]?=some (.cells c1.toArray 94 (0,0)):=setRow_heap w.drew g cur c1.toArray 94 (0,0) hg
    have hcp2:∀ ty,(Builtin.copy_ #[49,49] ty #[.slice (some ⟨g,i*6,none⟩) (X.length+1 - i) (cap - i),.slice (some ⟨vb,0,none⟩) 1 1]).run Tryz.prog (w.drew.setRow g c1.toArray)=.ok (goInt ((1:Nat):Int)) ((w.drew.setRow g c1.toArray).setRow g (c1.take (i*6)++c++c1.drop (i*6+c.length)).toArray):=fun ty=>by
     have hmin:Nat.min 1 (X.length+1 - i)=1:=by simp only [Nat.min_def];split<;>omega
     have:=dO (P:=Tryz.prog) (w.drew.setRow g c1.toArray) 49 49 ty 94 6 g (i*6) (X.length+1 - i) (cap - i) ⟨vb,0,none⟩ 1 1 c1.toArray 94 c htu hsz hg1 (by rw [hmin,hc]) (fun j u hu=>by
      have h:=hvn j u hu;rw [Addr.add_lit] at h ⊢
      exact (cell_setRow_other w.drew g _ _ (by show vb≠g;exact Ne.symm hgv)).trans h) (by simp only [List.size_toArray];omega) hc1
     rw [hmin] at this;exact this
    have HL2:=Hm l2;have HL3:=Hm l3;have HG:Hid (((w.drew.setRow g c1.toArray).setRow g (c1.take (i*6)++c++c1.drop (i*6+c.length)).toArray).heap[g]?=some (.cells (c1.take (i*6)++c++c1.drop (i*6+c.length)).toArray 94 (0,0))):=setRow_heap _ g _ _ _ _ hg1
    have HGr:Hid (w.grownBy ((w.drew.setRow g c1.toArray).setRow g (c1.take (i*6)++c++c1.drop (i*6+c.length)).toArray) (some g)):=⟨rfl,rfl,rfl,by simp [World.setRow],fun k _ hk=>by
     have hkg:k≠g:=fun e=>hk (by rw [e])
     rw [setRow_other _ _ _ _ hkg,setRow_other _ _ _ _ hkg];rfl⟩
    generalize c1.take (i*6)++c++c1.drop (i*6+c.length)=c2 at hcp2 HL2 HL3 HG HGr;clear hc1d l1 l2 l3 m1 m2 m3 e1 e2 e3 e4 hcl htk hg hg1 h1 hc1 hvn hvb hcs hxl hX hc;clear ht htu he hsz hz;go_enter Tryz.func143,Tryz.ntmps143;go_wp2_with (simp only [hov])
    go_region_law (refine gs rfl _ _ 49 49 rfl _ _ (by simp [Act.eval,Act.put]) (by simp [Act.eval,Act.put]) hcp1 ?_)
    go_wp2_with (at_builtin;refine wpList_copyK _ rfl _ _ 49 49 rfl _ _ rfl rfl hcp2 ?_);refine Ip (v:=.slice (some ⟨g,0,none⟩) (X.length+1) cap) ?_ rfl ⟨_,rfl,⟨by rw [← HL3.out,Ib,HL2.out];exact Nat.min_eq_left (Ic _ hroom),.inr ⟨g,cap,c2.toArray,rfl,hgB,HG.out,hroom,hcm,by simpa using HL2.out,by simpa using HL3.out⟩⟩,HGr.out,fun b hb=>Or.inl hb⟩;simp [results,Tryz.results143,go_sem, *]
   ·subst hfull;have g1:(X.length:Int)<(X.length:Int)+1:=by omega
    obtain ⟨G,hG⟩:∃ G,G=grownCap w (X.length+1) X.length 94:=⟨_,rfl⟩
    have hGe:X.length+1≤G:=by rw [hG];exact grownCap_ge _ _ _ _
    have hGm:G≤maxLen:=by rw [hG];exact grownCap_le_maxLen _ _ _ _ (by unfold maxLen;omega)
    have hGx:(G:Int)≤9223372036854775807:=by unfold maxLen at hGm;omega
    obtain ⟨row,hrow⟩:∃ row:Array Value,row=(X.take i).flatten.toArray++Builtin.zeroCells (.agg #[.int .i64 0,.int .i64 0,.int .i64 0,.int .i64 0,.int .i64 0,.int .i64 0]:Value).cells (X.length+1 - i)++Builtin.zeroCells (.agg #[.int .i64 0,.int .i64 0,.int .i64 0,.int .i64 0,.int .i64 0,.int .i64 0]:Value).cells (G - (X.length+1)):=⟨_,rfl⟩
    have hrl:row.toList.length=G*6:=by
     rw [hrow];simp only [Array.toList_append,I5,Array.length_toList,size_zeroCells,e3];have:(.agg #[.int .i64 0,.int .i64 0,.int .i64 0,.int .i64 0,.int .i64 0,.int .i64 0]:Value).cells.size=6:=rfl;rw [this,← Nat.add_mul,← Nat.add_mul]
     congr 1;omega
    have hrt:row.toList.take (i*6)=(X.take i).flatten:=by
     exact Q71
    obtain ⟨r1,hr1⟩:∃ r1,r1=row.toList.take (i*6)++c++row.toList.drop (i*6+c.length):=⟨_,rfl⟩;obtain ⟨l1,l2,l3⟩:=qv hX hc hlt hGe hrl hrt r1 hr1;have m1:(X.length - i)*6+(i+1)*6=X.length*6+6:=by rw [← Nat.add_mul,show X.length - i+(i+1)=X.length+1 by omega,Nat.succ_mul]
    have m2:X.length*6+6≤G*6:=by rw [← Nat.succ_mul];exact Ic _ hGe
    have m3:i*6+6≤X.length*6:=by rw [← Nat.succ_mul];exact Ic _ hlt
    have hsl2:∀ W,(Instr.slice 49 (.slice (some ⟨g,0,none⟩) X.length X.length) none (some (.int .i64 (i:Int))) none).run Tryz.prog W=.ok (.slice (some ⟨g,0,none⟩) i X.length) W:=fun W=>by
     exact Q137
    have hap:∀ ty,(Builtin.append_ #[49,3] ty #[.slice (some ⟨g,0,none⟩) i X.length,.int .i64 ((X.length:Int)+1 - (i:Int))]).run Tryz.prog w=.ok (.slice (some ⟨w.heap.size,0,none⟩) (X.length+1) G) (w.drew.alloc (.cells row 94)):=fun ty=>by
     have hold:(Builtin.firstCells i0.size i (.slice (some ⟨g,0,none⟩) i X.length)).run Tryz.prog w.drew=.ok (X.take i).flatten.toArray w.drew:=by
      rw [ji1]
      exact run_firstCells_some w.drew 6 i ⟨g,0,none⟩ i X.length (X.take i).flatten (by rw [e3]) (fun j u hu=>by
       rw [Addr.add_lit,Nat.zero_add,ae (w:=w.drew) hg,← Iw];rw [← e1,← htk,List.take_take,List.getElem?_take] at hu
       split at hu
       ·exact hu
       ·cases hu)
     have h:=Lib.run_append_grow_zeros (P:=Tryz.prog) w 49 3 ty 94 i0 _ .i64 .i64 htu (by kernel_rfl) ji ji0 (some ⟨g,0,none⟩) i X.length (X.take i).flatten hold (X.length+1 - i) (by omega) (by rw [ji1];decide) (by omega) (by omega) (by rw [ji2];omega) (by rw [ji2,show i+(X.length+1 - i)=X.length+1 by omega];exact growslice_fits (by omega) (by omega));exact Q57
    have hsl3:∀ W,(Instr.slice 49 (.slice (some ⟨w.heap.size,0,none⟩) (X.length+1) G) (some (.int .i64 (i:Int))) none none).run Tryz.prog W=.ok (.slice (some ⟨w.heap.size,i*6,none⟩) (X.length+1 - i) (G - i)) W:=fun W=>by
     rw [run_slice_l W 49 _ _ _ ht .i64 _ (by omega) (by omega),he,hz];simp [Result.andThen,sliced,show ¬ G=i by omega,Addr.add_lit]
    have hsl4:∀ W,(Instr.slice 49 (.slice (some ⟨w.heap.size,0,none⟩) (X.length+1) G) (some (.int .i64 ((i:Int)+1))) none none).run Tryz.prog W=.ok (.slice (some ⟨w.heap.size,(i+1)*6,none⟩) (X.length - i) (G - (i+1))) W:=fun W=>by
     rw [run_slice_l W 49 _ _ _ ht .i64 _ (by omega) (by omega),he,hz];exact Q95
    have hg3:(w.alloc (.cells row 94)).drew.heap[w.heap.size]?=some (.cells row 94 (0,0)):=az (w:=w.drew) _ rfl
    have hcp3:∀ ty,(Builtin.copy_ #[49,49] ty #[.slice (some ⟨w.heap.size,i*6,none⟩) (X.length+1 - i) (G - i),.slice (some ⟨vb,0,none⟩) 1 1]).run Tryz.prog (w.alloc (.cells row 94)).drew=.ok (goInt ((1:Nat):Int)) ((w.alloc (.cells row 94)).drew.setRow w.heap.size r1.toArray):=fun ty=>by
     have hmin:Nat.min 1 (X.length+1 - i)=1:=by simp only [Nat.min_def];split<;>omega
     have:=dO (P:=Tryz.prog) (w.alloc (.cells row 94)).drew 49 49 ty 94 6 w.heap.size (i*6) (X.length+1 - i) (G - i) ⟨vb,0,none⟩ 1 1 row 94 c htu hsz hg3 (by rw [hmin,hc]) (fun j u hu=>by
      have h:=hvn j u hu;rw [Addr.add_lit] at h ⊢
      exact aE (w:=w.drew) _ h) (by rw [← Array.length_toList,hrl];omega) hc1
     rw [hmin,← hr1] at this;exact this
    have hg4:((w.alloc (.cells row 94)).drew.setRow w.heap.size r1.toArray).drew.heap[w.heap.size]?=some (.cells r1.toArray 94 (0,0)):=setRow_heap _ w.heap.size _ _ _ _ hg3;obtain ⟨r2,hr2⟩:∃ r2,r2=r1.take ((i+1)*6)++(X.drop i).flatten++r1.drop ((i+1)*6+(X.drop i).flatten.length):=⟨_,rfl⟩
    have hcp4:∀ ty,(Builtin.copy_ #[49,49] ty #[.slice (some ⟨w.heap.size,(i+1)*6,none⟩) (X.length - i) (G - (i+1)),.slice (some ⟨g,i*6,none⟩) (X.length - i) (X.length - i)]).run Tryz.prog ((w.alloc (.cells row 94)).drew.setRow w.heap.size r1.toArray).drew=.ok (goInt ((X.length - i:Nat):Int)) (((w.alloc (.cells row 94)).drew.setRow w.heap.size r1.toArray).drew.setRow w.heap.size r2.toArray):=fun ty=>by
     have hmin:Nat.min (X.length - i) (X.length - i)=X.length - i:=by simp only [Nat.min_def];split<;>omega
     have:=dO (P:=Tryz.prog) ((w.alloc (.cells row 94)).drew.setRow w.heap.size r1.toArray).drew 49 49 ty 94 6 w.heap.size ((i+1)*6) (X.length - i) (G - (i+1)) ⟨g,i*6,none⟩ (X.length - i) (X.length - i) r1.toArray 94 (X.drop i).flatten htu hsz hg4 (by rw [hmin,e4]) (fun j u hu=>by
      rw [Addr.add_lit]
      have hcell:w.cell? ⟨g,i*6+j,none⟩=some u:=by
       exact Q60
      have h2:(w.alloc (.cells row 94)).drew.cell? ⟨g,i*6+j,none⟩=some u:=aE (w:=w.drew) _ hcell
      exact (cell_setRow_other _ _ _ _ (by show g≠w.heap.size;omega)).trans h2) (by simp only [List.size_toArray];rw [e4];omega) (fun u hu=>h1 u (by rw [← Ig (i*6) X.flatten,e2];exact List.mem_append_right _ hu))
     rw [hmin] at this;simp only at this;rw [← hr2] at this;exact this
    rw [← hr2] at l2 l3;have HL2:=Hm l2;have HL3:=Hm l3;have HG:Hid ((((w.alloc (.cells row 94)).drew.setRow w.heap.size r1.toArray).drew.setRow w.heap.size r2.toArray).heap[w.heap.size]?=some (.cells r2.toArray 94 (0,0))):=setRow_heap _ _ _ _ _ _ hg4
    have HGr:Hid (w.grownBy (((w.alloc (.cells row 94)).drew.setRow w.heap.size r1.toArray).drew.setRow w.heap.size r2.toArray) (some g)):=⟨rfl,rfl,rfl,by simp [World.setRow],fun k hk _=>by
     rw [setRow_other _ _ _ _ (by omega:k≠w.heap.size)];refine (setRow_other (w.alloc (.cells row 94)).drew w.heap.size k _ (by omega)).trans ?_
     exact heap_alloc_old w.drew _ hk⟩
    clear hr1 hr2 l1 l2 l3 m1 m2 m3 e1 e2 e3 e4 hcl htk hg hg3 hg4 h1 hc1 hvn hvb hcs hxl hX hc hrow hrl hrt hG;clear ht htu he hsz hz;go_enter Tryz.func143,Tryz.ntmps143;go_wp2_with (at_builtin;first|(refine iB _ rfl _ _ 49 3 rfl _ _ rfl rfl hap ?_)|(refine wpList_copyK _ rfl _ _ 49 49 rfl _ _ rfl rfl hcp3 ?_))
    go_region_law (refine gs rfl _ _ 49 49 rfl _ _ (by simp [Act.eval,Act.put]) (by simp [Act.eval,Act.put]) hcp4 ?_)
    go_wp2;refine Ip (v:=.slice (some ⟨w.heap.size,0,none⟩) (X.length+1) G) ?_ rfl ⟨_,rfl,⟨by rw [← HL3.out,Ib,HL2.out];exact Nat.min_eq_left (Ic _ hGe),.inr ⟨w.heap.size,G,r2.toArray,rfl,hB,HG.out,hGe,hGm,by simpa using HL2.out,by simpa using HL3.out⟩⟩,HGr.out,fun b hb=>Or.inr (Nat.le_of_eq (Option.some.inj hb))⟩;simp [results,Tryz.results143,go_sem, *]
 ·obtain rfl:i=X.length:=by omega
  have HO:=Hm ho;obtain ⟨a,cap,rfl,_,_⟩:=aC ho
  obtain ⟨u0,hsl⟩:∃ u,∀ W,(Instr.slice 49 (.slice a X.length cap) (some (.int .i64 (X.length:Int))) none none).run Tryz.prog W=.ok u W:=⟨_,fun W=>by
   rw [run_slice_l W 49 _ _ _ ht .i64 _ (by omega) (by omega),he,hz];rfl⟩
  have HN:=Hm hvn;have HC1:=Hm hc1;have HIn:=Hm (qw X c);have HTU:=Hm htu;clear ho hvn hc1 h1 hX hvb ht htu he hsz hz;go_enter Tryz.func143,Tryz.ntmps143;go_wp2_with (at_builtin;go_loud (refine fN _ rfl _ _ 49 rfl B 94 i0 (.agg #[.int .i64 0,.int .i64 0,.int .i64 0,.int .i64 0,.int .i64 0,.int .i64 0]) 6 48 HTU.out ji ji0 ji1 ji2 rfl (by decide) _ X.length X.flatten rfl HO.out ⟨vb,0,none⟩ 1 1 c rfl (by rw [hc]) HN.out HC1.out (Nat.zero_lt_one) ?c2 ?c3 hB ?_))
  case c2=>unfold maxLen;omega
  case c3=>omega
  intro v' w' hown' hgrow hnew'
  have HO2:Hid (w'.ownsRow B 94 6 v' (X.length+1) (eo X X.length c).flatten):=by
   exact Q111
  have HG2:=Hm hgrow;have HG3:=Hm hnew';obtain ⟨a',cap',rfl,_,_⟩:=aC hown';clear hown' hgrow hnew';go_wp2;refine Ip (v:=.slice a' (X.length+1) cap') ?_ rfl ⟨_,rfl,HO2.out,HG2.out,HG3.out⟩;simp [results,Tryz.results143,go_sem, *]
theorem GX (B:Nat) (v:Value) (X:List (List Value)) (i vb:Nat) (c:List Value) (w:World) (ho:w.ownsRow B 94 6 v X.length X.flatten) (hX:∀ c∈X,c.length=6) (h1:∀ u∈X.flatten,u.oneCell'=true) (hc:c.length=6) (hc1:∀ u∈c,u.oneCell'=true)
  (hi:i≤X.length) (hn:X.length≤100000) (hvb:w.heap[vb]?=some (.cells c.toArray 94 (0,0))) (hne:v.ownBlock≠some vb) (hB:B≤w.heap.size) :
  Calls Tryz.prog 143 #[v,.int .i64 (i:Int),.slice (some ⟨vb,0,none⟩) 1 1] w (zM B w 94 6 v X i c):=
 (insLf2 B v X i vb c w ho hX h1 hc hc1 hi hn hvb hne hB).mono fun _ _ h=>h.one
theorem yi:(Tryz.prog.info? 98).map (fun i=>(i.zero,i.size,i.bytes))=some (some (.agg #[.int .i64 0,.int .i64 0,.int .i64 0,.int .i64 0,.bool false,.int .i64 0,.int .i64 0]),7,56):=by kernel_rfl
theorem Di (B:Nat) (v:Value) (X:List (List Value)) (i vb:Nat) (c:List Value) (w:World) (ho:w.ownsRow B 98 7 v X.length X.flatten) (hX:∀ c∈X,c.length=7) (h1:∀ u∈X.flatten,u.oneCell'=true) (hc:c.length=7) (hc1:∀ u∈c,u.oneCell'=true)
  (hi:i≤X.length) (hn:X.length≤100000) (hvb:w.heap[vb]?=some (.cells c.toArray 98 (0,0))) (hne:v.ownBlock≠some vb) (hB:B≤w.heap.size) :
  Calls Tryz.prog 63 #[v,.int .i64 (i:Int),.slice (some ⟨vb,0,none⟩) 1 1] w (InsPost2 B w 98 7 v X i c):=by
 obtain ⟨i0,ji,ji0,ji1,ji2⟩:=info_parts yi
 have hz:∀ W,(sizeOf 98).run Tryz.prog W=.ok 7 W:=fun W=>by simp [sizeOf,typeInfo,ji,ji1]
 have ht:Tryz.prog.underlying 48=some (.slice (Tryz.prog.elem 48)):=by kernel_rfl
 have htu:Tryz.prog.underlying 48=some (.slice 98):=by kernel_rfl
 have he:Tryz.prog.elem 48=98:=by kernel_rfl
 have hsz:(Tryz.prog.info? 98).map (·.size)=some 7:=by rw [ji];simp [ji1]
 have hvn:∀ j u,c[j]?=some u→w.cell? ((⟨vb,0,none⟩:Addr).add j)=some u:=fun j u hu=>by
  rw [Addr.add_lit,Nat.zero_add,ae hvb];simpa using hu
 have lvb:=lt_of_block hvb
 rcases Nat.lt_or_ge i X.length with hlt|hge
 ·obtain ⟨hxl,h0|⟨g,cap,cur,rfl,hgB,hg,hcap,hcm,hcs,htk⟩⟩:=ho
  ·omega
  ·have hgv:g≠vb:=fun h=>hne (by rw [h];rfl);have lg:=lt_of_block hg;have hcl:cur.toList.length=cap*7:=by simpa using hcs
   obtain ⟨e1,e2,e3,e4⟩:=jp hX i (by omega);have g0:¬ (i:Int)=(X.length:Int):=by omega
   have g0b:((i:Int) == (X.length:Int))=false:=by simpa using g0
   have hsl1:∀ W,(Instr.slice 48 (.slice (some ⟨g,0,none⟩) X.length cap) (some (.int .i64 (i:Int))) none none).run Tryz.prog W=.ok (.slice (some ⟨g,i*7,none⟩) (X.length - i) (cap - i)) W:=fun W=>by
    rw [run_slice_l W 48 _ _ _ ht .i64 (i:Int) (by omega) (by omega),he,hz];simp [Result.andThen,sliced,show ¬ cap=i by omega,Addr.add_lit]
   have hxc:X.length≤100000:=hn
   have hw1:IntKind.i64.wrap ((i:Int)+1)=(i:Int)+1:=by rw [IntKind.wrap_i64];omega
   have hw2:((i:Int)+1).toNat=i+1:=by omega
   have hcmx:(cap:Int)≤9223372036854775807:=by unfold maxLen at hcm;omega
   rcases (show X.length+1≤cap∨cap=X.length by omega) with hroom|hfull
   ·have g1:¬ (cap:Int)<(X.length:Int)+1:=by omega
    obtain ⟨c1,hc1d⟩:∃ c1,c1=cur.toList.take ((i+1)*7)++(X.drop i).flatten++cur.toList.drop ((i+1)*7+(X.drop i).flatten.length):=⟨_,rfl⟩;obtain ⟨l1,l2,l3⟩:=qt hX hc hlt hroom hcl htk c1 hc1d;have m1:(X.length - i)*7+(i+1)*7=X.length*7+7:=by rw [← Nat.add_mul,show X.length - i+(i+1)=X.length+1 by omega,Nat.succ_mul]
    have m2:X.length*7+7≤cap*7:=by rw [← Nat.succ_mul];exact Ic _ hroom
    have m3:i*7+7≤X.length*7:=by rw [← Nat.succ_mul];exact Ic _ hlt
    have hsl2:∀ W,(Instr.slice 48 (.slice (some ⟨g,0,none⟩) X.length cap) none (some (.int .i64 ((X.length:Int)+1))) none).run Tryz.prog W=.ok (.slice (some ⟨g,0,none⟩) (X.length+1) cap) W:=fun W=>by
     exact Q86
    have hsl3:∀ W,(Instr.slice 48 (.slice (some ⟨g,0,none⟩) (X.length+1) cap) (some (.int .i64 ((i:Int)+1))) none none).run Tryz.prog W=.ok (.slice (some ⟨g,(i+1)*7,none⟩) (X.length - i) (cap - (i+1))) W:=fun W=>by
     rw [run_slice_l W 48 _ _ _ ht .i64 _ (by omega) (by omega),he,hz];exact Q90
    have hsl4:∀ W,(Instr.slice 48 (.slice (some ⟨g,0,none⟩) (X.length+1) cap) (some (.int .i64 (i:Int))) none none).run Tryz.prog W=.ok (.slice (some ⟨g,i*7,none⟩) (X.length+1 - i) (cap - i)) W:=fun W=>by
     rw [run_slice_l W 48 _ _ _ ht .i64 _ (by omega) (by omega),he,hz];simp [Result.andThen,sliced,show ¬ cap=i by omega,Addr.add_lit]
    have hov:∀ lb cb,(callFunc 102 #[.slice (some ⟨vb,0,none⟩) 1 1,.slice (some ⟨g,(i+1)*7,none⟩) lb cb]).run Tryz.prog w=.ok (.value (.bool false)) w:=fun lb cb=>by
     rw [run_callFunc_extern Tryz.func102 (by kernel_rfl) (by kernel_rfl) (by kernel_rfl) (e:=Extern.SlicesOverlaps.overlaps #[48,48] #[4]) (by kernel_rfl),
      Lib.run_overlaps_apart w 48 4 98 htu 7 hz ⟨vb,0,none⟩ ⟨g,(i+1)*7,none⟩ 1 1 lb cb (Ne.symm hgv) 98 98 c.toArray.size cur.size (by simp [World.shape?,hvb]) (by simp [World.shape?,hg]) (by omega) (ap hvb _) (ap hvb _)]
     rfl
    have hcp1:∀ ty,(Builtin.copy_ #[48,48] ty #[.slice (some ⟨g,(i+1)*7,none⟩) (X.length - i) (cap - (i+1)),.slice (some ⟨g,i*7,none⟩) (X.length+1 - i) (cap - i)]).run Tryz.prog w.drew=.ok (goInt ((X.length - i:Nat):Int)) (w.drew.setRow g c1.toArray):=fun ty=>by
     have hmin:Nat.min (X.length+1 - i) (X.length - i)=X.length - i:=by simp only [Nat.min_def];split<;>omega
     have:=dO (P:=Tryz.prog) w.drew 48 48 ty 98 7 g ((i+1)*7) (X.length - i) (cap - (i+1)) ⟨g,i*7,none⟩ (X.length+1 - i) (cap - i) cur 98 (X.drop i).flatten htu hsz hg (by rw [hmin,e4]) (fun j u hu=>by
      rw [Addr.add_lit];rw [← e2,← htk,List.getElem?_drop,List.getElem?_take] at hu
      split at hu
      ·rw [ae (w:=w.drew) hg,← Iw];exact hu
      ·cases hu) (by rw [e4];rw [hcs];omega) (fun u hu=>h1 u (by rw [← Ig (i*7) X.flatten,e2];exact List.mem_append_right _ hu))
     rw [hmin,← hc1d] at this;exact this
    have hg1:(w.drew.setRow g c1.toArray).heap[g]?=some (.cells c1.toArray 98 (0,0)):=setRow_heap w.drew g cur c1.toArray 98 (0,0) hg
    have hcp2:∀ ty,(Builtin.copy_ #[48,48] ty #[.slice (some ⟨g,i*7,none⟩) (X.length+1 - i) (cap - i),.slice (some ⟨vb,0,none⟩) 1 1]).run Tryz.prog (w.drew.setRow g c1.toArray)=.ok (goInt ((1:Nat):Int)) ((w.drew.setRow g c1.toArray).setRow g (c1.take (i*7)++c++c1.drop (i*7+c.length)).toArray):=fun ty=>by
     have hmin:Nat.min 1 (X.length+1 - i)=1:=by simp only [Nat.min_def];split<;>omega
     have:=dO (P:=Tryz.prog) (w.drew.setRow g c1.toArray) 48 48 ty 98 7 g (i*7) (X.length+1 - i) (cap - i) ⟨vb,0,none⟩ 1 1 c1.toArray 98 c htu hsz hg1 (by rw [hmin,hc]) (fun j u hu=>by
      have h:=hvn j u hu;rw [Addr.add_lit] at h ⊢
      exact (cell_setRow_other w.drew g _ _ (by show vb≠g;exact Ne.symm hgv)).trans h) (by simp only [List.size_toArray];omega) hc1
     rw [hmin] at this;exact this
    have HL2:=Hm l2;have HL3:=Hm l3;have HG:Hid (((w.drew.setRow g c1.toArray).setRow g (c1.take (i*7)++c++c1.drop (i*7+c.length)).toArray).heap[g]?=some (.cells (c1.take (i*7)++c++c1.drop (i*7+c.length)).toArray 98 (0,0))):=setRow_heap _ g _ _ _ _ hg1
    have HGr:Hid (w.grownBy ((w.drew.setRow g c1.toArray).setRow g (c1.take (i*7)++c++c1.drop (i*7+c.length)).toArray) (some g)):=⟨rfl,rfl,rfl,by simp [World.setRow],fun k _ hk=>by
     have hkg:k≠g:=fun e=>hk (by rw [e])
     rw [setRow_other _ _ _ _ hkg,setRow_other _ _ _ _ hkg];rfl⟩
    generalize c1.take (i*7)++c++c1.drop (i*7+c.length)=c2 at hcp2 HL2 HL3 HG HGr;clear hc1d l1 l2 l3 m1 m2 m3 e1 e2 e3 e4 hcl htk hg hg1 h1 hc1 hvn hvb hcs hxl hX hc;clear ht htu he hsz hz;go_enter Tryz.func63,Tryz.ntmps63;go_wp2_with (simp only [hov])
    go_region_law (refine gs rfl _ _ 48 48 rfl _ _ (by simp [Act.eval,Act.put]) (by simp [Act.eval,Act.put]) hcp1 ?_)
    go_wp2_with (at_builtin;refine wpList_copyK _ rfl _ _ 48 48 rfl _ _ rfl rfl hcp2 ?_);refine Ip (v:=.slice (some ⟨g,0,none⟩) (X.length+1) cap) ?_ rfl ⟨_,rfl,⟨by rw [← HL3.out,Ib,HL2.out];exact Nat.min_eq_left (Ic _ hroom),.inr ⟨g,cap,c2.toArray,rfl,hgB,HG.out,hroom,hcm,by simpa using HL2.out,by simpa using HL3.out⟩⟩,HGr.out,fun b hb=>Or.inl hb⟩;simp [results,Tryz.results63,go_sem, *]
   ·subst hfull;have g1:(X.length:Int)<(X.length:Int)+1:=by omega
    obtain ⟨G,hG⟩:∃ G,G=grownCap w (X.length+1) X.length 98:=⟨_,rfl⟩
    have hGe:X.length+1≤G:=by rw [hG];exact grownCap_ge _ _ _ _
    have hGm:G≤maxLen:=by rw [hG];exact grownCap_le_maxLen _ _ _ _ (by unfold maxLen;omega)
    have hGx:(G:Int)≤9223372036854775807:=by unfold maxLen at hGm;omega
    obtain ⟨row,hrow⟩:∃ row:Array Value,row=(X.take i).flatten.toArray++Builtin.zeroCells (.agg #[.int .i64 0,.int .i64 0,.int .i64 0,.int .i64 0,.bool false,.int .i64 0,.int .i64 0]:Value).cells (X.length+1 - i)++Builtin.zeroCells (.agg #[.int .i64 0,.int .i64 0,.int .i64 0,.int .i64 0,.bool false,.int .i64 0,.int .i64 0]:Value).cells (G - (X.length+1)):=⟨_,rfl⟩
    have hrl:row.toList.length=G*7:=by
     rw [hrow];simp only [Array.toList_append,I5,Array.length_toList,size_zeroCells,e3];have:(.agg #[.int .i64 0,.int .i64 0,.int .i64 0,.int .i64 0,.bool false,.int .i64 0,.int .i64 0]:Value).cells.size=7:=rfl;rw [this,← Nat.add_mul,← Nat.add_mul]
     congr 1;omega
    have hrt:row.toList.take (i*7)=(X.take i).flatten:=by
     exact Q71
    obtain ⟨r1,hr1⟩:∃ r1,r1=row.toList.take (i*7)++c++row.toList.drop (i*7+c.length):=⟨_,rfl⟩;obtain ⟨l1,l2,l3⟩:=qv hX hc hlt hGe hrl hrt r1 hr1;have m1:(X.length - i)*7+(i+1)*7=X.length*7+7:=by rw [← Nat.add_mul,show X.length - i+(i+1)=X.length+1 by omega,Nat.succ_mul]
    have m2:X.length*7+7≤G*7:=by rw [← Nat.succ_mul];exact Ic _ hGe
    have m3:i*7+7≤X.length*7:=by rw [← Nat.succ_mul];exact Ic _ hlt
    have hsl2:∀ W,(Instr.slice 48 (.slice (some ⟨g,0,none⟩) X.length X.length) none (some (.int .i64 (i:Int))) none).run Tryz.prog W=.ok (.slice (some ⟨g,0,none⟩) i X.length) W:=fun W=>by
     exact Q86
    have hap:∀ ty,(Builtin.append_ #[48,3] ty #[.slice (some ⟨g,0,none⟩) i X.length,.int .i64 ((X.length:Int)+1 - (i:Int))]).run Tryz.prog w=.ok (.slice (some ⟨w.heap.size,0,none⟩) (X.length+1) G) (w.drew.alloc (.cells row 98)):=fun ty=>by
     have hold:(Builtin.firstCells i0.size i (.slice (some ⟨g,0,none⟩) i X.length)).run Tryz.prog w.drew=.ok (X.take i).flatten.toArray w.drew:=by
      rw [ji1]
      exact run_firstCells_some w.drew 7 i ⟨g,0,none⟩ i X.length (X.take i).flatten (by rw [e3]) (fun j u hu=>by
       rw [Addr.add_lit,Nat.zero_add,ae (w:=w.drew) hg,← Iw];rw [← e1,← htk,List.take_take,List.getElem?_take] at hu
       split at hu
       ·exact hu
       ·cases hu)
     have h:=Lib.run_append_grow_zeros (P:=Tryz.prog) w 48 3 ty 98 i0 _ .i64 .i64 htu (by kernel_rfl) ji ji0 (some ⟨g,0,none⟩) i X.length (X.take i).flatten hold (X.length+1 - i) (by omega) (by rw [ji1];decide) (by omega) (by omega) (by rw [ji2];omega) (by rw [ji2,show i+(X.length+1 - i)=X.length+1 by omega];exact growslice_fits (by omega) (by omega));exact Q57
    have hsl3:∀ W,(Instr.slice 48 (.slice (some ⟨w.heap.size,0,none⟩) (X.length+1) G) (some (.int .i64 (i:Int))) none none).run Tryz.prog W=.ok (.slice (some ⟨w.heap.size,i*7,none⟩) (X.length+1 - i) (G - i)) W:=fun W=>by
     rw [run_slice_l W 48 _ _ _ ht .i64 _ (by omega) (by omega),he,hz];simp [Result.andThen,sliced,show ¬ G=i by omega,Addr.add_lit]
    have hsl4:∀ W,(Instr.slice 48 (.slice (some ⟨w.heap.size,0,none⟩) (X.length+1) G) (some (.int .i64 ((i:Int)+1))) none none).run Tryz.prog W=.ok (.slice (some ⟨w.heap.size,(i+1)*7,none⟩) (X.length - i) (G - (i+1))) W:=fun W=>by
     rw [run_slice_l W 48 _ _ _ ht .i64 _ (by omega) (by omega),he,hz];exact Q95
    have hg3:(w.alloc (.cells row 98)).drew.heap[w.heap.size]?=some (.cells row 98 (0,0)):=az (w:=w.drew) _ rfl
    have hcp3:∀ ty,(Builtin.copy_ #[48,48] ty #[.slice (some ⟨w.heap.size,i*7,none⟩) (X.length+1 - i) (G - i),.slice (some ⟨vb,0,none⟩) 1 1]).run Tryz.prog (w.alloc (.cells row 98)).drew=.ok (goInt ((1:Nat):Int)) ((w.alloc (.cells row 98)).drew.setRow w.heap.size r1.toArray):=fun ty=>by
     have hmin:Nat.min 1 (X.length+1 - i)=1:=by simp only [Nat.min_def];split<;>omega
     have:=dO (P:=Tryz.prog) (w.alloc (.cells row 98)).drew 48 48 ty 98 7 w.heap.size (i*7) (X.length+1 - i) (G - i) ⟨vb,0,none⟩ 1 1 row 98 c htu hsz hg3 (by rw [hmin,hc]) (fun j u hu=>by
      have h:=hvn j u hu;rw [Addr.add_lit] at h ⊢
      exact aE (w:=w.drew) _ h) (by rw [← Array.length_toList,hrl];omega) hc1
     rw [hmin,← hr1] at this;exact this
    have hg4:((w.alloc (.cells row 98)).drew.setRow w.heap.size r1.toArray).drew.heap[w.heap.size]?=some (.cells r1.toArray 98 (0,0)):=setRow_heap _ w.heap.size _ _ _ _ hg3;obtain ⟨r2,hr2⟩:∃ r2,r2=r1.take ((i+1)*7)++(X.drop i).flatten++r1.drop ((i+1)*7+(X.drop i).flatten.length):=⟨_,rfl⟩
    have hcp4:∀ ty,(Builtin.copy_ #[48,48] ty #[.slice (some ⟨w.heap.size,(i+1)*7,none⟩) (X.length - i) (G - (i+1)),.slice (some ⟨g,i*7,none⟩) (X.length - i) (X.length - i)]).run Tryz.prog ((w.alloc (.cells row 98)).drew.setRow w.heap.size r1.toArray).drew=.ok (goInt ((X.length - i:Nat):Int)) (((w.alloc (.cells row 98)).drew.setRow w.heap.size r1.toArray).drew.setRow w.heap.size r2.toArray):=fun ty=>by
     have hmin:Nat.min (X.length - i) (X.length - i)=X.length - i:=by simp only [Nat.min_def];split<;>omega
     have:=dO (P:=Tryz.prog) ((w.alloc (.cells row 98)).drew.setRow w.heap.size r1.toArray).drew 48 48 ty 98 7 w.heap.size ((i+1)*7) (X.length - i) (G - (i+1)) ⟨g,i*7,none⟩ (X.length - i) (X.length - i) r1.toArray 98 (X.drop i).flatten htu hsz hg4 (by rw [hmin,e4]) (fun j u hu=>by
      rw [Addr.add_lit]
      have hcell:w.cell? ⟨g,i*7+j,none⟩=some u:=by
       exact Q60
      have h2:(w.alloc (.cells row 98)).drew.cell? ⟨g,i*7+j,none⟩=some u:=aE (w:=w.drew) _ hcell
      exact (cell_setRow_other _ _ _ _ (by show g≠w.heap.size;omega)).trans h2) (by simp only [List.size_toArray];rw [e4];omega) (fun u hu=>h1 u (by rw [← Ig (i*7) X.flatten,e2];exact List.mem_append_right _ hu))
     rw [hmin] at this;simp only at this;rw [← hr2] at this;exact this
    rw [← hr2] at l2 l3;have HL2:=Hm l2;have HL3:=Hm l3;have HG:Hid ((((w.alloc (.cells row 98)).drew.setRow w.heap.size r1.toArray).drew.setRow w.heap.size r2.toArray).heap[w.heap.size]?=some (.cells r2.toArray 98 (0,0))):=setRow_heap _ _ _ _ _ _ hg4
    have HGr:Hid (w.grownBy (((w.alloc (.cells row 98)).drew.setRow w.heap.size r1.toArray).drew.setRow w.heap.size r2.toArray) (some g)):=⟨rfl,rfl,rfl,by simp [World.setRow],fun k hk _=>by
     rw [setRow_other _ _ _ _ (by omega:k≠w.heap.size)];refine (setRow_other (w.alloc (.cells row 98)).drew w.heap.size k _ (by omega)).trans ?_
     exact heap_alloc_old w.drew _ hk⟩
    clear hr1 hr2 l1 l2 l3 m1 m2 m3 e1 e2 e3 e4 hcl htk hg hg3 hg4 h1 hc1 hvn hvb hcs hxl hX hc hrow hrl hrt hG;clear ht htu he hsz hz;go_enter Tryz.func63,Tryz.ntmps63;go_wp2_with (at_builtin;first|(refine iB _ rfl _ _ 48 3 rfl _ _ rfl rfl hap ?_)|(refine wpList_copyK _ rfl _ _ 48 48 rfl _ _ rfl rfl hcp3 ?_))
    go_region_law (refine gs rfl _ _ 48 48 rfl _ _ (by simp [Act.eval,Act.put]) (by simp [Act.eval,Act.put]) hcp4 ?_)
    go_wp2;refine Ip (v:=.slice (some ⟨w.heap.size,0,none⟩) (X.length+1) G) ?_ rfl ⟨_,rfl,⟨by rw [← HL3.out,Ib,HL2.out];exact Nat.min_eq_left (Ic _ hGe),.inr ⟨w.heap.size,G,r2.toArray,rfl,hB,HG.out,hGe,hGm,by simpa using HL2.out,by simpa using HL3.out⟩⟩,HGr.out,fun b hb=>Or.inr (Nat.le_of_eq (Option.some.inj hb))⟩;simp [results,Tryz.results63,go_sem, *]
 ·obtain rfl:i=X.length:=by omega
  have HO:=Hm ho;obtain ⟨a,cap,rfl,_,_⟩:=aC ho
  obtain ⟨u0,hsl⟩:∃ u,∀ W,(Instr.slice 48 (.slice a X.length cap) (some (.int .i64 (X.length:Int))) none none).run Tryz.prog W=.ok u W:=⟨_,fun W=>by
   rw [run_slice_l W 48 _ _ _ ht .i64 _ (by omega) (by omega),he,hz];rfl⟩
  have HN:=Hm hvn;have HC1:=Hm hc1;have HIn:=Hm (qw X c);have HTU:=Hm htu;clear ho hvn hc1 h1 hX hvb ht htu he hsz hz;go_enter Tryz.func63,Tryz.ntmps63;go_wp2_with (at_builtin;go_loud (refine fN _ rfl _ _ 48 rfl B 98 i0 (.agg #[.int .i64 0,.int .i64 0,.int .i64 0,.int .i64 0,.bool false,.int .i64 0,.int .i64 0]) 7 56 HTU.out ji ji0 ji1 ji2 rfl (by decide) _ X.length X.flatten rfl HO.out ⟨vb,0,none⟩ 1 1 c rfl (by rw [hc]) HN.out HC1.out (Nat.zero_lt_one) ?c2 ?c3 hB ?_))
  case c2=>unfold maxLen;omega
  case c3=>omega
  intro v' w' hown' hgrow hnew'
  have HO2:Hid (w'.ownsRow B 98 7 v' (X.length+1) (eo X X.length c).flatten):=by
   exact Q111
  have HG2:=Hm hgrow;have HG3:=Hm hnew';obtain ⟨a',cap',rfl,_,_⟩:=aC hown';clear hown' hgrow hnew';go_wp2;refine Ip (v:=.slice a' (X.length+1) cap') ?_ rfl ⟨_,rfl,HO2.out,HG2.out,HG3.out⟩;simp [results,Tryz.results63,go_sem, *]
end
end Go.Proofs.YtfliffgmeobclaaGreat
