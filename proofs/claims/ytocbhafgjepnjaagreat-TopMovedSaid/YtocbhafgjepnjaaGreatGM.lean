/- Texts of the row's proof. Conditions: none. -/
import Derived.Test.YtocbhafgjepnjaaGreatK44
import Derived.Test.YtocbhafgjepnjaaGreatK43
namespace Go.Proofs.YtocbhafgjepnjaaGreat
set_option maxRecDepth 100000
set_option maxHeartbeats 8000000
open Go.RowKit
theorem BE {X:Wd} (h:GwMay X) {b:Int} (h0:0≤b) (h1:b≤11):(gC X.tab X.tab.length).getD b.toNat 0=((X.flows.countP fun f=>f.backend == b:Nat):Int):=by
 have hl:(gC X.tab X.tab.length).getD b.toNat 0=((iO X.tab b X.tab.length).length:Int):=by
  rw [aK (by rw [gO];omega)]
  simp only [gC,List.getElem_map,List.getElem_range]
  rw [Int.toNat_of_nonneg h0]
 have hp:(dt X.tab b).Perm ((X.flows.filter fun f=>f.backend == b).map Fl.slot):=by
  refine (List.perm_ext_iff_of_nodup (iS _ _) ?_).2 fun s=>?_
  ·rw [List.nodup_iff_pairwise_ne,List.pairwise_map]
   exact (h.so.filter _).imp fun {x y} hxy=>by omega
  ·rw [jf h,II]
   constructor
   ·rintro ⟨f,hf,hb,hs⟩;exact ⟨f,List.mem_filter.2 ⟨hf,by simpa using hb⟩,hs⟩
   ·rintro ⟨f,hf,hs⟩
    obtain ⟨hf,hb⟩:=List.mem_filter.1 hf
    exact ⟨f,hf,by simpa using hb,hs⟩
 have hlen:=hp.length_eq
 unfold dt at hlen
 rw [Iq,Iq] at hlen
 rw [hl,List.countP_eq_length_filter,hlen]
theorem GR.fw {p:Nat} {w:World} {X:Wd} {V:Vs} (h:GR p w X V):∃ al cl,w.cell? ⟨p,18,none⟩=some (.slice al X.flows.length cl)∧(X.flows.length≠0→∃ bl ol,al=some ⟨bl,ol,none⟩∧bl<w.heap.size∧∀ k j,k<X.flows.length→j<7→w.cell? ⟨bl,ol+k*7+j,none⟩=(X.flows.getD k Fl.zero).cells[j]?):=by
 obtain ⟨al,cl,el,_⟩:=aj h.2.1
 refine ⟨al,cl,by rw [← el];exact h.c 18 rfl,fun hne=>?_⟩
 obtain ⟨_,_,e0,_,_,_,pt⟩:=aJ Fl.zero h.2.1
 rw [el] at e0
 injection e0 with e01 _ _
 obtain ⟨b1,o1,e1,h1,q⟩:=pt (by intro e;rw [e] at hne;simp at hne)
 exact ⟨b1,o1,e01.trans e1,h1,q⟩
def flB (X:Wd) (b:Int):Nat:=X.flows.countP fun f=>f.backend == b
theorem countP_next {α:Type} {L:List α} {k:Nat} {d:α} (q:α→Bool) (hk:k<L.length):(L.take (k+1)).countP q=(L.take k).countP q+if q (L.getD k d)=true then 1 else 0:=by
 rw [Ir hk,List.countP_append,aK hk]
 simp [List.countP_cons]
theorem prog_flowsOf {w:World} {X:Wd} {V:Vs} (h:WA w X V) (hn:X.flows.length≤40) (b:Int):Calls Tryz.prog 20 #[.agg (cQ X V).toArray,.int .i64 b] w fun e w'=>e=.returned (.int .i64 (flB X b:Nat))∧Below w.heap.size w w':=by
 obtain ⟨AW,hAW⟩:∃ AW,AW=(cQ X V).toArray:=⟨_,rfl⟩
 rw [← hAW]
 have HA:=Ib hAW
 have HW:=Ib h
 clear hAW h
 go_enter Tryz.func20,Tryz.ntmps20
 go_wp2_with fail
 refine aW _ (fun wb hwb=>?_)
 have bwb:Below w.heap.size w wb:=by rw [hwb];exact (Ic _ _).alloc (Ij _) _
 have hbk:wb.heap[w.heap.size]?=some (.cells (cQ X V).toArray 54 (0,0)):=by rw [hwb,← HA.out];exact au _ rfl
 obtain ⟨al,cl,x18,hq⟩:=(Hj (HW.out.below bwb) hbk).fw
 have HQ:=Ib hq
 have HB:=Ib bwb
 clear hwb bwb hbk hq
 go_loopw [5,6] (fun n i wr=>∃ k:Nat,k≤X.flows.length∧i=.int .i64 k∧wr=wb∧n=.int .i64 ((X.flows.take k).countP (fun f=>f.backend == b):Nat)) (fun _ i _=>X.flows.length - (intOf i).toNat)
 case atStart=>exact ⟨0,Ik _,rfl,rfl,rfl⟩
 case round=>
  obtain ⟨k,hk,rfl,hwr,rfl⟩:=hrel
  subst hwr
  obtain ⟨n,hcn⟩:∃ n,n=(X.flows.take k).countP (fun f=>f.backend == b):=⟨_,rfl⟩
  have hnk:n≤k:=by rw [hcn];exact IG List.countP_le_length (List.length_take_le _ _)
  rw [← hcn]
  have HC:=Ib hcn
  clear hcn
  rcases (show k<X.flows.length∨k=X.flows.length by omega) with hlt|rfl
  ·have hlt':(k:Int)<(X.flows.length:Int):=by omega
   have k0:(0:Int)≤(k:Int):=by omega
   obtain ⟨bl,ol,rfl,hbl,q⟩:=HQ.out (by omega)
   have a0:=q k 3 hlt (by omega)
   obtain ⟨x,hx⟩:∃ x,x=X.flows.getD k Fl.zero:=⟨_,rfl⟩
   have hcx:=countP_next (d:=Fl.zero) (fun f:Fl=>f.backend == b) hlt
   rw [← hx] at a0 hcx
   obtain ⟨x0,x1,x2,x3,x4,x5,x6⟩:=x
   simp only [Fl.cells,Il,Im,← HC.out] at a0 hcx
   have HX:=Ib hcx
   clear hx q hcx
   by_cases hx0:x3=b
   ·go_wp2
    go_roundw
    case rel=>exact ⟨k+1,by omega,by go_num,by trivial,by rw [HX.out,if_pos (by simpa using hx0)];go_num⟩
    case measure=>simp [intOf];omega
   ·go_wp2
    go_roundw
    case rel=>exact ⟨k+1,by omega,by go_num,by trivial,by rw [HX.out,if_neg (by simpa using hx0)];rfl⟩
    case measure=>simp [intOf];omega
  ·have hge:¬ (X.flows.length:Int)<(X.flows.length:Int):=by omega
   obtain rfl:n=flB X b:=by rw [HC.out,List.take_length];rfl
   go_wp2
   go_ret
   exact ⟨rfl,HB.out⟩
structure GRo (p o:Nat) (w:World) (X:Wd) (V:Vs):Prop where
 wa:WA w X V
 lt:p<w.heap.size
 c:∀ i v,(cQ X V)[i]?=some v→w.cell? ⟨p,o+i,none⟩=some v
theorem GRo.rg {p o:Nat} {w:World} {X:Wd} {V:Vs} (h:GRo p o w X V):w.rangeAt p o (cQ X V):=fun j v hj=>h.c j v hj
theorem GRo.below {p o:Nat} {w w':World} {X:Wd} {V:Vs} (h:GRo p o w X V) (hb:Below w.heap.size w w'):GRo p o w' X V:=
 ⟨h.wa.below hb,Nat.lt_of_lt_of_le h.lt hb.size,fun i v hv=>(hb.cell (p:=⟨p,o+i,none⟩) h.lt).trans (h.c i v hv)⟩
theorem GRo.fn {p o:Nat} {w:World} {X:Wd} {V:Vs} (h:GRo p o w X V):∃ al cl,w.cell? ⟨p,o+18,none⟩=some (.slice al X.flows.length cl):=by
 obtain ⟨al,cl,el,_⟩:=aj h.wa.fl
 exact ⟨al,cl,by rw [← el];exact h.c 18 _ rfl⟩
theorem zg {K:Nat→Prop} {w w2:World} {b:Nat} {s:Stp} {m:Ms} (h:StW K w s m) (hb:Below w.heap.size w w2) (hk:w2.heap[b]?=some (.cells (lc s m).toArray 62 (0,0))):GRo b 8 w2 s.be m.b:=by
 refine ⟨h.b.wa.below hb,lt_of_block hk,fun i v hv=>?_⟩
 rw [aa hk (8+i),Io]
 unfold lc
 have hi:i<(cQ s.be m.b).length:=by
  rcases Nat.lt_or_ge i (cQ s.be m.b).length with g|g
  ·exact g
  ·rw [IB g] at hv;cases hv
 rw [IS (by simp [Ev.cells]),show 8+i - (Ev.cells s.ev).length=i by simp [Ev.cells],IR hi]
 exact hv
theorem zh {K:Nat→Prop} {w w2:World} {b:Nat} {s:Stp} {m:Ms} (h:StW K w s m) (hb:Below w.heap.size w w2) (hk:w2.heap[b]?=some (.cells (lc s m).toArray 62 (0,0))):GRo b 34 w2 s.af m.a:=by
 refine ⟨h.a.wa.below hb,lt_of_block hk,fun i v hv=>?_⟩
 rw [aa hk (34+i),Io]
 unfold lc
 have hi:i<(cQ s.af m.a).length:=by
  rcases Nat.lt_or_ge i (cQ s.af m.a).length with g|g
  ·exact g
  ·rw [IB g] at hv;cases hv
 have h8:(Ev.cells s.ev).length=8:=rfl
 have h26:=fH s.be m.b
 rw [IS (by omega),IS (by omega),show 34+i - (Ev.cells s.ev).length - (cQ s.be m.b).length=i by omega,IR hi]
 exact hv
theorem Cp {K:Nat→Prop} {w w2:World} {b:Nat} {s:Stp} {m:Ms} (h:StW K w s m) (hb:Below w.heap.size w w2) (hk:w2.heap[b]?=some (.cells (lc s m).toArray 62 (0,0))) :
  ∃ ao co,w2.cell? ⟨b,60,none⟩=some (.slice ao s.out.length co)∧(s.out.length≠0→∃ bo oo,ao=some ⟨bo,oo,none⟩∧bo<w2.heap.size∧∀ k j,k<s.out.length→j<7→w2.cell? ⟨bo,oo+k*7+j,none⟩=(s.out.getD k Out.zero).cells[j]?):=by
 have hr:=aq h.o.1 hb
 obtain ⟨a,c,e,_,_,_,pt⟩:=aJ Out.zero hr
 refine ⟨a,c,by rw [aa hk 60,← e];rfl,fun hne=>?_⟩
 obtain ⟨b1,o1,e1,h1,q⟩:=pt (by intro e;rw [e] at hne;simp at hne)
 exact ⟨b1,o1,e1,h1,q⟩
theorem eq_of_lt:∀ {l1 l2:List Nat},l1.Pairwise (· < ·)→l2.Pairwise (· < ·)→(∀ x,x∈l1↔x∈l2)→l1=l2
 | [],[],_,_,_=>rfl
 | [],y :: _,_,_,hm=>by have:=(hm y).2 (ID ..);simp at this
 | x :: _,[],_,_,hm=>by have:=(hm x).1 (ID ..);simp at this
 | x :: l1,y :: l2,h1,h2,hm=>by
  rw [List.pairwise_cons] at h1 h2
  have e:x=y:=by
   rcases List.mem_cons.1 ((hm x).1 (ID ..)) with g|g
   ·exact g
   ·rcases List.mem_cons.1 ((hm y).2 (ID ..)) with g2|g2
    ·exact g2.symm
    ·have a1:=h2.1 x g;have a2:=h1.1 y g2;omega
  subst e
  congr 1
  refine eq_of_lt h1.2 h2.2 fun z=>⟨fun hz=>?_,fun hz=>?_⟩
  ·rcases List.mem_cons.1 ((hm z).1 (IF _ hz)) with g|g
   ·have:=h1.1 z hz;omega
   ·exact g
  ·rcases List.mem_cons.1 ((hm z).2 (IF _ hz)) with g|g
   ·have:=h2.1 z hz;omega
   ·exact g
def ldU (X:Wd) (b:Nat):Ld:=⟨(b:Int),l9 X (b:Int),((flB X (b:Int):Nat):Int)⟩
def ldsU (X:Wd) (j:Nat):List Ld:=((List.range j).filter fun b=>gp X.lives (b:Nat) == 2).map (ldU X)
theorem ldsU_y {X:Wd} {j:Nat} (h:gp X.lives (j:Nat)=2):ldsU X (j+1)=ldsU X j++[ldU X j]:=by
 unfold ldsU
 rw [List.range_succ,List.filter_append,IH]
 simp [h]
theorem ldsU_n {X:Wd} {j:Nat} (h:¬ gp X.lives (j:Nat)=2):ldsU X (j+1)=ldsU X j:=by
 unfold ldsU
 rw [List.range_succ,List.filter_append,IH]
 simp [h]
theorem lds_range {X:Wd} (h:GwMay X):ldsU X 12=dx X (-1):=by
 have hs:=bZ h.bk
 have hL:((List.range 12).filter fun b=>gp X.lives (b:Nat) == 2)=(X.lives.filter fun x=>x.state == 2).map fun x=>x.backend.toNat:=by
  refine eq_of_lt ((List.pairwise_lt_range).filter _) ?_ fun b=>?_
  ·rw [List.pairwise_map]
   refine (hs.filter _).imp_of_mem fun {x y} hx hy hxy=>?_
   have h1:=(dz h.bk (List.mem_filter.1 hx).1).1
   have h2:=(dz h.bk (List.mem_filter.1 hy).1).1
   omega
  ·rw [List.mem_filter,List.mem_range,II]
   constructor
   ·rintro ⟨hb,hq⟩
    have hq2:gp X.lives (b:Nat)=2:=by simpa using hq
    unfold gp at hq2
    cases hl:cW X.lives (b:Nat) with
    | none=>rw [hl] at hq2;simp at hq2
    | some x=>
     rw [hl] at hq2
     obtain ⟨hx,he⟩:=dj hl
     exact ⟨x,List.mem_filter.2 ⟨hx,by simpa using hq2⟩,by omega⟩
   ·rintro ⟨x,hx,rfl⟩
    obtain ⟨hx,hq⟩:=List.mem_filter.1 hx
    have h1:=dz h.bk hx
    have h0:=h1.1;have h11:=h1.2.1
    refine ⟨by omega,?_⟩
    unfold gp
    rw [Int.toNat_of_nonneg h0,gI hs hx]
    exact hq
 unfold ldsU dx
 rw [hL,List.map_map]
 refine List.map_congr_left fun x hx=>?_
 obtain ⟨hx,hq⟩:=List.mem_filter.1 hx
 have h1:=dz h.bk hx
 have h0:=h1.1;have h11:=h1.2.1
 have hq2:x.state=2:=by simpa using hq
 show ldU X x.backend.toNat=rC X (-1) x
 unfold ldU rC
 rw [Int.toNat_of_nonneg h0]
 have e1:l9 X x.backend=jn X x:=by unfold l9;rw [gI hs hx];simp only;rw [if_pos hq2]
 have e2:((flB X x.backend:Nat):Int)=ny X (-1) x.backend:=by
  unfold ny vq flB
  rw [BE h h0 h11]
  simp
 rw [e1,e2]
theorem wpList_load_midG {P:Program} {ops:Array Oper} {rest:List Oper} {op:Oper} {a:Act} {w:World} {Q:Exit→Act→World→Prop} (hw:Region.wanted op (yielded ops a.tmps)=true) (ty:TypeId) (x:Operand) (ho:op.op=.load ty x)
  (b o:Nat) (hx:a.eval x=.pointer (some ⟨b,o,none⟩)) (cs:List Value) (d:TypeDesc) (hc:w.rangeAt b o cs)
  (hu:P.underlying ty=some d) (hd:d.isRow=true) (hi:(P.info? ty).map (·.size)=some cs.length)
  (h:wpList P ops Q rest (a.put op.dst (.agg cs.toArray)) w):wpList P ops Q (op :: rest) a w:=
 wpList_step fun _ hK=>by rw [if_pos hw];exact wp_load_mid ty x ho b o hx cs d hc hu hd hi (hK _ _ h)
theorem fin_lf {L:List Lf} {R:List Rq} (h:bF L R) {b:Int} (c:Int) (h3:∀ x,cW L b=some x→x.state=3):cW (ju L b) c=cW L c∨(∀ x,cW (ju L b) c=some x→x.state≠2)∧∀ x,cW L c=some x→x.state≠2:=by
 rcases b8 (cq b) L Lf.zero with ⟨e,_⟩|⟨i,hi,e,_⟩
 ·left
  unfold aN at e
  unfold ju
  cases hf:L.findIdx? (cq b) with
  | none=>rfl
  | some j=>rw [hf] at e;simp at e
 ·rw [wj e,ij (y:=(L.getD i Lf.zero).done) (bZ h) hi rfl]
  have hs3:=h3 _ ((fD L b).2 i e hi)
  by_cases hc:(L.getD i Lf.zero).done.backend=c
  ·right
   rw [if_pos hc]
   have hl:cW L c=some (L.getD i Lf.zero):=by
    have hb:(L.getD i Lf.zero).backend=c:=hc
    rw [← hb];exact gI (bZ h) (by rw [aK hi];exact Iw hi)
   rw [hl]
   exact ⟨fun x hx=>by cases hx;show (4:Int)≠2;decide,fun x hx=>by cases hx;rw [hs3];decide⟩
  ·exact Or.inl (if_neg hc)
theorem wg_none {X:Wd} {c:Int} (h:∀ x,cW X.lives c=some x→x.state≠2):l9 X c=0:=by
 unfold l9
 cases hl:cW X.lives c with
 | none=>rfl
 | some x=>exact if_neg (h x hl)
theorem spared_wg {X:Wd} (hb:bF X.lives X.reqs) (b c:Int):l9 (bP X b).1 c=l9 X c:=by
 unfold bP
 cases hl:cW X.lives b with
 | none=>rfl
 | some x=>
  simp only
  split
  ·rename_i h
   rcases fin_lf hb c (fun y hy=>by rw [hl] at hy;cases hy;exact h.1) with e|⟨e1,e2⟩
   ·unfold l9
    simp only
    rw [e]
    rfl
   ·rw [wg_none e2]
    exact wg_none (X:={ X with lives:=ju X.lives b }) e1
  ·rfl
theorem tot_same {X Y:Wd} (h:∀ b,l9 Y b=l9 X b):Ak Y=Ak X:=by
 unfold Ak rh
 congr 1
 exact List.map_congr_left fun b _=>h _
theorem wsum_app (A:List Ld) (x:Ld):dF (A++[x])=dF A+x.weight:=by
 unfold dF;rw [IH,List.sum_append];simp
theorem wsum_U (X:Wd):∀ j:Nat,dF (ldsU X j)=rh X j
 | 0=>rfl
 | j+1=>by
  rw [rO,← wsum_U X j]
  by_cases h:gp X.lives (j:Nat)=2
  ·rw [ldsU_y h,wsum_app];rfl
  ·rw [ldsU_n h]
   have:l9 X (j:Nat)=0:=by
    unfold l9
    unfold gp at h
    cases hl:cW X.lives (j:Nat) with
    | none=>rfl
    | some x=>rw [hl] at h;exact if_neg (fun e=>h (by simpa using e))
   omega
theorem wsum_but (X:Wd) (a b:Int):dF (dx X a)=dF (dx X b):=by
 unfold dF dx
 rw [List.map_map,List.map_map]
 rfl
theorem wsum_tot {X:Wd} (h:GwMay X) (but:Int):dF (dx X but)=Ak X:=by
 rw [wsum_but X but (-1),← lds_range h,wsum_U]
 rfl
theorem along_ok {L:List Ld} {C:List Int}:∀ {Wk:List Int} {t:Int} {m:Nat},dI L C Wk t=m→oF L C m
 | [],_,m,h=>by unfold dI at h;omega
 | b :: bs,t,m,h=>by
  unfold dI at h
  by_cases h1:aN (ko b) L<0
  ·rw [if_pos h1] at h;exact along_ok h
  ·rw [if_neg h1] at h
   by_cases h2:t=0
   ·rw [if_pos h2] at h;omega
   ·rw [if_neg h2] at h
    by_cases h3:j8 L C (aN (ko b) L).toNat=true
    ·rw [if_pos h3] at h
     rcases b8 (ko b) L Ld.zero with ⟨e,_⟩|⟨i,hi,e,hp,_⟩
     ·omega
     ·rw [e] at h h3
      have him:i=m:=by omega
      subst him
      rw [Iu] at h3
      refine ⟨?_,h3⟩
      unfold ko at hp
      rw [Bool.and_eq_true] at hp
      exact of_decide_eq_true hp.2
    ·rw [if_neg h3] at h;exact along_ok h
theorem pk_room {Wk:List Int} {L:List Ld} {num den flows tries b:Int} (h:zV Wk L num den flows tries b 0):∃ m,m<L.length∧b=(L.getD m Ld.zero).backend∧0<(L.getD m Ld.zero).weight∧(L.getD m Ld.zero).flows<nZ num den flows (L.getD m Ld.zero).weight (dF L):=by
 have fin:∀ m,m<L.length→oF L (bU L num den flows) m→b=(L.getD m Ld.zero).backend→∃ m,m<L.length∧b=(L.getD m Ld.zero).backend∧0<(L.getD m Ld.zero).weight∧(L.getD m Ld.zero).flows<nZ num den flows (L.getD m Ld.zero).weight (dF L):=by
  intro m hm hp hb
  refine ⟨m,hm,hb,hp.1,?_⟩
  have h1:=of_decide_eq_true hp.2
  have h2:(bU L num den flows).getD m 0=o8 num den flows (dF L) (L.getD m Ld.zero):=by
   unfold bU
   rw [aK (by rw [Iq];exact hm),List.getElem_map,aK hm]
  rw [h2] at h1
  unfold o8 at h1
  rw [if_pos hp.1] at h1
  exact h1
 rcases h with ⟨_,_,h,_⟩|⟨_,_,_,_,h⟩|⟨_,_,_,_,_,_,_,h⟩|⟨_,_,_,_,_,_,h⟩
 ·exact absurd rfl h
 ·exact absurd h (by decide)
 ·exact absurd h (by decide)
 ·rcases h with ⟨m,hm,ha,hb,_⟩|⟨_,m,hm,hB,hb,_⟩|⟨_,_,_,h⟩
  ·exact fin m hm (along_ok ha) hb
  ·rcases hB with ⟨e,_⟩|⟨m',e,_,_,hp,_⟩
   ·omega
   ·have:m=m':=by omega
    subst this
    exact fin m hm hp hb
  ·exact absurd h (by decide)
structure MovS (X Y:Wd) (b:Int):Prop where
 b0:0≤b
 b1:b≤11
 w:1≤l9 Y b
 t:l9 Y b≤Ak Y
 t2:Ak Y≤96
 f0:1≤X.flows.length
 f1:X.flows.length≤40
 l:Y.flows.length=X.flows.length
 c:((flB Y b:Nat):Int)≤nZ X.cf.num X.cf.den ((X.flows.length:Int) - 1) (l9 Y b) (Ak Y)
theorem spared_fl (X:Wd) (b:Int):(bP X b).1.flows=X.flows∧(bP X b).1.cf=X.cf:=by
 obtain ⟨L,e,_⟩:=iy X b
 rw [e]
 exact ⟨rfl,rfl⟩
theorem moved_go {X:Wd} (h:GwMay X) {i:Nat} (hi:i<X.flows.length) (Y:Wd) {b:Int} (hb:b=(dp (bO X (X.flows.getD i Fl.zero).backend.toNat true) (X.flows.getD i Fl.zero).key.toNat (X.flows.getD i Fl.zero).slot).1)
  (h0:(dp (bO X (X.flows.getD i Fl.zero).backend.toNat true) (X.flows.getD i Fl.zero).key.toNat (X.flows.getD i Fl.zero).slot).2=0)
  (hY:Y=(if (X.flows.getD i Fl.zero).backend=b then (fZ (bO X (X.flows.getD i Fl.zero).backend.toNat true) i b,([]:List Out)) else bP (fZ (bO X (X.flows.getD i Fl.zero).backend.toNat true) i b) (X.flows.getD i Fl.zero).backend).1):MovS X Y b:=by
 have hfm:=h.at_ hi
 obtain ⟨q,q1,q2,q3,q4,q5,q6,q7,q8,q9⟩:=h.num hfm
 obtain ⟨f,hf⟩:∃ f,f=X.flows.getD i Fl.zero:=⟨_,rfl⟩
 rw [← hf] at hfm q1 q3 q4 q5 q6 q7 q8 q9 hb h0 hY
 have g1:=h.noted (b:=f.backend.toNat) (by omega) true
 obtain ⟨X1,hX1⟩:∃ X1,X1=bO X f.backend.toNat true:=⟨_,rfl⟩
 rw [← hX1] at g1 hb h0 hY
 have e1f:X1.flows=X.flows:=by rw [hX1];rfl
 have e1c:X1.cf=X.cf:=by rw [hX1];rfl
 have e1t:X1.tab=X.tab:=by rw [hX1];rfl
 have hfm1:f∈X1.flows:=by rw [e1f];exact hfm
 have hp:=g1.pick f.key.toNat (g1.butF hfm1)
 rw [h0,← hb] at hp
 unfold uq at hp
 obtain ⟨m,hm,hbm,hwm,hfl⟩:=pk_room hp
 have hxm:(dx X1 f.slot).getD m Ld.zero∈dx X1 f.slot:=by rw [aK hm];exact Iw hm
 obtain ⟨x,hx,hx2,hex⟩:=zA.1 hxm
 have hbx:=dz g1.bk hx
 have hb0:0≤x.backend:=hbx.1
 have hb11:x.backend≤11:=hbx.2.1
 have hbb:b=x.backend:=by rw [hbm,← hex];rfl
 have hwx:l9 X1 b=((dx X1 f.slot).getD m Ld.zero).weight:=by
  rw [← hex,hbb]
  unfold l9
  rw [gI (bZ g1.bk) hx]
  simp only
  rw [if_pos hx2]
  rfl
 have hfx:((dx X1 f.slot).getD m Ld.zero).flows=ny X1 f.slot b:=by rw [← hex,hbb];rfl
 have hmv:∀ Z:Wd,(∀ c,l9 Z c=l9 X1 c)→Z.flows=X1.flows.set i { f with backend:=b,retries:=f.retries+1,due:=X1.now+X1.cf.connect }→MovS X Z b:=by
  intro Z hw z6
  have ht:=tot_same hw
  have htot:=wsum_tot g1 f.slot
  have hbd:=sZ g1 12
  have hle:l9 X1 b≤Ak X1:=by
   rw [hwx,← htot]
   exact F3 (zB g1 (g1.butF hfm1)) hm
  have hi1:i<X1.flows.length:=by rw [e1f];exact hi
  have hlen:Z.flows.length=X.flows.length:=by rw [z6,Ix,e1f]
  have hfb:flB Z b=flB X1 b - (if f.backend=b then 1 else 0)+1:=by
   unfold flB
   rw [z6,List.countP_set hi1]
   have e2:X1.flows[i]=f:=by
    rw [hf,← aK (d:=Fl.zero) hi1,e1f]
   rw [e2]
   simp
  have hcn:=BE g1 (b:=b) (by omega) (by omega)
  have hpos:f.backend=b→0<flB X1 b:=fun e=>by
   unfold flB
   rw [List.countP_pos_iff]
   exact ⟨f,hfm1,by simpa using e⟩
  have hft:(X1.tab.getD f.slot.toNat Sl.zero).backend=f.backend:=by rw [e1t,q1,Iu,q3]
  have hld:ny X1 f.slot b=((flB X1 b:Nat):Int) - if f.backend=b then 1 else 0:=by
   unfold ny vq
   rw [hcn,hft]
   have h1:decide (0≤f.slot)=true:=by simp;omega
   rw [h1]
   unfold flB
   by_cases e:f.backend=b
   ·simp [e]
   ·simp [e]
  refine ⟨by omega,by omega,?_,?_,?_,by omega,by rw [← e1f];exact g1.len,hlen,?_⟩
  ·rw [hw];omega
  ·rw [hw,ht];exact hle
  ·rw [ht];unfold Ak;have:=hbd.2;omega
  ·rw [hw,ht,← htot,hwx]
   have hpn:CV X1 f.slot=(X.flows.length:Int) - 1:=by unfold CV;rw [if_pos (by omega),e1f]
   rw [hpn,e1c] at hfl
   rw [hfx,hld] at hfl
   rw [hfb]
   by_cases e:f.backend=b
   ·have:=hpos e
    simp only [if_pos e] at hfl ⊢
    omega
   ·simp only [if_neg e] at hfl ⊢
    omega
 rw [hY]
 split
 ·exact hmv _ (fun _=>rfl) (by show X1.flows.set i _=_;rw [e1f,← hf])
 ·have s2:=spared_fl (fZ X1 i b) f.backend
  refine hmv _ (fun c=>(spared_wg (X:=fZ X1 i b) g1.bk _ c).trans rfl) ?_
  rw [s2.1]
  show X1.flows.set i _=_
  rw [e1f,← hf]
theorem moved_do {X:Wd} (h:WdMay X) {e:Ev} (h4:e.kind=4) {o:Out} {T:List Out} (ho:(ib X e).2=o :: T) (hk:o.kind=5):MovS X (ib X e).1 o.backend:=by
 have hd:ib X e=ez X e:=by unfold ib;rw [if_neg (by omega),if_neg (by omega),if_neg (by omega)]
 rw [hd] at ho ⊢
 unfold ez at ho ⊢
 by_cases hc:rE X.tab e.slot e.gen≠0
 ·rw [if_pos hc] at ho;simp only [List.cons.injEq] at ho;rw [← ho.1] at hk;simp at hk
 ·rw [if_neg hc] at ho ⊢
  obtain ⟨_,hi,_,_⟩:=tY h.gw (Decidable.not_not.1 hc)
  rw [if_neg (by omega),if_neg (by omega)] at ho ⊢
  by_cases hs:(X.flows.getD (eV X e.slot) Fl.zero).serving=true
  ·rw [if_pos hs] at ho;simp only [List.cons.injEq] at ho;rw [← ho.1] at hk;simp at hk
  ·rw [if_neg hs] at ho ⊢
   by_cases hg:e.good=true
   ·rw [if_pos hg] at ho;simp only [List.cons.injEq] at ho;rw [← ho.1] at hk;simp at hk
   ·rw [if_neg hg] at ho ⊢
    obtain ⟨i,hii⟩:∃ i,i=eV X e.slot:=⟨_,rfl⟩
    rw [← hii] at hi ho ⊢
    unfold eu at ho ⊢
    simp only at ho ⊢
    split at ho
    ·unfold g9 at ho;simp only [List.cons.injEq] at ho;rw [← ho.1] at hk;simp at hk
    ·rename_i n1
     split at ho
     ·unfold g9 at ho;simp only [List.cons.injEq] at ho;rw [← ho.1] at hk;simp at hk
     ·rename_i n2
      rw [if_neg n1,if_neg n2]
      simp only [List.cons.injEq] at ho
      rw [← ho.1]
      exact moved_go h.gw hi _ rfl (Decidable.not_not.1 n2) rfl
def MovedS (s:Stp):Prop:=s.ev.kind=4→∀ o T,s.out=o :: T→o.kind=5→MovS s.be s.af o.backend
theorem movedS_play {c:Cf} {P:kY} (h:zU c P):∀ s∈P.steps,MovedS s:=by
 intro s hs h4 o T ho hk
 have h1:=h.st s hs
 rw [h1.2.2.2.2.2.1] at ho
 rw [h1.2.2.2.2.1]
 exact moved_do h1.1 h4 ho hk
theorem walk_TopMoved (v0 v1:Value) (W:World) (o0:Is_Setup W v0) (o1:Is_sl_Deed W v1) :Calls Tryz.prog 10 #[v0,v1] W fun e w'=>e=.returned (.bool true)∧Below W.heap.size W w':=by
 obtain ⟨s,rfl,hs⟩:=o0
 obtain ⟨L,hr,hd,_⟩:=o1
 obtain ⟨av,cv,rfl,_⟩:=aj hr
 have hcf:=pa s
 have hat:=jD hcf L (most:=60) (by omega)
 have hpl:∀ w',Below W.heap.size W w'→Calls Tryz.prog 13 #[.agg (Su.cells s).toArray,.slice av L.length cv,.int .i64 ((60:Nat):Int)] w' (pf w' (yC s) L 60):=fun w' hb=>kc s hs L hd _ (aq hr hb) 60 (by omega)
 obtain ⟨c,hc⟩:∃ c,c=yC s:=⟨_,rfl⟩
 rw [← hc] at hpl hcf hat
 obtain ⟨SA,hSA⟩:∃ SA,SA=(Su.cells s).toArray:=⟨_,rfl⟩
 rw [← hSA] at hpl ⊢
 have HSI:=Ib (show (Tryz.prog.info? 24).map (·.size)=some SA.size by rw [hSA];show _=some 16;kernel_rfl)
 have HMS:=Ib (movedS_play hat.ok)
 have HFc:=Ib hcf
 have HPl:=Ib hpl
 have HF:=Ib hcf
 have HAt:=Ib hat
 have HK:=Ib (show (W.alloc (.cells SA 24 (0,0))).heap[W.heap.size]?=some (.cells SA 24 (0,0)) from au _ rfl)
 have HB0:=Ib (show Below W.heap.size W (W.alloc (.cells SA 24 (0,0))) from (Ic _ _).alloc (Ij _) _)
 clear hs hd hr hcf hc hSA hat hpl
 go_enter Tryz.func10,Tryz.ntmps10
 go_wp2_with (first|(refine t7 rfl 24 (.tmp 2) rfl W.heap.size rfl 24 SA (0,0) _ HK.out Tryz.underlying24 rfl HSI.out ?_)|(go_at_call 13;refine (HPl.out _ HB0.out).mono ?_;rintro e w1 ⟨p,VL,MS,vs,vg,rfl,hpg,hb1⟩;have hw1:=HB0.out.trans (hb1.mono HB0.out.size);have HW1:=Ib hw1;have HPg:=Ib hpg;clear hb1 hpg hw1))
 obtain ⟨P,hP⟩:∃ P,P=fW (di c) L 60:=⟨_,rfl⟩
 rw [← hP] at HPg HAt
 have HPE:=Ib hP
 obtain ⟨as_,cs_,hx16,hst⟩:=HPg.out.rd
 have HX16:=Ib hx16
 have HSt:=Ib hst
 have hlp:=lt_of_block HPg.out.bk
 have HLp:=Ib hlp
 clear hP hx16 hst hlp
 go_loopw [7] (fun i wr=>∃ k:Nat,k≤P.steps.length∧i=.int .i64 k∧Below w1.heap.size w1 wr) (fun i _=>P.steps.length - (intOf i).toNat)
 case atStart=>exact ⟨0,Ik _,rfl,Ic _ _⟩
 case round=>
  obtain ⟨k,hk,rfl,hbr⟩:=hrel
  have HBr:=Ib hbr
  have x16:=ae hbr HX16.out HLp.out
  have hlen:P.steps.length≤2000:=by have h1:=HAt.out.len;simp at h1;omega
  clear hbr
  rcases (show k<P.steps.length∨k=P.steps.length by omega) with hlt|rfl
  ·have hlt':(k:Int)<(P.steps.length:Int):=by omega
   have k0:(0:Int)≤(k:Int):=by omega
   obtain ⟨bs,os,rfl,hbs,hrg⟩:=HSt.out (by omega)
   have hrg':=iB HBr.out hbs (hrg k hlt)
   have hpgr:=HPg.out.below HBr.out
   have hws:=hpgr.ws k hlt
   have hok:=HAt.out.ok.st (P.steps.getD k Stp.zero) (by rw [aK hlt];exact Iw _)
   obtain ⟨s,hs⟩:∃ s,s=P.steps.getD k Stp.zero:=⟨_,rfl⟩
   obtain ⟨m,hm⟩:∃ m,m=MS.getD k Ms.zero:=⟨_,rfl⟩
   rw [← hs] at hrg' hws hok
   rw [← hm] at hrg' hws
   have hsi:=tV s m
   have h1c:=tM hws
   have hsl:=kF s m
   obtain ⟨SL,hSL⟩:∃ SL,SL=lc s m:=⟨_,rfl⟩
   rw [← hSL] at hrg' hsi h1c hsl
   have HRg:=Ib hrg'
   have HSi:=Ib hsi
   have HSz:=Ib (show (Tryz.prog.info? 62).map (·.size)=some SL.toArray.size by rw [hsi];simp)
   have H1c:=Ib h1c
   have HSl:=Ib hsl
   have HSL:=Ib hSL
   have HWs:=Ib hws
   have HOk:=Ib hok
   have HS:=Ib hs
   have HM:=Ib hm
   clear hrg hrg' hpgr hws hok hs hm hsi h1c hsl hSL
   have hmem:s∈P.steps:=by rw [HS.out,aK hlt];exact Iw _
   have hms:MovedS s:=HMS.out s (by rw [← HPE.out];exact hmem)
   obtain ⟨kd,hkd⟩:∃ kd,kd=s.ev.kind:=⟨_,rfl⟩
   have HMs:=Ib hms
   have HKd:=Ib hkd
   have HCf:=Ib HOk.out.2.2.2.2.2.2.1
   have HgA:=Ib HOk.out.2.1.gw
   have HPr:=Ib (HPg.out.below HBr.out)
   clear hms hmem hkd
   go_upto_region 6 with (first|(refine wpList_load_mid rfl 62 (.tmp 32) rfl bs (os+k*61) rfl SL _ HRg.out Tryz.underlying62 rfl HSi.out ?_)|(refine IP rfl 62 (.tmp 8) (.tmp 33) rfl wr.heap.size SL.toArray rfl rfl 62 _ (au _ rfl) HSz.out (by simp [HSl.out]) H1c.out ?_;refine aW _ (fun w2 hw2=>?_);have hb2:Below wr.heap.size wr w2:=(by rw [hw2];exact aQ ((Ic _ _).alloc (Ij _) _) (Ij _));have hbx:w2.heap[wr.heap.size]?=some (.cells SL.toArray 62 (0,0)):=(by rw [hw2];exact aX (au _ rfl));have HB2:=Ib hb2;have HBx:=Ib hbx;clear hw2 hb2 hbx))
   have gB:=zg HWs.out HB2.out (by rw [HBx.out,HSL.out])
   have gA:=zh HWs.out HB2.out (by rw [HBx.out,HSL.out])
   have hzr:=HB2.out.size
   obtain ⟨bx,hbx⟩:∃ bx,bx=wr.heap.size:=⟨_,rfl⟩
   rw [← hbx] at gB gA HBx ⊢
   clear hbx
   obtain ⟨wo,rfl⟩:∃ wo:World,wo=wr:=⟨_,rfl⟩
   have HGA:=Ib gA
   have HGB:=Ib gB
   obtain ⟨LB,hLB⟩:∃ LB,LB=cQ s.be m.b:=⟨_,rfl⟩
   obtain ⟨LA,hLA⟩:∃ LA,LA=cQ s.af m.a:=⟨_,rfl⟩
   have HLB:=Ib hLB
   have HLA:=Ib hLA
   have HIB:=Ib (show (Tryz.prog.info? 54).map (·.size)=some LB.length by rw [hLB,fH];kernel_rfl)
   have HIA:=Ib (show (Tryz.prog.info? 54).map (·.size)=some LA.length by rw [hLA,fH];kernel_rfl)
   clear gA gB hLB hLA
   have y0:w2.cell? ⟨bx,0,none⟩=some (.int .i64 kd):=by rw [aa HBx.out 0,HSL.out,HKd.out];rfl
   obtain ⟨ao,co,x60,hq⟩:=Cp HWs.out HB2.out (by rw [HBx.out,HSL.out])
   by_cases h4:kd=4
   ·rcases (show s.out=[]∨∃ o T,s.out=o :: T by cases s.out with|nil=>exact Or.inl rfl|cons o T=>exact Or.inr ⟨o,T,rfl⟩) with ho|⟨o,T,ho⟩
    ·rw [ho] at x60
     have x60':w2.cell? ⟨bx,60,none⟩=some (.slice ao 0 co):=x60
     subst h4
     clear x60 hq ho
     go_wp2
     go_roundw
     case rel=>exact ⟨k+1,by omega,by go_num,HBr.out.trans (HB2.out.mono HBr.out.size)⟩
     case measure=>simp [intOf];omega
    ·rw [ho] at x60 hq
     obtain ⟨bo,oo,rfl,hbo,q⟩:=hq (by simp)
     have a0:=q 0 0 (by simp) (by omega)
     have a3:=q 0 3 (by simp) (by omega)
     have hv:=HMs.out (by rw [← HKd.out];exact h4) o T ho
     obtain ⟨o0,o1,o2,o3,o4,o5,o6⟩:=o
     simp only [List.getD_cons_zero,Out.cells,Il,Im,Nat.zero_mul,Nat.add_zero] at a0 a3
     simp only at hv
     obtain ⟨tn,htn⟩:∃ n,n=T.length:=⟨_,rfl⟩
     rw [List.length_cons,← htn] at x60
     have hln:decide (((tn:Int)+1)=0)=false:=by simp;omega
     have hln2:(((tn:Int)+1) == 0)=false:=by simp;omega
     have t1:(0:Int)<(tn:Int)+1:=by omega
     subst h4
     by_cases h5:o0=5
     ·obtain ⟨v0,v1,v2,v3,v4,v5,v6,v7,v8⟩:=hv h5
      subst h5
      obtain ⟨n,rfl⟩:=Iy v0
      have hn12:n<12:=by omega
      rw [HCf.out] at v8
      obtain ⟨wA,hwA⟩:∃ q,q=l9 s.af (n:Nat):=⟨_,rfl⟩
      obtain ⟨tAzz,htA⟩:∃ q,q=Ak s.af:=⟨_,rfl⟩
      obtain ⟨fAzz,hfA⟩:∃ q,q=flB s.af (n:Nat):=⟨_,rfl⟩
      obtain ⟨ab,cb,x26⟩:=HGB.out.fn
      obtain ⟨aa_,ca_,x52⟩:=HGA.out.fn
      rw [v7] at x52
      obtain ⟨F,hF⟩:∃ q,q=s.be.flows.length:=⟨_,rfl⟩
      rw [← hwA] at v2 v3 v8
      rw [← htA] at v3 v4 v8
      rw [← hfA] at v8
      rw [← hF] at v5 v6 v8 x26 x52
      have x26':w2.cell? ⟨bx,26,none⟩=some (.slice ab F cb):=x26
      have x52':w2.cell? ⟨bx,52,none⟩=some (.slice aa_ F ca_):=x52
      have hfac:=HFc.out.1.2.1
      obtain ⟨nuzz,hnu⟩:∃ q,q=c.num:=⟨_,rfl⟩
      obtain ⟨dezz,hde⟩:∃ q,q=c.den:=⟨_,rfl⟩
      rw [← hnu,← hde] at hfac v8
      have hcap:EU nuzz dezz ((F:Int) - 1) wA tAzz:=⟨hfac.1,hfac.2.1,hfac.2.2,by omega,by omega,v2,v3,v4⟩
      have xpb:=(HPr.out.below HB2.out).bk
      have xp1:w2.cell? ⟨p,1,none⟩=some (.int .i64 nuzz):=by rw [aa xpb 1,hnu];rfl
      have xp2:w2.cell? ⟨p,2,none⟩=some (.int .i64 dezz):=by rw [aa xpb 2,hde];rfl
      have lpx:=lt_of_block xpb
      have lbx:=HGB.out.lt
      obtain ⟨cAzz,hcA⟩:∃ q,q=nZ nuzz dezz ((F:Int) - 1) wA tAzz:=⟨_,rfl⟩
      rw [← hcA] at v8
      have hW:∀ w',Below w2.heap.size w2 w'→Calls Tryz.prog 19 #[.agg LA.toArray,.int .i64 (n:Int)] w' (fun e w''=>e=.returned (.int .i64 wA)∧Below w'.heap.size w' w''):=fun w' hb'=>by rw [HLA.out,hwA];exact j5 (HGA.out.below hb').wa HgA.out n hn12
      have hT:∀ w',Below w2.heap.size w2 w'→Calls Tryz.prog 18 #[.agg LA.toArray] w' (fun e w''=>e=.returned (.int .i64 tAzz)∧Below w'.heap.size w' w''):=fun w' hb'=>by rw [HLA.out,htA];exact xM (HGA.out.below hb').wa HgA.out
      have hFl:∀ w',Below w2.heap.size w2 w'→Calls Tryz.prog 20 #[.agg LA.toArray,.int .i64 (n:Int)] w' (fun e w''=>e=.returned (.int .i64 (fAzz:Int))∧Below w'.heap.size w' w''):=fun w' hb'=>by rw [HLA.out,hfA];exact prog_flowsOf (HGA.out.below hb').wa HgA.out.len n
      have m3:max wA 1=wA:=by omega
      have m4:max tAzz 1=tAzz:=by omega
      have hC:∀ w',Calls Tryz.prog 22 #[.int .i64 nuzz,.int .i64 dezz,.int .i64 ((F:Int) - 1),.int .i64 (max wA 1),.int .i64 (max tAzz 1)] w' (fun e w''=>e=.returned (.tuple #[.int .i64 cAzz,.int .i64 0])∧w'=w''):=fun w'=>by rw [hcA,m3,m4];exact CJ nuzz dezz ((F:Int) - 1) wA tAzz w' hcap
      have HW_:=Ib hW
      have HT_:=Ib hT
      have HF_:=Ib hFl
      have HC_:=Ib hC
      have HX_:=Ib (And.intro x26' (And.intro x52' (And.intro xp1 xp2)))
      have RA2:=Ib HGA.out.rg
      rw [← HLA.out] at RA2
      have HLx:=Ib (And.intro lbx lpx)
      have wr1:IntKind.i64.wrap ((F:Int) - 1)=(F:Int) - 1:=IL _ (by omega)
      have d8:decide (cAzz<(fAzz:Int))=false:=by simp;omega
      have d9:(wA == 0)=false:=by simp;omega
      clear m3 m4 hwA htA hfA hF hnu hde hcA hfac hcap xpb x26 x52 hW hT hFl hC hv hq q ho htn hbo v0 v1 v2 v3 v4 v5 v6 v7 v8
      go_upto_region 8 with fail
      refine join1 (P:=?jP1) (F:=fun wz=>Below w2.heap.size w2 wz) (fun key=>?jm1) ?jr1
      case jm1=>
       refine Zr (fun w':World=>Below w2.heap.size w2 w'∧w'.cell? ⟨p,1,none⟩=some (.int .i64 nuzz)∧w'.cell? ⟨p,2,none⟩=some (.int .i64 dezz)∧w'.cell? ⟨bx,26,none⟩=some (.slice ab F cb)) (fun hHeld=>?_) (by (try dsimp only);first|exact ⟨Ic _ _,HX_.out.2.2.1,HX_.out.2.2.2,HX_.out.1⟩|exact ⟨(Ic _ _).drew,HX_.out.2.2.1,HX_.out.2.2.2,HX_.out.1⟩)
       refine eB 0 ?_
       refine eB 8 ?_
       refine Zw 16 ?_ (hy:=yieldsIf_load_mid (by rfl) 54 (.tmp 73) rfl bx 34 rfl LA _ (fun _ hw'=>iB hw'.1 HLx.out.1 RA2.out) Tryz.underlying54 rfl HIA.out)
       refine Zt 17 ?_;refine Zt 20 ?_
       refine Zw 21 ?_ (hy:=yieldsIf_load_mid (by rfl) 54 (.tmp 78) rfl bx 34 rfl LA _ (fun _ hw'=>iB hw'.1 HLx.out.1 RA2.out) Tryz.underlying54 rfl HIA.out)
       refine Z1 18 (fun K hK=>?_)
       go_simp
       go_at_call 19
       refine (HW_.out _ (show Below w2.heap.size w2 _ from Zb)).mono ?_
       rintro e w3 ⟨rfl,hb3⟩
       have hs3:Below w2.heap.size w2 w3:=Ig (by first|exact Ic _ _|exact (Ic _ _).drew) (hb3.mono (by simp))
       (try dsimp only)
       refine Zk hK (hS:=by exact ⟨hs3,ae hs3 HX_.out.2.2.1 HLx.out.2,ae hs3 HX_.out.2.2.2 HLx.out.2,ae hs3 HX_.out.1 HLx.out.1⟩) fun hHeld=>?_
       clear hK K
       refine Zt 19 ?_
       refine Z1 22 (fun K hK=>?_)
       go_simp
       go_at_call 18
       refine (HT_.out _ hs3).mono ?_
       rintro e w4 ⟨rfl,hb4⟩
       have hs4:Below w2.heap.size w2 w4:=hs3.trans (hb4.mono hs3.size)
       (try dsimp only)
       refine Zk hK (hS:=by exact ⟨hs4,ae hs4 HX_.out.2.2.1 HLx.out.2,ae hs4 HX_.out.2.2.2 HLx.out.2,ae hs4 HX_.out.1 HLx.out.1⟩) fun hHeld=>?_
       clear hK K
       refine Zt 23 ?_
       refine Z1 24 (fun K hK=>?_)
       go_simp
       go_at_call 22
       refine (HC_.out _).mono ?_
       rintro e w5 ⟨rfl,rfl⟩
       (try dsimp only)
       refine Zk hK (hS:=by exact ⟨hs4,ae hs4 HX_.out.2.2.1 HLx.out.2,ae hs4 HX_.out.2.2.2 HLx.out.2,ae hs4 HX_.out.1 HLx.out.1⟩) fun hHeld=>?_
       clear hK K
       refine eP 25 ?_
       refine Zt 29 ?_
       refine Zd ?_
       refine aW _ (fun wz hwz=>?_)
       exact key wz (by rw [hwz];exact hs4)
      case jr1=>
       intro wz hbz
       have HBz:=Ib hbz
       have x26:=ae hbz HX_.out.1 HLx.out.1
       have x52:=ae hbz HX_.out.2.1 HLx.out.1
       have RAz:=Ib (iB hbz HLx.out.1 RA2.out)
       clear hbz a0 a3 x60 y0 xp1 xp2 x26' x52'
       go_wp2_with (refine wpList_load_midG (by rfl) 54 (.tmp 88) rfl bx 34 rfl LA _ RAz.out Tryz.underlying54 rfl HIA.out ?_)
       refine (HF_.out _ HBz.out).mono ?_
       rintro e w6 ⟨rfl,hb6⟩
       have HB6:=Ib (HBz.out.trans (hb6.mono HBz.out.size))
       have RA6:=Ib (iB HB6.out HLx.out.1 RA2.out)
       clear hb6 x26 x52
       go_wp2_with (refine wpList_load_midG (by rfl) 54 (.tmp 96) rfl bx 34 rfl LA _ RA6.out Tryz.underlying54 rfl HIA.out ?_)
       refine (HW_.out _ HB6.out).mono ?_
       rintro e w7 ⟨rfl,hb7⟩
       have HB7:=Ib (HB6.out.trans (hb7.mono HB6.out.size))
       have x26:=ae HB7.out HX_.out.1 HLx.out.1
       have x52:=ae HB7.out HX_.out.2.1 HLx.out.1
       clear hb7
       go_wp2_with fail
       exact ⟨⟨k+1,by omega,by go_num,HBr.out.trans ((HB2.out.trans (HB7.out.mono hzr)).mono HBr.out.size)⟩,by simp [intOf];omega⟩
     ·have d5:(o0 != 5)=true:=by simpa using h5
      clear hv hq q ho htn
      go_wp2
      go_roundw
      case rel=>exact ⟨k+1,by omega,by go_num,HBr.out.trans (HB2.out.mono HBr.out.size)⟩
      case measure=>simp [intOf];omega
   ·have d4:(kd != 4)=true:=by simpa using h4
    clear hq
    go_wp2
    go_roundw
    case rel=>exact ⟨k+1,by omega,by go_num,HBr.out.trans (HB2.out.mono HBr.out.size)⟩
    case measure=>simp [intOf];omega
  ·have hge:¬ (P.steps.length:Int)<(P.steps.length:Int):=by omega
   go_wp2
   go_ret
   exact ⟨rfl,HW1.out.trans (HBr.out.mono HW1.out.size)⟩
end Go.Proofs.YtocbhafgjepnjaaGreat
