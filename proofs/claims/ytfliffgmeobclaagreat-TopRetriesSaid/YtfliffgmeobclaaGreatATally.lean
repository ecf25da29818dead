/- Texts of the row's proof. Conditions: none. -/
import Derived.Test.YtfliffgmeobclaaGreatK07
import Derived.Test.YtfliffgmeobclaaGreatK02
import Derived.Deep.QuietTactic
import Derived.BigQuiet
namespace Go.Proofs.YtfliffgmeobclaaGreat
set_option maxRecDepth 100000
set_option maxHeartbeats 8000000
open Go.RowKit
def cntP (j:Nat) (o:Out):Bool:=if j<11 then decide (o.kind=j) else decide (o.kind=6∧o.why=(j:Int) - 11)
def cnt (X:List Out) (j:Nat):Nat:=X.countP (cntP j)
theorem cnt_le (X:List Out) (j:Nat):cnt X j≤X.length:=List.countP_le_length
theorem cnt_snoc (X:List Out) (o:Out) (j:Nat):cnt (X++[o]) j=cnt X j+if cntP j o then 1 else 0:=by
 unfold cnt;rw [List.countP_append,List.countP_singleton]
def Fits (o:Out):Prop:=1≤o.kind∧o.kind≤10∧0≤o.why∧o.why≤5
theorem fits_yes (o:Out) (w:World) (h:Fits o):Calls Tryz.prog 20 #[.agg #[.int .i64 o.kind,.int .i64 o.slot,.int .i64 o.gen,.int .i64 o.backend,.int .i64 o.request,.int .i64 o.code,.int .i64 o.why]] w fun e w'=>e=.returned (.bool true)∧Below w.heap.size w w':=by
 obtain ⟨h1,h2,h3,h4⟩:=h
 go_enter Tryz.func20,Tryz.ntmps20
 go_wp2
 all_goals exact Zf
def IsTal (w:World) (b:Nat) (X:List Out):Prop:=∃ (arr:Array Value) (T:TypeId),w.heap[b]?=some (.cells arr T (0,0))∧arr.size=17∧∀ j,j<17→arr[j]?=some (.int .i64 (cnt X j))
theorem IsTal.cell {w:World} {b:Nat} {X:List Out} (h:IsTal w b X) {j:Nat} (hj:j<17):w.cell? ⟨b,j,none⟩=some (.int .i64 (cnt X j)):=by
 obtain ⟨arr,T,h1,_,h2⟩:=h
 simp [World.cell?,h1,h2 j hj]
theorem IsTal.free {w:World} {b:Nat} {X:List Out} (h:IsTal w b X) (j:Nat):w.frozen? ⟨b,j,none⟩=false:=by
 obtain ⟨arr,T,h1,_,h2⟩:=h
 simp [World.frozen?,h1]
theorem IsTal.lt {w:World} {b:Nat} {X:List Out} (h:IsTal w b X):b<w.heap.size:=by
 obtain ⟨arr,T,h1,_,_⟩:=h;exact lt_of_block h1
theorem blk_setCell {w:World} {b j:Nat} {arr:Array Value} {T:TypeId} {fr:Nat×Nat} (h:w.heap[b]?=some (.cells arr T fr)) (u:Value):(w.setCell ⟨b,j,none⟩ u).heap[b]?=some (.cells (arr.setIfInBounds j u) T fr):=by
 have hlt:=lt_of_block h
 have h':w.heap[b]=.cells arr T fr:=by simpa [Array.getElem?_eq_getElem hlt] using h
 show (w.heap.modify b _)[b]?=_
 rw [Array.getElem?_eq_getElem (by simpa using hlt),Array.getElem_modify_self,h']
 rfl
theorem IsTal.below {w w':World} {b B:Nat} {X:List Out} (h:IsTal w b X) (hb:Below B w w') (hB:b<B):IsTal w' b X:=by
 obtain ⟨arr,T,h1,h2,h3⟩:=h
 exact ⟨arr,T,(hb.block b hB).trans h1,h2,h3⟩
theorem IsTal.one {w:World} {b:Nat} {X:List Out} (h:IsTal w b X) (o:Out) (K:Nat) (hK:o.kind=K) (h1:K≤10) (h6:K≠6):IsTal (w.setCell ⟨b,K,none⟩ (.int .i64 ((cnt X K:Int)+1))) b (X++[o]):=by
 obtain ⟨arr,T,g1,g2,g3⟩:=h
 refine ⟨_,T,blk_setCell g1 _,by simpa using g2,fun j hj=>?_⟩
 rw [Array.getElem?_setIfInBounds,cnt_snoc]
 by_cases hj2:K=j
 ·subst hj2
  rw [if_pos rfl,if_pos (by omega)]
  have:cntP K o=true:=by unfold cntP;rw [if_pos (by omega)];simpa using hK
  rw [this];simp
 ·rw [if_neg hj2,g3 j hj]
  have:cntP j o=false:=by
   unfold cntP
   split
   ·simp;omega
   ·simp;intro h;omega
  rw [this];simp
theorem IsTal.two {w:World} {b:Nat} {X:List Out} (h:IsTal w b X) (o:Out) (Y:Nat) (hK:o.kind=6) (hY:o.why=Y) (h1:Y≤5):IsTal ((w.setCell ⟨b,6,none⟩ (.int .i64 ((cnt X 6:Int)+1))).setCell ⟨b,11+Y,none⟩ (.int .i64 ((cnt X (11+Y):Int)+1))) b (X++[o]):=by
 obtain ⟨arr,T,g1,g2,g3⟩:=h
 refine ⟨_,T,blk_setCell (blk_setCell g1 _) _,by simpa using g2,fun j hj=>?_⟩
 rw [Array.getElem?_setIfInBounds,Array.getElem?_setIfInBounds,cnt_snoc]
 by_cases hj2:11+Y=j
 ·subst hj2
  rw [if_pos rfl,if_pos (by simp;omega)]
  have:cntP (11+Y) o=true:=by unfold cntP;rw [if_neg (by omega)];simp;omega
  rw [this];simp
 ·rw [if_neg hj2]
  by_cases hj3:6=j
  ·subst hj3
   rw [if_pos rfl,if_pos (by omega)]
   have:cntP 6 o=true:=by unfold cntP;rw [if_pos (by omega)];simpa using hK
   rw [this];simp
  ·rw [if_neg hj3,g3 j hj]
   have:cntP j o=false:=by
    unfold cntP
    split
    ·simp;omega
    ·simp;intro h;omega
   rw [this];simp
end Go.Proofs.YtfliffgmeobclaaGreat
