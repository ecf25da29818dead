/- Texts of the row's proof. Conditions: none. -/
import Derived.Test.YtennppmadmgfoaaGreatDoorChecked
import Derived.WalkKit
import Derived.Stop.Asserts
import Derived.RowKitTokens
namespace Go.Proofs.YtennppmadmgfoaaGreatDoor
open Proofs.Tryz
set_option maxRecDepth 100000
set_option maxHeartbeats 8000000
open Go.RowKit
section
open Go.RowKit Go.Extern.Stop Go.Stop Go.Extern
theorem as_v27 (t:Addr) (w:World):(ReflectliteValue.unpack (.iface 122 (.pointer (some t)))).run prog w=.ok (.agg #[.pointer (some ⟨1,122,none⟩),.pointer (some ⟨w.heap.size,0,none⟩),.int .u64 150]) (w.alloc (.cells #[.pointer (some t)] 122)):=by kernel_rfl
theorem as_t27 (a : Addr) (w : World) : (ReflectliteValue.methodAny (ReflectliteValue.valueError "reflectlite.Value.Type" 0) (fun t _ _ _ => ReflectliteType.toType t) #[.agg #[.pointer (some ⟨1, 122, none⟩), .pointer (some a), .int .u64 150]]).run prog w = .ok (.iface 214 (.agg #[.pointer (some ⟨1, 122, none⟩)])) w := by kernel_rfl
theorem as_k27 (w:World):((ReflectliteType.abiMethod fun t=>Functor.map (fun a:Nat=>Value.int IntKind.u8 (a:Int)) (Rtype.kind t)) #[.pointer (some ⟨1,122,none⟩)]).run prog w=.ok (.int .u8 22) w:=by kernel_rfl
theorem as_k25 (w:World):((ReflectliteType.abiMethod fun t=>Functor.map (fun a:Nat=>Value.int IntKind.u8 (a:Int)) (Rtype.kind t)) #[.pointer (some ⟨1,62,none⟩)]).run prog w=.ok (.int .u8 2) w:=by kernel_rfl
theorem as_rlm (z:Sem Value) (f:TypeId->Addr->Nat->Nat->Sem Value) (v:Value):ReflectliteValue.method z f #[v]=(do match <- ReflectliteValue.parts v with|none=>z|some (t,a,fl)=>f t a fl (fl % 32)):=rfl
theorem as_p27 (a:Addr) (w:World):(ReflectliteValue.parts (.agg #[.pointer (some ⟨1,122,none⟩),.pointer (some a),.int .u64 150])).run prog w=.ok (some (122,a,150)) w:=by kernel_rfl
theorem as_e27 (w:World):(ReflectliteType.method ReflectliteType.elem #[.agg #[.pointer (some ⟨1,122,none⟩)]]).run prog w=.ok (.iface 214 (.agg #[.pointer (some ⟨1,62,none⟩)])) w:=by kernel_rfl
theorem as_i25 (w : World) : (ReflectliteType.relation "Implements" ReflectliteType.implements_ #[.agg #[.pointer (some ⟨1, 62, none⟩)], .iface 214 (.agg #[.pointer (some ⟨1, 118, none⟩)])]).run prog w = .ok (.bool true) w := by kernel_rfl
theorem as_to25 (v:Value) (w:World):(ReflectliteType.typeOf #[.iface 62 v]).run prog w=.ok (.iface 214 (.agg #[.pointer (some ⟨1,62,none⟩)])) w:=by kernel_rfl
theorem as_a25 (w : World) : (ReflectliteType.relation "AssignableTo" ReflectliteType.assignableTo #[.agg #[.pointer (some ⟨1, 62, none⟩)], .iface 214 (.agg #[.pointer (some ⟨1, 62, none⟩)])]).run prog w = .ok (.bool true) w := by kernel_rfl
theorem as_v25 (c:Int) (w:World):(ReflectliteValue.unpack (.iface 62 (.int .i64 c))).run prog w=.ok (.agg #[.pointer (some ⟨1,62,none⟩),.pointer (some ⟨w.heap.size,0,none⟩),.int .u64 130]) (w.alloc (.cells #[.int .i64 c] 62)):=by kernel_rfl
theorem as_el (w:World):(Rtype.elem? 122).run prog w=.ok (some 62) w:=by kernel_rfl
theorem as_mk (p:Addr) (w:World):(ReflectliteValue.mk 62 p ReflectliteValue.flagAddr).run prog w=.ok (.agg #[.pointer (some ⟨1,62,none⟩),.pointer (some p),.int .u64 386]) w:=by kernel_rfl
theorem as_pa (a:Addr) (w:World):(ReflectliteValue.parts (.agg #[.pointer (some ⟨1,62,none⟩),.pointer (some a),.int .u64 386])).run prog w=.ok (some (62,a,386)) w:=by kernel_rfl
theorem as_pb (a:Addr) (w:World):(ReflectliteValue.parts (.agg #[.pointer (some ⟨1,62,none⟩),.pointer (some a),.int .u64 130])).run prog w=.ok (some (62,a,130)) w:=by kernel_rfl
theorem as_di (w:World):(Rtype.directlyAssignable 62 62).run prog w=.ok true w:=by kernel_rfl
theorem as_mK (h : Value) (w : World) : (Go.method 472 214 (.agg #[h]) "Kind").run prog w = .ok (207, h) w := by kernel_rfl
theorem as_mE (h : Value) (w : World) : (Go.method 472 214 (.agg #[h]) "Elem").run prog w = .ok (220, .agg #[h]) w := by kernel_rfl
theorem as_mI (h : Value) (w : World) : (Go.method 472 214 (.agg #[h]) "Implements").run prog w = .ok (221, .agg #[h]) w := by kernel_rfl
theorem as_mA (h : Value) (w : World) : (Go.method 472 214 (.agg #[h]) "AssignableTo").run prog w = .ok (218, .agg #[h]) w := by kernel_rfl
theorem as_nil (a p : Addr) (W : World) (ha : W.cell? a = some (.pointer (some p))) : (ReflectliteValue.method (ReflectliteValue.valueError "reflectlite.Value.IsNil" 0) ReflectliteValue.isNil #[.agg #[.pointer (some ⟨1, 122, none⟩), .pointer (some a), .int .u64 150]]).run prog W = .ok (.bool false) W := by
 rw [as_rlm]
 simp only [Sem.run_bind,as_p27,Result.andThen]
 simp [ReflectliteValue.isNil,loadVar,isAgg,underlying,underlying122,ha,Result.andThen]
theorem as_elV (a p : Addr) (W : World) (ha : W.cell? a = some (.pointer (some p))) : (ReflectliteValue.method (ReflectliteValue.valueError "reflectlite.Value.Elem" 0) ReflectliteValue.elem #[.agg #[.pointer (some ⟨1, 122, none⟩), .pointer (some a), .int .u64 150]]).run prog W = .ok (.agg #[.pointer (some ⟨1, 62, none⟩), .pointer (some p), .int .u64 386]) W := by
 rw [as_rlm]
 simp only [Sem.run_bind,as_p27,Result.andThen]
 simp [ReflectliteValue.elem,loadVar,isAgg,underlying,underlying122,ha,Result.andThen,as_el,as_mk]
theorem as_rls (v x:Value):ReflectliteValue.set #[v,x]=(do
  let (some (dst,a,fl),some (src,b,_)):=(<- ReflectliteValue.parts v,<- ReflectliteValue.parts x)
   | unsupported (.noEntry "extern/(internal/reflectlite.Value).Set.zeroValue")
  if fl / ReflectliteValue.flagAddr % 2 == 0 then unsupported (.noEntry "extern/(internal/reflectlite.Value).Set.unaddressable")
  let val <- loadVar src b
  if <- Rtype.directlyAssignable dst src then storeVar dst a val
  else if <- Rtype.implements dst src then
   if (<- Rtype.kind src) == 20 then
    match val with
    | .nilIface => unsupported (.noEntry "extern/reflectlite: a nil value of one interface type handed on as a value of another")
    | _=>storeVar dst a val
   else storeVar dst a (.iface src val)
  else panicString ("reflectlite.Set: value of type " ++ (← Rtype.spelt src) ++ " is not assignable to type " ++ (← Rtype.spelt dst))
  pure (.tuple #[])):=rfl
theorem as_set (h b:Addr) (c:Int) (I:Value) (W:World) (z:W.cell? b=some (.int .i64 c)) (G:W.cell? h=some I) (E:W.frozen? h=false):(ReflectliteValue.set #[.agg #[.pointer (some ⟨1,62,none⟩),.pointer (some h),.int .u64 386],.agg #[.pointer (some ⟨1,62,none⟩),.pointer (some b),.int .u64 130]]).run prog W=.ok (.tuple #[]) (W.setCell h (.int .i64 c)):=by
 rw [as_rls]
 simp only [Sem.run_bind,as_pa,as_pb,Result.andThen]
 simp [ReflectliteValue.flagAddr,loadVar,isAgg,underlying,underlying62,z,Result.andThen,as_di,storeVar,Value.cells,storeCells,Addr.add]
 rw [run_store prog W h _ _ (by rfl)]
 simp [G,E]
theorem as_hit (c:Int) (t:Addr) (old:Value) (w:World) (hg:w.cell? ⟨0,0,none⟩=some (.iface 214 (.agg #[.pointer (some ⟨1,118,none⟩)]))) (ht0:w.cell? t=some old) (hf0:w.frozen? t=false) :
  Calls prog 28 #[.iface 62 (.int .i64 c),.iface 122 (.pointer (some t))] w fun ev w'=>ev=.returned (.bool true)/\w'=((((w.alloc (.cells #[.pointer (some t)] 122)).alloc (.cells #[.pointer (some ⟨1,122,none⟩),.pointer (some ⟨w.heap.size,0,none⟩),.int .u64 150] 140)).alloc (.cells #[.pointer (some ⟨1,122,none⟩),.pointer (some ⟨w.heap.size,0,none⟩),.int .u64 150] 140)).alloc (.cells #[.int .i64 c] 62)).setCell t (.int .i64 c):=by
 have h6:=@run_callFunc_extern prog 40 _ (fun args=>ReflectliteValue.unpack (args.getD 0 (.tuple #[]))) func40 (by kernel_rfl) (by kernel_rfl) (by kernel_rfl) (by kernel_rfl)
 have h7 := @run_callFunc_extern prog 41 _ (ReflectliteValue.methodAny (ReflectliteValue.valueError "reflectlite.Value.Type" 0) (fun t _ _ _ => ReflectliteType.toType t)) func41 (by kernel_rfl) (by kernel_rfl) (by kernel_rfl) (by kernel_rfl)
 have h8 := @run_callFunc_extern prog 42 _ (ReflectliteValue.method (ReflectliteValue.valueError "reflectlite.Value.IsNil" 0) ReflectliteValue.isNil) func42 (by kernel_rfl) (by kernel_rfl) (by kernel_rfl) (by kernel_rfl)
 have h27:=@run_callFunc_extern prog 207 _ (ReflectliteType.abiMethod fun t=>do pure (.int .u8 (<- Rtype.kind t))) func207 (by kernel_rfl) (by kernel_rfl) (by kernel_rfl) (by kernel_rfl)
 have h37:=@run_callFunc_extern prog 220 _ (ReflectliteType.method ReflectliteType.elem) func220 (by kernel_rfl) (by kernel_rfl) (by kernel_rfl) (by kernel_rfl)
 have h38 := @run_callFunc_extern prog 221 _ (ReflectliteType.relation "Implements" ReflectliteType.implements_) func221 (by kernel_rfl) (by kernel_rfl) (by kernel_rfl) (by kernel_rfl)
 have h10:=@run_callFunc_extern prog 82 _ ReflectliteType.typeOf func82 (by kernel_rfl) (by kernel_rfl) (by kernel_rfl) (by kernel_rfl)
 have h35 := @run_callFunc_extern prog 218 _ (ReflectliteType.relation "AssignableTo" ReflectliteType.assignableTo) func218 (by kernel_rfl) (by kernel_rfl) (by kernel_rfl) (by kernel_rfl)
 have h11 := @run_callFunc_extern prog 83 _ (ReflectliteValue.method (ReflectliteValue.valueError "reflectlite.Value.Elem" 0) ReflectliteValue.elem) func83 (by kernel_rfl) (by kernel_rfl) (by kernel_rfl) (by kernel_rfl)
 have h12:=@run_callFunc_extern prog 84 _ ReflectliteValue.set func84 (by kernel_rfl) (by kernel_rfl) (by kernel_rfl) (by kernel_rfl)
 have tO:=as_to25
 have mA:=as_mA
 have a25:=as_a25
 have v25:=as_v25
 have f6:=as_v27
 have f7:=as_t27
 have mK:=as_mK
 have mE:=as_mE
 have mI:=as_mI
 have k27:=as_k27
 have k25:=as_k25
 have e27:=as_e27
 have i25:=as_i25
 have n8:=as_nil ⟨w.heap.size,0,none⟩ t ((w.alloc (.cells #[.pointer (some t)] 122)).alloc (.cells #[.pointer (some ⟨1,122,none⟩),.pointer (some ⟨w.heap.size,0,none⟩),.int .u64 150] 140)) (by simp)
 have hlt:0<w.heap.size:=by
  rcases Nat.lt_or_ge 0 w.heap.size with h|h
  ·exact h
  ·simp [World.cell?,Array.getElem?_eq_none h] at hg
 have hg2:((w.alloc (.cells #[.pointer (some t)] 122)).alloc (.cells #[.pointer (some ⟨1,122,none⟩),.pointer (some ⟨w.heap.size,0,none⟩),.int .u64 150] 140)).cell? ⟨0,0,none⟩=some (.iface 214 (.agg #[.pointer (some ⟨1,118,none⟩)])):=by
  rw [World.cell?_alloc_lt _ _ ⟨0,0,none⟩ (by simp<;>omega),World.cell?_alloc_lt _ _ ⟨0,0,none⟩ hlt];exact hg
 have htl:t.block<w.heap.size:=by
  rcases Nat.lt_or_ge t.block w.heap.size with h|h
  ·exact h
  ·simp [World.cell?,Array.getElem?_eq_none h] at ht0
 have el:=as_elV ⟨w.heap.size,0,none⟩ t (((w.alloc (.cells #[.pointer (some t)] 122)).alloc (.cells #[.pointer (some ⟨1,122,none⟩),.pointer (some ⟨w.heap.size,0,none⟩),.int .u64 150] 140)).alloc (.cells #[.pointer (some ⟨1,122,none⟩),.pointer (some ⟨w.heap.size,0,none⟩),.int .u64 150] 140)) (by rw [World.cell?_alloc_lt _ _ ⟨w.heap.size,0,none⟩ (by simp;omega)];simp)
 have st:=as_set t ⟨w.heap.size+1+1+1,0,none⟩ c old ((((w.alloc (.cells #[.pointer (some t)] 122)).alloc (.cells #[.pointer (some ⟨1,122,none⟩),.pointer (some ⟨w.heap.size,0,none⟩),.int .u64 150] 140)).alloc (.cells #[.pointer (some ⟨1,122,none⟩),.pointer (some ⟨w.heap.size,0,none⟩),.int .u64 150] 140)).alloc (.cells #[.int .i64 c] 62))
  (by rw [World.cell?_alloc_at _ _ _ _ (by simp)];rfl)
  (by rw [World.cell?_alloc_lt _ _ t (by simp;omega),World.cell?_alloc_lt _ _ t (by simp;omega),World.cell?_alloc_lt _ _ t (by simp;omega),World.cell?_alloc_lt _ _ t htl];exact ht0)
  (by rw [World.frozen?_alloc_old _ _ t (by simp;omega),World.frozen?_alloc_old _ _ t (by simp;omega),World.frozen?_alloc_old _ _ t (by simp;omega),World.frozen?_alloc_old _ _ t (Nat.ne_of_lt htl)];exact hf0)
 go_in
 go_wp2
 refine wp_loop_rounds 1 ?_
 rw [rounds_succ]
 go_wp2
 go_ret
 exact ⟨rfl,rfl⟩
end
end Go.Proofs.YtennppmadmgfoaaGreatDoor
