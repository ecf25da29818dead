/- Texts of the row's proof. Conditions: none. -/
import Derived.Test.YtennppmadmgfoaaGreatDoorK02
namespace Go.Proofs.YtennppmadmgfoaaGreatDoor
set_option maxRecDepth 100000
set_option maxHeartbeats 8000000
section
open Go.RowKit
def iV (n:Nat):List (List Value):=List.replicate n [.slice none 0 0,.bool false,.int .i64 0,.int .i64 0]
theorem lF (n:Nat):∀ c∈iV n,c.length=4:=by
 intro c h;rw [List.eq_of_mem_replicate h]
 rfl
theorem iv (n:Nat):(iV n).length=n:=by simp [iV]
theorem ry {w:World} {base b n T sz:Nat} {cs:List Value} (z:base<=b) (E:w.heap[b]?=some (.cells cs.toArray T (0,0))) (I:n<=maxLen) (h:cs.length=n*sz):w.ownsRow base T sz (.slice (some ⟨b,0,none⟩) n n) n cs:=
 ⟨h,.inr ⟨b,n,cs.toArray,rfl,z,E,KY _,I,by simpa using h,by simp [<- h]⟩⟩
def ko (flows num den tries Y drain idle connect J most I z h ww Z wh:Int) (W K:Value) (E:Int) (U:Value):Array Value:=#[.int .i64 flows,.int .i64 num,.int .i64 den,.int .i64 tries,.int .i64 Y,.int .i64 drain,.int .i64 idle,.int .i64 connect,.int .i64 J,.int .i64 most,.int .i64 I,.int .i64 z,.int .i64 h,.int .i64 ww,.int .i64 Z,.int .i64 wh,.int .i64 0,W,.slice none 0 0,.slice none 0 0,.slice none 0 0,.slice none 0 0,K,.int .i64 E,.int .i64 0,U]
theorem rC (flows num den tries a4 drain idle connect a0 most U J I ww wf wh K:Int) (h z E:Option Addr) (n1 W n2 Y n3 Z:Nat):(ko flows num den tries a4 drain idle connect a0 most U J I ww wf wh (.slice h n1 W) (.slice z n2 Y) K (.slice E n3 Z)).all (·.oneCell')=true:=by
 simp [ko]
 repeat' (first|rfl|apply And.intro)
def bS:Array Value:=ko 0 0 0 0 0 0 0 0 0 0 0 0 0 0 0 0 (.slice none 0 0) (.slice none 0 0) 0 (.slice none 0 0)
end
end Go.Proofs.YtennppmadmgfoaaGreatDoor
