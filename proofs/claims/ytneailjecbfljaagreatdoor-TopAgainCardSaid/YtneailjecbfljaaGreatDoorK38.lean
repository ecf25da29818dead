/- Texts of the row's proof. Conditions: none. -/
import Derived.Test.YtneailjecbfljaaGreatDoorK02
namespace Go.Proofs.YtneailjecbfljaaGreatDoor
set_option maxRecDepth 100000
set_option maxHeartbeats 8000000
section
open Go.RowKit
def iL (n:Nat):List (List Value):=List.replicate n [.slice none 0 0,.bool false,.int .i64 0,.int .i64 0]
theorem kQ (n:Nat):∀ c∈iL n,c.length=4:=by
 intro c hc;rw [List.eq_of_mem_replicate hc]
 rfl
theorem ij (n:Nat):(iL n).length=n:=by simp [iL]
theorem qm {w:World} {base b n T sz:Nat} {cs:List Value} (hb:base≤b) (hh:w.heap[b]?=some (.cells cs.toArray T (0,0))) (hn:n≤maxLen) (hl:cs.length=n*sz):w.ownsRow base T sz (.slice (some ⟨b,0,none⟩) n n) n cs:=
 ⟨hl,.inr ⟨b,n,cs.toArray,rfl,hb,hh,Hz _,hn,by simpa using hl,by simp [← hl]⟩⟩
def jU (flows num den tries warm drain idle connect retries most bn bd bb ww wf wh:Int) (vt vh:Value) (bk:Int) (vl:Value):Array Value:=#[.int .i64 flows,.int .i64 num,.int .i64 den,.int .i64 tries,.int .i64 warm,.int .i64 drain,.int .i64 idle,.int .i64 connect,.int .i64 retries,.int .i64 most,.int .i64 bn,.int .i64 bd,.int .i64 bb,.int .i64 ww,.int .i64 wf,.int .i64 wh,.int .i64 0,vt,.slice none 0 0,.slice none 0 0,.slice none 0 0,.slice none 0 0,vh,.int .i64 bk,.int .i64 0,vl]
theorem qo (flows num den tries warm drain idle connect retries most bn bd bb ww wf wh bk:Int) (a1 a2 a3:Option Addr) (n1 c1 n2 c2 n3 c3:Nat):(jU flows num den tries warm drain idle connect retries most bn bd bb ww wf wh (.slice a1 n1 c1) (.slice a2 n2 c2) bk (.slice a3 n3 c3)).all (·.oneCell')=true:=by
 simp [jU]
 repeat' (first|rfl|apply And.intro)
def bP:Array Value:=jU 0 0 0 0 0 0 0 0 0 0 0 0 0 0 0 0 (.slice none 0 0) (.slice none 0 0) 0 (.slice none 0 0)
end
end Go.Proofs.YtneailjecbfljaaGreatDoor
