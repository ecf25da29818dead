/- The end of a world's begin: what it says. -/
import Derived.Test.YtjfnnbbnkcdbcaaBegW
import Derived.Test.YtjfnnbbnkcdbcaaCfgR
import Derived.Test.YtjfnnbbnkcdbcaaOwn
namespace Go.Proofs.Ytjfnnbbnkcdbcaa
open Go.RowKit

/-- The end of a world's begin. -/
def BegPost (w : World) (num den tries warm drain idle connect retries most bn bd bb ww wf wh : Int) (N : Nat) (e : Ending) (w' : World) : Prop := ∃ vt vh vl, e = .returned (.tuple #[.agg (wArr (N : Int) num den tries warm drain idle connect retries most bn bd bb ww wf wh vt vh (bb * bd) vl), .int .i64 0]) ∧ RowAt w' 4 vt ((zeros N).map Sl.cells) ∧ RowAt w' 4 vh (hnils 12) ∧ RowAt w' 1 vl (nils 25) ∧ Below w.heap.size w w'
theorem setRow_ne {w : World} {b g : Nat} {x : Option Obj} {arr : Array Value} (h : w.heap[b]? = x) (hn : b ≠ g) : (w.setRow g arr).heap[b]? = x := (setRow_other w g b arr hn).trans h
theorem hz_row {w : World} {b : Nat} (h : w.heap[b]? = some (.cells (hnils 12).flatten.toArray 104 (0, 0))) : RowAt w 4 (.slice (some ⟨b, 0, none⟩) 12 12) (hnils 12) :=
  RowAt_of_owns (base := 0) (e := 104) (n := 12) (own_litW (n := 12) (sz := 4) (Nat.zero_le _) h (by unfold maxLen; omega) (by rw [flatten_length (hnils_len 12), hnils_length])) (hnils_length 12) (hnils_len 12)

end Go.Proofs.Ytjfnnbbnkcdbcaa
