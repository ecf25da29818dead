/-
  No cell of these rows narrows 'for every input' (looked for: loops, veiled, ifaces, maps, wideKeys, modest, calm, conditions, laid).
  DERIVED. THE GIVEN ROWS OF THIS SEAT. 6 by the template 'for every input the law returns true; each argument reads behind the call as it read before'; 0 by the template 'total and deterministic' (their statements: YtbemdijjdeimgaaTotals.lean).
  GIVEN WITH THE SEED: the statements are not yours to turn. If you find one false, say at which input.
  Laid BY PROGRAM, IN A SANDBOX (cutbox-rows.mjs): the forced cells as the released guide's own fill.sh prints them over the translation 38699486d6cac0c5… (all of the seat's roots in one cut). By AI agents, Wed Nov 11 2026. No macro, syntax, notation, axiom, sorry.
-/
import Derived.Test.YtbemdijjdeimgaaChecked
import GoSem.Claim
import GoSem.ClaimJoined
import GoSem.ClaimMapViews
import Derived.JoinedTies
import Derived.KernelRfl
namespace Go.Proofs.Ytbemdijjdeimgaa
/- THE CELL 'sum', in the pinned program and in every row, IS THE sha256 OF THE DUMP (.gsa) THAT YtbemdijjdeimgaaProg.lean LOADS. Nothing in Lean hashes anything: it is a label: what it is worth is what the hold of that sum in a sandbox is worth. -/
noncomputable def Try.pinned : Pinned := { name := "ytbemdijjdeimgaa", sum := "38699486d6cac0c537f2c9a6bb148f9c481322a8cbb3268db46b17e292aaf399", checked := Try.checked }
namespace Rows
def none {H : Type} : Left H := { results := [], args := [] }

/-- 'usherlaw.TableGets': WHATEVER THE INPUT: true; the input reads as it did. -/
def tableGetsSpec : ChangeSpec := { name := "tableGets", fn := fun _ => fun
  | [d1, d2] => { results := [.lit (.bool true)], args := [d1, d2] }
  | _ => none }
def tableGetsRow : OpenClaim := { program := "ytbemdijjdeimgaa", sum := "38699486d6cac0c537f2c9a6bb148f9c481322a8cbb3268db46b17e292aaf399", func := "usher/usherlaw.TableGets", spec := "tableGets", unfollowed := true, recurses := true, apart := false }
def TableGetsSaid : Prop := tableGetsRow.holds Try.pinned (OpenSpec.ofChange tableGetsSpec)

/-- ITS FALSE NEIGHBOUR: 'it returns false'. Refute it at one input. -/
def tableGetsWrong : ChangeSpec := { name := "tableGets", fn := fun _ => fun
  | [d1, d2] => { results := [.lit (.bool false)], args := [d1, d2] }
  | _ => none }
def TableGetsWrongFalsely : Prop := tableGetsRow.holds Try.pinned (OpenSpec.ofChange tableGetsWrong)

/-- 'usherlaw.TableCounts': WHATEVER THE INPUT: true; the input reads as it did. -/
def tableCountsSpec : ChangeSpec := { name := "tableCounts", fn := fun _ => fun
  | [d] => { results := [.lit (.bool true)], args := [d] }
  | _ => none }
def tableCountsRow : OpenClaim := { program := "ytbemdijjdeimgaa", sum := "38699486d6cac0c537f2c9a6bb148f9c481322a8cbb3268db46b17e292aaf399", func := "usher/usherlaw.TableCounts", spec := "tableCounts", unfollowed := true, recurses := true, apart := false }
def TableCountsSaid : Prop := tableCountsRow.holds Try.pinned (OpenSpec.ofChange tableCountsSpec)

/-- ITS FALSE NEIGHBOUR: 'it returns false'. Refute it at one input. -/
def tableCountsWrong : ChangeSpec := { name := "tableCounts", fn := fun _ => fun
  | [d] => { results := [.lit (.bool false)], args := [d] }
  | _ => none }
def TableCountsWrongFalsely : Prop := tableCountsRow.holds Try.pinned (OpenSpec.ofChange tableCountsWrong)

/-- 'usherlaw.TableOfs': WHATEVER THE INPUT: true; the input reads as it did. -/
def tableOfsSpec : ChangeSpec := { name := "tableOfs", fn := fun _ => fun
  | [d1, d2] => { results := [.lit (.bool true)], args := [d1, d2] }
  | _ => none }
def tableOfsRow : OpenClaim := { program := "ytbemdijjdeimgaa", sum := "38699486d6cac0c537f2c9a6bb148f9c481322a8cbb3268db46b17e292aaf399", func := "usher/usherlaw.TableOfs", spec := "tableOfs", unfollowed := true, recurses := true, apart := false }
def TableOfsSaid : Prop := tableOfsRow.holds Try.pinned (OpenSpec.ofChange tableOfsSpec)

/-- ITS FALSE NEIGHBOUR: 'it returns false'. Refute it at one input. -/
def tableOfsWrong : ChangeSpec := { name := "tableOfs", fn := fun _ => fun
  | [d1, d2] => { results := [.lit (.bool false)], args := [d1, d2] }
  | _ => none }
def TableOfsWrongFalsely : Prop := tableOfsRow.holds Try.pinned (OpenSpec.ofChange tableOfsWrong)

/-- 'usherlaw.TablePuts': WHATEVER THE INPUT: true; the input reads as it did. -/
def tablePutsSpec : ChangeSpec := { name := "tablePuts", fn := fun _ => fun
  | [d1, d2, d3] => { results := [.lit (.bool true)], args := [d1, d2, d3] }
  | _ => none }
def tablePutsRow : OpenClaim := { program := "ytbemdijjdeimgaa", sum := "38699486d6cac0c537f2c9a6bb148f9c481322a8cbb3268db46b17e292aaf399", func := "usher/usherlaw.TablePuts", spec := "tablePuts", unfollowed := true, recurses := true, apart := false }
def TablePutsSaid : Prop := tablePutsRow.holds Try.pinned (OpenSpec.ofChange tablePutsSpec)

/-- ITS FALSE NEIGHBOUR: 'it returns false'. Refute it at one input. -/
def tablePutsWrong : ChangeSpec := { name := "tablePuts", fn := fun _ => fun
  | [d1, d2, d3] => { results := [.lit (.bool false)], args := [d1, d2, d3] }
  | _ => none }
def TablePutsWrongFalsely : Prop := tablePutsRow.holds Try.pinned (OpenSpec.ofChange tablePutsWrong)

/-- 'usherlaw.TableDrops': WHATEVER THE INPUT: true; the input reads as it did. -/
def tableDropsSpec : ChangeSpec := { name := "tableDrops", fn := fun _ => fun
  | [d1, d2] => { results := [.lit (.bool true)], args := [d1, d2] }
  | _ => none }
def tableDropsRow : OpenClaim := { program := "ytbemdijjdeimgaa", sum := "38699486d6cac0c537f2c9a6bb148f9c481322a8cbb3268db46b17e292aaf399", func := "usher/usherlaw.TableDrops", spec := "tableDrops", unfollowed := true, recurses := true, apart := false }
def TableDropsSaid : Prop := tableDropsRow.holds Try.pinned (OpenSpec.ofChange tableDropsSpec)

/-- ITS FALSE NEIGHBOUR: 'it returns false'. Refute it at one input. -/
def tableDropsWrong : ChangeSpec := { name := "tableDrops", fn := fun _ => fun
  | [d1, d2] => { results := [.lit (.bool false)], args := [d1, d2] }
  | _ => none }
def TableDropsWrongFalsely : Prop := tableDropsRow.holds Try.pinned (OpenSpec.ofChange tableDropsWrong)

/-- 'usherlaw.TableMoves': WHATEVER THE INPUT: true; the input reads as it did. -/
def tableMovesSpec : ChangeSpec := { name := "tableMoves", fn := fun _ => fun
  | [d1, d2, d3] => { results := [.lit (.bool true)], args := [d1, d2, d3] }
  | _ => none }
def tableMovesRow : OpenClaim := { program := "ytbemdijjdeimgaa", sum := "38699486d6cac0c537f2c9a6bb148f9c481322a8cbb3268db46b17e292aaf399", func := "usher/usherlaw.TableMoves", spec := "tableMoves", unfollowed := true, recurses := true, apart := false }
def TableMovesSaid : Prop := tableMovesRow.holds Try.pinned (OpenSpec.ofChange tableMovesSpec)

/-- ITS FALSE NEIGHBOUR: 'it returns false'. Refute it at one input. -/
def tableMovesWrong : ChangeSpec := { name := "tableMoves", fn := fun _ => fun
  | [d1, d2, d3] => { results := [.lit (.bool false)], args := [d1, d2, d3] }
  | _ => none }
def TableMovesWrongFalsely : Prop := tableMovesRow.holds Try.pinned (OpenSpec.ofChange tableMovesWrong)

/- THE SECOND FORM. 'bulk': how many values and letters a reading holds, each counted each time it is reached (what is shared counts as often as it is met; a slice's spare places count too). A statement '..UptoSaid' is the law's where the arguments, and the package variables that the reading takes, are together of bulk at most 1048576: NARROWER than '..Said'. Prove '..Said' where nothing that the law and all that it calls make is longer than what came in: it says more and counts as full. Else prove '..UptoSaid'. A law counts once. -/
mutual
def uptoBulk {H : Type} : DataW H → Nat
  | .lit (.string bytes) => bytes.length + 1
  | .lit _ => 1
  | .nil => 1
  | .ptr d => uptoBulk d + 1
  | .slice elems spare => uptoBulkAll elems + uptoBulkAll spare + 1
  | .agg parts => uptoBulkAll parts + 1
  | .iface _ d => uptoBulk d + 1
  | .map entries => uptoBulkEntries entries + 1
  | .held _ => 1
def uptoBulkAll {H : Type} : List (DataW H) → Nat
  | [] => 0
  | d :: r => uptoBulk d + uptoBulkAll r
def uptoBulkEntries {H : Type} : List (Lit × DataW H) → Nat
  | [] => 0
  | x :: r => uptoBulkEntry x + uptoBulkEntries r
def uptoBulkEntry {H : Type} : Lit × DataW H → Nat
  | (.string bytes, d) => bytes.length + uptoBulk d + 1
  | (_, d) => uptoBulk d + 1
 end
def uptoSmall : (H : Type) → List (DataW H) → Bool := fun _ ds => decide (uptoBulkAll ds ≤ 1048576)
def OpenSpec.upto (s : _root_.Go.ChangeSpec) : _root_.Go.OpenSpec := { _root_.Go.OpenSpec.ofChange s with cond := some uptoSmall }

/-- 'usherlaw.TableGets', WHERE WHAT IT READS IS OF BULK AT MOST 1048576: true; the input reads as it did. -/
def tableGetsUptoRow : OpenClaim := { program := "ytbemdijjdeimgaa", sum := "38699486d6cac0c537f2c9a6bb148f9c481322a8cbb3268db46b17e292aaf399", func := "usher/usherlaw.TableGets", spec := "tableGets", unfollowed := true, recurses := true, apart := false, narrowed := true }
def TableGetsUptoSaid : Prop := tableGetsUptoRow.holds Try.pinned (OpenSpec.upto tableGetsSpec)

/-- 'usherlaw.TableCounts', WHERE WHAT IT READS IS OF BULK AT MOST 1048576: true; the input reads as it did. -/
def tableCountsUptoRow : OpenClaim := { program := "ytbemdijjdeimgaa", sum := "38699486d6cac0c537f2c9a6bb148f9c481322a8cbb3268db46b17e292aaf399", func := "usher/usherlaw.TableCounts", spec := "tableCounts", unfollowed := true, recurses := true, apart := false, narrowed := true }
def TableCountsUptoSaid : Prop := tableCountsUptoRow.holds Try.pinned (OpenSpec.upto tableCountsSpec)

/-- 'usherlaw.TableOfs', WHERE WHAT IT READS IS OF BULK AT MOST 1048576: true; the input reads as it did. -/
def tableOfsUptoRow : OpenClaim := { program := "ytbemdijjdeimgaa", sum := "38699486d6cac0c537f2c9a6bb148f9c481322a8cbb3268db46b17e292aaf399", func := "usher/usherlaw.TableOfs", spec := "tableOfs", unfollowed := true, recurses := true, apart := false, narrowed := true }
def TableOfsUptoSaid : Prop := tableOfsUptoRow.holds Try.pinned (OpenSpec.upto tableOfsSpec)

/-- 'usherlaw.TablePuts', WHERE WHAT IT READS IS OF BULK AT MOST 1048576: true; the input reads as it did. -/
def tablePutsUptoRow : OpenClaim := { program := "ytbemdijjdeimgaa", sum := "38699486d6cac0c537f2c9a6bb148f9c481322a8cbb3268db46b17e292aaf399", func := "usher/usherlaw.TablePuts", spec := "tablePuts", unfollowed := true, recurses := true, apart := false, narrowed := true }
def TablePutsUptoSaid : Prop := tablePutsUptoRow.holds Try.pinned (OpenSpec.upto tablePutsSpec)

/-- 'usherlaw.TableDrops', WHERE WHAT IT READS IS OF BULK AT MOST 1048576: true; the input reads as it did. -/
def tableDropsUptoRow : OpenClaim := { program := "ytbemdijjdeimgaa", sum := "38699486d6cac0c537f2c9a6bb148f9c481322a8cbb3268db46b17e292aaf399", func := "usher/usherlaw.TableDrops", spec := "tableDrops", unfollowed := true, recurses := true, apart := false, narrowed := true }
def TableDropsUptoSaid : Prop := tableDropsUptoRow.holds Try.pinned (OpenSpec.upto tableDropsSpec)

/-- 'usherlaw.TableMoves', WHERE WHAT IT READS IS OF BULK AT MOST 1048576: true; the input reads as it did. -/
def tableMovesUptoRow : OpenClaim := { program := "ytbemdijjdeimgaa", sum := "38699486d6cac0c537f2c9a6bb148f9c481322a8cbb3268db46b17e292aaf399", func := "usher/usherlaw.TableMoves", spec := "tableMoves", unfollowed := true, recurses := true, apart := false, narrowed := true }
def TableMovesUptoSaid : Prop := tableMovesUptoRow.holds Try.pinned (OpenSpec.upto tableMovesSpec)

end Rows
end Go.Proofs.Ytbemdijjdeimgaa
