/-
  No cell of these rows narrows 'for every input' (looked for: loops, veiled, ifaces, maps, wideKeys, modest, calm, conditions, laid).
  DERIVED. THE GIVEN ROWS OF THIS SEAT. 5 by the template 'for every input the law returns true; each argument reads behind the call as it read before'; 0 by the template 'total and deterministic' (their statements: YthngedmmeiiklaaTotals.lean).
  GIVEN WITH THE SEED: the statements are not yours to turn. If you find one false, say at which input.
  Laid BY PROGRAM, IN A SANDBOX (cutbox-rows.mjs): the forced cells as the released guide's own fill.sh prints them over the translation 140341e8f5e9442f… (all of the seat's roots in one cut). By AI agents, Wed Nov 11 2026. No macro, syntax, notation, axiom, sorry.
-/
import Derived.Test.YthngedmmeiiklaaChecked
import GoSem.Claim
import GoSem.ClaimJoined
import GoSem.ClaimMapViews
import Derived.JoinedTies
import Derived.KernelRfl
namespace Go.Proofs.Ythngedmmeiiklaa
/- THE CELL 'sum', in the pinned program and in every row, IS THE sha256 OF THE DUMP (.gsa) THAT YthngedmmeiiklaaProg.lean LOADS. Nothing in Lean hashes anything: it is a label: what it is worth is what the hold of that sum in a sandbox is worth. -/
noncomputable def Try.pinned : Pinned := { name := "ythngedmmeiiklaa", sum := "140341e8f5e9442f49de0ee934a422187a7302103ac8ebdc5cb08fe99cf962a3", checked := Try.checked }
namespace Rows
def none {H : Type} : Left H := { results := [], args := [] }

/-- 'usherlaw.LifeChecks': WHATEVER THE INPUT: true; the input reads as it did. -/
def lifeChecksSpec : ChangeSpec := { name := "lifeChecks", fn := fun _ => fun
  | [d] => { results := [.lit (.bool true)], args := [d] }
  | _ => none }
def lifeChecksRow : OpenClaim := { program := "ythngedmmeiiklaa", sum := "140341e8f5e9442f49de0ee934a422187a7302103ac8ebdc5cb08fe99cf962a3", func := "usher/usherlaw.LifeChecks", spec := "lifeChecks", apart := false }
def LifeChecksSaid : Prop := lifeChecksRow.holds Try.pinned (OpenSpec.ofChange lifeChecksSpec)

/-- ITS FALSE NEIGHBOUR: 'it returns false'. Refute it at one input. -/
def lifeChecksWrong : ChangeSpec := { name := "lifeChecks", fn := fun _ => fun
  | [d] => { results := [.lit (.bool false)], args := [d] }
  | _ => none }
def LifeChecksWrongFalsely : Prop := lifeChecksRow.holds Try.pinned (OpenSpec.ofChange lifeChecksWrong)

/-- 'usherlaw.LifeAsks': WHATEVER THE INPUT: true; the input reads as it did. -/
def lifeAsksSpec : ChangeSpec := { name := "lifeAsks", fn := fun _ => fun
  | [d1, d2, d3, d4] => { results := [.lit (.bool true)], args := [d1, d2, d3, d4] }
  | _ => none }
def lifeAsksRow : OpenClaim := { program := "ythngedmmeiiklaa", sum := "140341e8f5e9442f49de0ee934a422187a7302103ac8ebdc5cb08fe99cf962a3", func := "usher/usherlaw.LifeAsks", spec := "lifeAsks", inPlace := ["slices.overlaps[usher/api.Life]"], unfollowed := true, recurses := true, apart := false }
def LifeAsksSaid : Prop := lifeAsksRow.holds Try.pinned (OpenSpec.ofChange lifeAsksSpec)

/-- ITS FALSE NEIGHBOUR: 'it returns false'. Refute it at one input. -/
def lifeAsksWrong : ChangeSpec := { name := "lifeAsks", fn := fun _ => fun
  | [d1, d2, d3, d4] => { results := [.lit (.bool false)], args := [d1, d2, d3, d4] }
  | _ => none }
def LifeAsksWrongFalsely : Prop := lifeAsksRow.holds Try.pinned (OpenSpec.ofChange lifeAsksWrong)

/-- 'usherlaw.LifeWakes': WHATEVER THE INPUT: true; the input reads as it did. -/
def lifeWakesSpec : ChangeSpec := { name := "lifeWakes", fn := fun _ => fun
  | [d1, d2] => { results := [.lit (.bool true)], args := [d1, d2] }
  | _ => none }
def lifeWakesRow : OpenClaim := { program := "ythngedmmeiiklaa", sum := "140341e8f5e9442f49de0ee934a422187a7302103ac8ebdc5cb08fe99cf962a3", func := "usher/usherlaw.LifeWakes", spec := "lifeWakes", apart := false }
def LifeWakesSaid : Prop := lifeWakesRow.holds Try.pinned (OpenSpec.ofChange lifeWakesSpec)

/-- ITS FALSE NEIGHBOUR: 'it returns false'. Refute it at one input. -/
def lifeWakesWrong : ChangeSpec := { name := "lifeWakes", fn := fun _ => fun
  | [d1, d2] => { results := [.lit (.bool false)], args := [d1, d2] }
  | _ => none }
def LifeWakesWrongFalsely : Prop := lifeWakesRow.holds Try.pinned (OpenSpec.ofChange lifeWakesWrong)

/-- 'usherlaw.LifeFinishes': WHATEVER THE INPUT: true; the input reads as it did. -/
def lifeFinishesSpec : ChangeSpec := { name := "lifeFinishes", fn := fun _ => fun
  | [d1, d2] => { results := [.lit (.bool true)], args := [d1, d2] }
  | _ => none }
def lifeFinishesRow : OpenClaim := { program := "ythngedmmeiiklaa", sum := "140341e8f5e9442f49de0ee934a422187a7302103ac8ebdc5cb08fe99cf962a3", func := "usher/usherlaw.LifeFinishes", spec := "lifeFinishes", unfollowed := true, recurses := true, apart := false }
def LifeFinishesSaid : Prop := lifeFinishesRow.holds Try.pinned (OpenSpec.ofChange lifeFinishesSpec)

/-- ITS FALSE NEIGHBOUR: 'it returns false'. Refute it at one input. -/
def lifeFinishesWrong : ChangeSpec := { name := "lifeFinishes", fn := fun _ => fun
  | [d1, d2] => { results := [.lit (.bool false)], args := [d1, d2] }
  | _ => none }
def LifeFinishesWrongFalsely : Prop := lifeFinishesRow.holds Try.pinned (OpenSpec.ofChange lifeFinishesWrong)

/-- 'usherlaw.LifeOfs': WHATEVER THE INPUT: true; the input reads as it did. -/
def lifeOfsSpec : ChangeSpec := { name := "lifeOfs", fn := fun _ => fun
  | [d1, d2] => { results := [.lit (.bool true)], args := [d1, d2] }
  | _ => none }
def lifeOfsRow : OpenClaim := { program := "ythngedmmeiiklaa", sum := "140341e8f5e9442f49de0ee934a422187a7302103ac8ebdc5cb08fe99cf962a3", func := "usher/usherlaw.LifeOfs", spec := "lifeOfs", unfollowed := true, recurses := true, apart := false }
def LifeOfsSaid : Prop := lifeOfsRow.holds Try.pinned (OpenSpec.ofChange lifeOfsSpec)

/-- ITS FALSE NEIGHBOUR: 'it returns false'. Refute it at one input. -/
def lifeOfsWrong : ChangeSpec := { name := "lifeOfs", fn := fun _ => fun
  | [d1, d2] => { results := [.lit (.bool false)], args := [d1, d2] }
  | _ => none }
def LifeOfsWrongFalsely : Prop := lifeOfsRow.holds Try.pinned (OpenSpec.ofChange lifeOfsWrong)

/- THE SECOND FORM. 'bulk': how many values and letters a reading holds, each counted each time it is reached (what is shared counts as often as it is met; a slice's spare places count too). A statement '..UptoSaid' is the law's where the arguments, and the package variables that the reading takes, are together of bulk at most 1048576: NARROWER than '..Said'. Prove '..Said' where nothing that the law and all that it calls make is longer than what came in: it says more and counts as full. Else prove '..UptoSaid'. A law counts once. -/
mutual
def uptoBulk {H : Type} : DataW H → Nat
  | .lit (.string bytes) => bytes.length + 1
  | .lit _ => 1
  | .nil => 1
  | .ptr d => uptoBulk d + 1
  | .slice elems spare => uptoBulkAll elems + uptoBulkAll spare + 1
  | .agg parts => uptoBulkAll parts + 1
  | .iface _ d => uptoBulk d + 1
  | .map entries => uptoBulkEntries entries + 1
  | .held _ => 1
def uptoBulkAll {H : Type} : List (DataW H) → Nat
  | [] => 0
  | d :: r => uptoBulk d + uptoBulkAll r
def uptoBulkEntries {H : Type} : List (Lit × DataW H) → Nat
  | [] => 0
  | x :: r => uptoBulkEntry x + uptoBulkEntries r
def uptoBulkEntry {H : Type} : Lit × DataW H → Nat
  | (.string bytes, d) => bytes.length + uptoBulk d + 1
  | (_, d) => uptoBulk d + 1
 end
def uptoSmall : (H : Type) → List (DataW H) → Bool := fun _ ds => decide (uptoBulkAll ds ≤ 1048576)
def OpenSpec.upto (s : _root_.Go.ChangeSpec) : _root_.Go.OpenSpec := { _root_.Go.OpenSpec.ofChange s with cond := some uptoSmall }

/-- 'usherlaw.LifeChecks', WHERE WHAT IT READS IS OF BULK AT MOST 1048576: true; the input reads as it did. -/
def lifeChecksUptoRow : OpenClaim := { program := "ythngedmmeiiklaa", sum := "140341e8f5e9442f49de0ee934a422187a7302103ac8ebdc5cb08fe99cf962a3", func := "usher/usherlaw.LifeChecks", spec := "lifeChecks", apart := false, narrowed := true }
def LifeChecksUptoSaid : Prop := lifeChecksUptoRow.holds Try.pinned (OpenSpec.upto lifeChecksSpec)

/-- 'usherlaw.LifeAsks', WHERE WHAT IT READS IS OF BULK AT MOST 1048576: true; the input reads as it did. -/
def lifeAsksUptoRow : OpenClaim := { program := "ythngedmmeiiklaa", sum := "140341e8f5e9442f49de0ee934a422187a7302103ac8ebdc5cb08fe99cf962a3", func := "usher/usherlaw.LifeAsks", spec := "lifeAsks", inPlace := ["slices.overlaps[usher/api.Life]"], unfollowed := true, recurses := true, apart := false, narrowed := true }
def LifeAsksUptoSaid : Prop := lifeAsksUptoRow.holds Try.pinned (OpenSpec.upto lifeAsksSpec)

/-- 'usherlaw.LifeWakes', WHERE WHAT IT READS IS OF BULK AT MOST 1048576: true; the input reads as it did. -/
def lifeWakesUptoRow : OpenClaim := { program := "ythngedmmeiiklaa", sum := "140341e8f5e9442f49de0ee934a422187a7302103ac8ebdc5cb08fe99cf962a3", func := "usher/usherlaw.LifeWakes", spec := "lifeWakes", apart := false, narrowed := true }
def LifeWakesUptoSaid : Prop := lifeWakesUptoRow.holds Try.pinned (OpenSpec.upto lifeWakesSpec)

/-- 'usherlaw.LifeFinishes', WHERE WHAT IT READS IS OF BULK AT MOST 1048576: true; the input reads as it did. -/
def lifeFinishesUptoRow : OpenClaim := { program := "ythngedmmeiiklaa", sum := "140341e8f5e9442f49de0ee934a422187a7302103ac8ebdc5cb08fe99cf962a3", func := "usher/usherlaw.LifeFinishes", spec := "lifeFinishes", unfollowed := true, recurses := true, apart := false, narrowed := true }
def LifeFinishesUptoSaid : Prop := lifeFinishesUptoRow.holds Try.pinned (OpenSpec.upto lifeFinishesSpec)

/-- 'usherlaw.LifeOfs', WHERE WHAT IT READS IS OF BULK AT MOST 1048576: true; the input reads as it did. -/
def lifeOfsUptoRow : OpenClaim := { program := "ythngedmmeiiklaa", sum := "140341e8f5e9442f49de0ee934a422187a7302103ac8ebdc5cb08fe99cf962a3", func := "usher/usherlaw.LifeOfs", spec := "lifeOfs", unfollowed := true, recurses := true, apart := false, narrowed := true }
def LifeOfsUptoSaid : Prop := lifeOfsUptoRow.holds Try.pinned (OpenSpec.upto lifeOfsSpec)

end Rows
end Go.Proofs.Ythngedmmeiiklaa
