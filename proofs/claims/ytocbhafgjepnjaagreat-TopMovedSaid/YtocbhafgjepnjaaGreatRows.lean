/-
  No cell of these rows narrows 'for every input' (looked for: loops, veiled, ifaces, maps, wideKeys, modest, calm, conditions, laid).
  DERIVED. THE GIVEN ROWS OF THIS SEAT. 10 by the template 'for every input the law returns true; each argument reads behind the call as it read before'; 0 by the template 'total and deterministic' (their statements: YtocbhafgjepnjaaGreatTotals.lean).
  GIVEN WITH THE SEED: the statements are not yours to turn. If you find one false, say at which input.
  Laid BY PROGRAM, IN A SANDBOX (cutbox-rows.mjs): the forced cells as the released guide's own fill.sh prints them over the translation b1c6b837811e78fc… (all of the seat's roots in one cut). By AI agents, Wed Nov 11 2026. No macro, syntax, notation, axiom, sorry.
-/
import Derived.Test.YtocbhafgjepnjaaGreatChecked
import GoSem.Claim
import GoSem.ClaimJoined
import GoSem.ClaimMapViews
import Derived.JoinedTies
import Derived.KernelRfl
namespace Go.Proofs.YtocbhafgjepnjaaGreat
/- THE CELL 'sum', in the pinned program and in every row, IS THE sha256 OF THE DUMP (.gsa) THAT YtocbhafgjepnjaaGreatProg.lean LOADS. Nothing in Lean hashes anything: it is a label: what it is worth is what the hold of that sum in a sandbox is worth. -/
noncomputable def Tryz.pinned : Pinned := { name := "ytocbhafgjepnjaagreat", sum := "b1c6b837811e78fc2568c5153a81cd4dfe5bace1eecbef41d9c8be57904c5d07", checked := Tryz.checked }
namespace Rows
def none {H : Type} : Left H := { results := [], args := [] }

/-- 'ushertop.TopClock': WHATEVER THE INPUT: true; the input reads as it did. -/
def topClockSpec : ChangeSpec := { name := "topClock", fn := fun _ => fun
  | [d1, d2] => { results := [.lit (.bool true)], args := [d1, d2] }
  | _ => none }
def topClockRow : OpenClaim := { program := "ytocbhafgjepnjaagreat", sum := "b1c6b837811e78fc2568c5153a81cd4dfe5bace1eecbef41d9c8be57904c5d07", func := "usher/ushertop.TopClock", spec := "topClock", inPlace := ["slices.overlaps[usher/api.Timer]", "slices.overlaps[usher/api.Flow]", "slices.overlaps[usher/api.Life]"], unfollowed := true, recurses := true, apart := false }
def TopClockSaid : Prop := topClockRow.holds Tryz.pinned (OpenSpec.ofChange topClockSpec)

/-- ITS FALSE NEIGHBOUR: 'it returns false'. Refute it at one input. -/
def topClockWrong : ChangeSpec := { name := "topClock", fn := fun _ => fun
  | [d1, d2] => { results := [.lit (.bool false)], args := [d1, d2] }
  | _ => none }
def TopClockWrongFalsely : Prop := topClockRow.holds Tryz.pinned (OpenSpec.ofChange topClockWrong)

/-- 'ushertop.TopTold': WHATEVER THE INPUT: true; the input reads as it did. -/
def topToldSpec : ChangeSpec := { name := "topTold", fn := fun _ => fun
  | [d1, d2] => { results := [.lit (.bool true)], args := [d1, d2] }
  | _ => none }
def topToldRow : OpenClaim := { program := "ytocbhafgjepnjaagreat", sum := "b1c6b837811e78fc2568c5153a81cd4dfe5bace1eecbef41d9c8be57904c5d07", func := "usher/ushertop.TopTold", spec := "topTold", inPlace := ["slices.overlaps[usher/api.Timer]", "slices.overlaps[usher/api.Flow]", "slices.overlaps[usher/api.Life]"], unfollowed := true, recurses := true, apart := false }
def TopToldSaid : Prop := topToldRow.holds Tryz.pinned (OpenSpec.ofChange topToldSpec)

/-- ITS FALSE NEIGHBOUR: 'it returns false'. Refute it at one input. -/
def topToldWrong : ChangeSpec := { name := "topTold", fn := fun _ => fun
  | [d1, d2] => { results := [.lit (.bool false)], args := [d1, d2] }
  | _ => none }
def TopToldWrongFalsely : Prop := topToldRow.holds Tryz.pinned (OpenSpec.ofChange topToldWrong)

/-- 'ushertop.TopOut': WHATEVER THE INPUT: true; the input reads as it did. -/
def topOutSpec : ChangeSpec := { name := "topOut", fn := fun _ => fun
  | [d1, d2] => { results := [.lit (.bool true)], args := [d1, d2] }
  | _ => none }
def topOutRow : OpenClaim := { program := "ytocbhafgjepnjaagreat", sum := "b1c6b837811e78fc2568c5153a81cd4dfe5bace1eecbef41d9c8be57904c5d07", func := "usher/ushertop.TopOut", spec := "topOut", inPlace := ["slices.overlaps[usher/api.Timer]", "slices.overlaps[usher/api.Flow]", "slices.overlaps[usher/api.Life]"], unfollowed := true, recurses := true, apart := false }
def TopOutSaid : Prop := topOutRow.holds Tryz.pinned (OpenSpec.ofChange topOutSpec)

/-- ITS FALSE NEIGHBOUR: 'it returns false'. Refute it at one input. -/
def topOutWrong : ChangeSpec := { name := "topOut", fn := fun _ => fun
  | [d1, d2] => { results := [.lit (.bool false)], args := [d1, d2] }
  | _ => none }
def TopOutWrongFalsely : Prop := topOutRow.holds Tryz.pinned (OpenSpec.ofChange topOutWrong)

/-- 'ushertop.TopOnRing': WHATEVER THE INPUT: true; the input reads as it did. -/
def topOnRingSpec : ChangeSpec := { name := "topOnRing", fn := fun _ => fun
  | [d1, d2, d3] => { results := [.lit (.bool true)], args := [d1, d2, d3] }
  | _ => none }
def topOnRingRow : OpenClaim := { program := "ytocbhafgjepnjaagreat", sum := "b1c6b837811e78fc2568c5153a81cd4dfe5bace1eecbef41d9c8be57904c5d07", func := "usher/ushertop.TopOnRing", spec := "topOnRing", inPlace := ["slices.overlaps[usher/api.Timer]", "slices.overlaps[usher/api.Flow]", "slices.overlaps[usher/api.Life]"], unfollowed := true, recurses := true, apart := false }
def TopOnRingSaid : Prop := topOnRingRow.holds Tryz.pinned (OpenSpec.ofChange topOnRingSpec)

/-- ITS FALSE NEIGHBOUR: 'it returns false'. Refute it at one input. -/
def topOnRingWrong : ChangeSpec := { name := "topOnRing", fn := fun _ => fun
  | [d1, d2, d3] => { results := [.lit (.bool false)], args := [d1, d2, d3] }
  | _ => none }
def TopOnRingWrongFalsely : Prop := topOnRingRow.holds Tryz.pinned (OpenSpec.ofChange topOnRingWrong)

/-- 'ushertop.TopTaken': WHATEVER THE INPUT: true; the input reads as it did. -/
def topTakenSpec : ChangeSpec := { name := "topTaken", fn := fun _ => fun
  | [d1, d2] => { results := [.lit (.bool true)], args := [d1, d2] }
  | _ => none }
def topTakenRow : OpenClaim := { program := "ytocbhafgjepnjaagreat", sum := "b1c6b837811e78fc2568c5153a81cd4dfe5bace1eecbef41d9c8be57904c5d07", func := "usher/ushertop.TopTaken", spec := "topTaken", inPlace := ["slices.overlaps[usher/api.Timer]", "slices.overlaps[usher/api.Flow]", "slices.overlaps[usher/api.Life]"], unfollowed := true, recurses := true, apart := false }
def TopTakenSaid : Prop := topTakenRow.holds Tryz.pinned (OpenSpec.ofChange topTakenSpec)

/-- ITS FALSE NEIGHBOUR: 'it returns false'. Refute it at one input. -/
def topTakenWrong : ChangeSpec := { name := "topTaken", fn := fun _ => fun
  | [d1, d2] => { results := [.lit (.bool false)], args := [d1, d2] }
  | _ => none }
def TopTakenWrongFalsely : Prop := topTakenRow.holds Tryz.pinned (OpenSpec.ofChange topTakenWrong)

/-- 'ushertop.TopReplies': WHATEVER THE INPUT: true; the input reads as it did. -/
def topRepliesSpec : ChangeSpec := { name := "topReplies", fn := fun _ => fun
  | [d1, d2] => { results := [.lit (.bool true)], args := [d1, d2] }
  | _ => none }
def topRepliesRow : OpenClaim := { program := "ytocbhafgjepnjaagreat", sum := "b1c6b837811e78fc2568c5153a81cd4dfe5bace1eecbef41d9c8be57904c5d07", func := "usher/ushertop.TopReplies", spec := "topReplies", inPlace := ["slices.overlaps[usher/api.Timer]", "slices.overlaps[usher/api.Flow]", "slices.overlaps[usher/api.Life]"], unfollowed := true, recurses := true, apart := false }
def TopRepliesSaid : Prop := topRepliesRow.holds Tryz.pinned (OpenSpec.ofChange topRepliesSpec)

/-- ITS FALSE NEIGHBOUR: 'it returns false'. Refute it at one input. -/
def topRepliesWrong : ChangeSpec := { name := "topReplies", fn := fun _ => fun
  | [d1, d2] => { results := [.lit (.bool false)], args := [d1, d2] }
  | _ => none }
def TopRepliesWrongFalsely : Prop := topRepliesRow.holds Tryz.pinned (OpenSpec.ofChange topRepliesWrong)

/-- 'ushertop.TopRing': WHATEVER THE INPUT: true; the input reads as it did. -/
def topRingSpec : ChangeSpec := { name := "topRing", fn := fun _ => fun
  | [d1, d2] => { results := [.lit (.bool true)], args := [d1, d2] }
  | _ => none }
def topRingRow : OpenClaim := { program := "ytocbhafgjepnjaagreat", sum := "b1c6b837811e78fc2568c5153a81cd4dfe5bace1eecbef41d9c8be57904c5d07", func := "usher/ushertop.TopRing", spec := "topRing", inPlace := ["slices.overlaps[usher/api.Timer]", "slices.overlaps[usher/api.Flow]", "slices.overlaps[usher/api.Life]"], unfollowed := true, recurses := true, apart := false }
def TopRingSaid : Prop := topRingRow.holds Tryz.pinned (OpenSpec.ofChange topRingSpec)

/-- ITS FALSE NEIGHBOUR: 'it returns false'. Refute it at one input. -/
def topRingWrong : ChangeSpec := { name := "topRing", fn := fun _ => fun
  | [d1, d2] => { results := [.lit (.bool false)], args := [d1, d2] }
  | _ => none }
def TopRingWrongFalsely : Prop := topRingRow.holds Tryz.pinned (OpenSpec.ofChange topRingWrong)

/-- 'ushertop.TopMoved': WHATEVER THE INPUT: true; the input reads as it did. -/
def topMovedSpec : ChangeSpec := { name := "topMoved", fn := fun _ => fun
  | [d1, d2] => { results := [.lit (.bool true)], args := [d1, d2] }
  | _ => none }
def topMovedRow : OpenClaim := { program := "ytocbhafgjepnjaagreat", sum := "b1c6b837811e78fc2568c5153a81cd4dfe5bace1eecbef41d9c8be57904c5d07", func := "usher/ushertop.TopMoved", spec := "topMoved", inPlace := ["slices.overlaps[usher/api.Timer]", "slices.overlaps[usher/api.Flow]", "slices.overlaps[usher/api.Life]"], unfollowed := true, recurses := true, apart := false }
def TopMovedSaid : Prop := topMovedRow.holds Tryz.pinned (OpenSpec.ofChange topMovedSpec)

/-- ITS FALSE NEIGHBOUR: 'it returns false'. Refute it at one input. -/
def topMovedWrong : ChangeSpec := { name := "topMoved", fn := fun _ => fun
  | [d1, d2] => { results := [.lit (.bool false)], args := [d1, d2] }
  | _ => none }
def TopMovedWrongFalsely : Prop := topMovedRow.holds Tryz.pinned (OpenSpec.ofChange topMovedWrong)

/-- 'ushertop.TopWarm': WHATEVER THE INPUT: true; the input reads as it did. -/
def topWarmSpec : ChangeSpec := { name := "topWarm", fn := fun _ => fun
  | [d1, d2] => { results := [.lit (.bool true)], args := [d1, d2] }
  | _ => none }
def topWarmRow : OpenClaim := { program := "ytocbhafgjepnjaagreat", sum := "b1c6b837811e78fc2568c5153a81cd4dfe5bace1eecbef41d9c8be57904c5d07", func := "usher/ushertop.TopWarm", spec := "topWarm", inPlace := ["slices.overlaps[usher/api.Timer]", "slices.overlaps[usher/api.Flow]", "slices.overlaps[usher/api.Life]"], unfollowed := true, recurses := true, apart := false }
def TopWarmSaid : Prop := topWarmRow.holds Tryz.pinned (OpenSpec.ofChange topWarmSpec)

/-- ITS FALSE NEIGHBOUR: 'it returns false'. Refute it at one input. -/
def topWarmWrong : ChangeSpec := { name := "topWarm", fn := fun _ => fun
  | [d1, d2] => { results := [.lit (.bool false)], args := [d1, d2] }
  | _ => none }
def TopWarmWrongFalsely : Prop := topWarmRow.holds Tryz.pinned (OpenSpec.ofChange topWarmWrong)

/-- 'ushertop.TopKept': WHATEVER THE INPUT: true; the input reads as it did. -/
def topKeptSpec : ChangeSpec := { name := "topKept", fn := fun _ => fun
  | [d1, d2, d3] => { results := [.lit (.bool true)], args := [d1, d2, d3] }
  | _ => none }
def topKeptRow : OpenClaim := { program := "ytocbhafgjepnjaagreat", sum := "b1c6b837811e78fc2568c5153a81cd4dfe5bace1eecbef41d9c8be57904c5d07", func := "usher/ushertop.TopKept", spec := "topKept", inPlace := ["slices.overlaps[usher/api.Timer]", "slices.overlaps[usher/api.Flow]", "slices.overlaps[usher/api.Life]"], unfollowed := true, recurses := true, apart := false }
def TopKeptSaid : Prop := topKeptRow.holds Tryz.pinned (OpenSpec.ofChange topKeptSpec)

/-- ITS FALSE NEIGHBOUR: 'it returns false'. Refute it at one input. -/
def topKeptWrong : ChangeSpec := { name := "topKept", fn := fun _ => fun
  | [d1, d2, d3] => { results := [.lit (.bool false)], args := [d1, d2, d3] }
  | _ => none }
def TopKeptWrongFalsely : Prop := topKeptRow.holds Tryz.pinned (OpenSpec.ofChange topKeptWrong)

/- THE SECOND FORM. 'bulk': how many values and letters a reading holds, each counted each time it is reached (what is shared counts as often as it is met; a slice's spare places count too). A statement '..UptoSaid' is the law's where the arguments, and the package variables that the reading takes, are together of bulk at most 1048576: NARROWER than '..Said'. Prove '..Said' where nothing that the law and all that it calls make is longer than what came in: it says more and counts as full. Else prove '..UptoSaid'. A law counts once. -/
mutual
def uptoBulk {H : Type} : DataW H → Nat
  | .lit (.string bytes) => bytes.length + 1
  | .lit _ => 1
  | .nil => 1
  | .ptr d => uptoBulk d + 1
  | .slice elems spare => uptoBulkAll elems + uptoBulkAll spare + 1
  | .agg parts => uptoBulkAll parts + 1
  | .iface _ d => uptoBulk d + 1
  | .map entries => uptoBulkEntries entries + 1
  | .held _ => 1
def uptoBulkAll {H : Type} : List (DataW H) → Nat
  | [] => 0
  | d :: r => uptoBulk d + uptoBulkAll r
def uptoBulkEntries {H : Type} : List (Lit × DataW H) → Nat
  | [] => 0
  | x :: r => uptoBulkEntry x + uptoBulkEntries r
def uptoBulkEntry {H : Type} : Lit × DataW H → Nat
  | (.string bytes, d) => bytes.length + uptoBulk d + 1
  | (_, d) => uptoBulk d + 1
 end
def uptoSmall : (H : Type) → List (DataW H) → Bool := fun _ ds => decide (uptoBulkAll ds ≤ 1048576)
def OpenSpec.upto (s : _root_.Go.ChangeSpec) : _root_.Go.OpenSpec := { _root_.Go.OpenSpec.ofChange s with cond := some uptoSmall }

/-- 'ushertop.TopClock', WHERE WHAT IT READS IS OF BULK AT MOST 1048576: true; the input reads as it did. -/
def topClockUptoRow : OpenClaim := { program := "ytocbhafgjepnjaagreat", sum := "b1c6b837811e78fc2568c5153a81cd4dfe5bace1eecbef41d9c8be57904c5d07", func := "usher/ushertop.TopClock", spec := "topClock", inPlace := ["slices.overlaps[usher/api.Timer]", "slices.overlaps[usher/api.Flow]", "slices.overlaps[usher/api.Life]"], unfollowed := true, recurses := true, apart := false, narrowed := true }
def TopClockUptoSaid : Prop := topClockUptoRow.holds Tryz.pinned (OpenSpec.upto topClockSpec)

/-- 'ushertop.TopTold', WHERE WHAT IT READS IS OF BULK AT MOST 1048576: true; the input reads as it did. -/
def topToldUptoRow : OpenClaim := { program := "ytocbhafgjepnjaagreat", sum := "b1c6b837811e78fc2568c5153a81cd4dfe5bace1eecbef41d9c8be57904c5d07", func := "usher/ushertop.TopTold", spec := "topTold", inPlace := ["slices.overlaps[usher/api.Timer]", "slices.overlaps[usher/api.Flow]", "slices.overlaps[usher/api.Life]"], unfollowed := true, recurses := true, apart := false, narrowed := true }
def TopToldUptoSaid : Prop := topToldUptoRow.holds Tryz.pinned (OpenSpec.upto topToldSpec)

/-- 'ushertop.TopOut', WHERE WHAT IT READS IS OF BULK AT MOST 1048576: true; the input reads as it did. -/
def topOutUptoRow : OpenClaim := { program := "ytocbhafgjepnjaagreat", sum := "b1c6b837811e78fc2568c5153a81cd4dfe5bace1eecbef41d9c8be57904c5d07", func := "usher/ushertop.TopOut", spec := "topOut", inPlace := ["slices.overlaps[usher/api.Timer]", "slices.overlaps[usher/api.Flow]", "slices.overlaps[usher/api.Life]"], unfollowed := true, recurses := true, apart := false, narrowed := true }
def TopOutUptoSaid : Prop := topOutUptoRow.holds Tryz.pinned (OpenSpec.upto topOutSpec)

/-- 'ushertop.TopOnRing', WHERE WHAT IT READS IS OF BULK AT MOST 1048576: true; the input reads as it did. -/
def topOnRingUptoRow : OpenClaim := { program := "ytocbhafgjepnjaagreat", sum := "b1c6b837811e78fc2568c5153a81cd4dfe5bace1eecbef41d9c8be57904c5d07", func := "usher/ushertop.TopOnRing", spec := "topOnRing", inPlace := ["slices.overlaps[usher/api.Timer]", "slices.overlaps[usher/api.Flow]", "slices.overlaps[usher/api.Life]"], unfollowed := true, recurses := true, apart := false, narrowed := true }
def TopOnRingUptoSaid : Prop := topOnRingUptoRow.holds Tryz.pinned (OpenSpec.upto topOnRingSpec)

/-- 'ushertop.TopTaken', WHERE WHAT IT READS IS OF BULK AT MOST 1048576: true; the input reads as it did. -/
def topTakenUptoRow : OpenClaim := { program := "ytocbhafgjepnjaagreat", sum := "b1c6b837811e78fc2568c5153a81cd4dfe5bace1eecbef41d9c8be57904c5d07", func := "usher/ushertop.TopTaken", spec := "topTaken", inPlace := ["slices.overlaps[usher/api.Timer]", "slices.overlaps[usher/api.Flow]", "slices.overlaps[usher/api.Life]"], unfollowed := true, recurses := true, apart := false, narrowed := true }
def TopTakenUptoSaid : Prop := topTakenUptoRow.holds Tryz.pinned (OpenSpec.upto topTakenSpec)

/-- 'ushertop.TopReplies', WHERE WHAT IT READS IS OF BULK AT MOST 1048576: true; the input reads as it did. -/
def topRepliesUptoRow : OpenClaim := { program := "ytocbhafgjepnjaagreat", sum := "b1c6b837811e78fc2568c5153a81cd4dfe5bace1eecbef41d9c8be57904c5d07", func := "usher/ushertop.TopReplies", spec := "topReplies", inPlace := ["slices.overlaps[usher/api.Timer]", "slices.overlaps[usher/api.Flow]", "slices.overlaps[usher/api.Life]"], unfollowed := true, recurses := true, apart := false, narrowed := true }
def TopRepliesUptoSaid : Prop := topRepliesUptoRow.holds Tryz.pinned (OpenSpec.upto topRepliesSpec)

/-- 'ushertop.TopRing', WHERE WHAT IT READS IS OF BULK AT MOST 1048576: true; the input reads as it did. -/
def topRingUptoRow : OpenClaim := { program := "ytocbhafgjepnjaagreat", sum := "b1c6b837811e78fc2568c5153a81cd4dfe5bace1eecbef41d9c8be57904c5d07", func := "usher/ushertop.TopRing", spec := "topRing", inPlace := ["slices.overlaps[usher/api.Timer]", "slices.overlaps[usher/api.Flow]", "slices.overlaps[usher/api.Life]"], unfollowed := true, recurses := true, apart := false, narrowed := true }
def TopRingUptoSaid : Prop := topRingUptoRow.holds Tryz.pinned (OpenSpec.upto topRingSpec)

/-- 'ushertop.TopMoved', WHERE WHAT IT READS IS OF BULK AT MOST 1048576: true; the input reads as it did. -/
def topMovedUptoRow : OpenClaim := { program := "ytocbhafgjepnjaagreat", sum := "b1c6b837811e78fc2568c5153a81cd4dfe5bace1eecbef41d9c8be57904c5d07", func := "usher/ushertop.TopMoved", spec := "topMoved", inPlace := ["slices.overlaps[usher/api.Timer]", "slices.overlaps[usher/api.Flow]", "slices.overlaps[usher/api.Life]"], unfollowed := true, recurses := true, apart := false, narrowed := true }
def TopMovedUptoSaid : Prop := topMovedUptoRow.holds Tryz.pinned (OpenSpec.upto topMovedSpec)

/-- 'ushertop.TopWarm', WHERE WHAT IT READS IS OF BULK AT MOST 1048576: true; the input reads as it did. -/
def topWarmUptoRow : OpenClaim := { program := "ytocbhafgjepnjaagreat", sum := "b1c6b837811e78fc2568c5153a81cd4dfe5bace1eecbef41d9c8be57904c5d07", func := "usher/ushertop.TopWarm", spec := "topWarm", inPlace := ["slices.overlaps[usher/api.Timer]", "slices.overlaps[usher/api.Flow]", "slices.overlaps[usher/api.Life]"], unfollowed := true, recurses := true, apart := false, narrowed := true }
def TopWarmUptoSaid : Prop := topWarmUptoRow.holds Tryz.pinned (OpenSpec.upto topWarmSpec)

/-- 'ushertop.TopKept', WHERE WHAT IT READS IS OF BULK AT MOST 1048576: true; the input reads as it did. -/
def topKeptUptoRow : OpenClaim := { program := "ytocbhafgjepnjaagreat", sum := "b1c6b837811e78fc2568c5153a81cd4dfe5bace1eecbef41d9c8be57904c5d07", func := "usher/ushertop.TopKept", spec := "topKept", inPlace := ["slices.overlaps[usher/api.Timer]", "slices.overlaps[usher/api.Flow]", "slices.overlaps[usher/api.Life]"], unfollowed := true, recurses := true, apart := false, narrowed := true }
def TopKeptUptoSaid : Prop := topKeptUptoRow.holds Tryz.pinned (OpenSpec.upto topKeptSpec)

end Rows
end Go.Proofs.YtocbhafgjepnjaaGreat
