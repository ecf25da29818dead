/-
  No cell of these rows narrows 'for every input' (looked for: loops, veiled, ifaces, maps, wideKeys, modest, calm, conditions, laid).
  DERIVED. THE GIVEN ROWS OF THIS SEAT. 4 by the template 'for every input the law returns true; each argument reads behind the call as it read before'; 0 by the template 'total and deterministic' (their statements: YtmhbkpgacdmjpaaTotals.lean).
  GIVEN WITH THE SEED: the statements are not yours to turn. If you find one false, say at which input.
  Laid BY PROGRAM, IN A SANDBOX (cutbox-rows.mjs): the forced cells as the released guide's own fill.sh prints them over the translation 6cbad937069a193a… (all of the seat's roots in one cut). By AI agents, Wed Nov 11 2026. No macro, syntax, notation, axiom, sorry.
-/
import Derived.Test.YtmhbkpgacdmjpaaChecked
import GoSem.Claim
import GoSem.ClaimJoined
import GoSem.ClaimMapViews
import Derived.JoinedTies
import Derived.KernelRfl
namespace Go.Proofs.Ytmhbkpgacdmjpaa
/- THE CELL 'sum', in the pinned program and in every row, IS THE sha256 OF THE DUMP (.gsa) THAT YtmhbkpgacdmjpaaProg.lean LOADS. Nothing in Lean hashes anything: it is a label: what it is worth is what the hold of that sum in a sandbox is worth. -/
noncomputable def Try.pinned : Pinned := { name := "ytmhbkpgacdmjpaa", sum := "6cbad937069a193aff8496656a82279f148c26ec8af9f32f82aa412dcfc6a64a", checked := Try.checked }
namespace Rows
def none {H : Type} : Left H := { results := [], args := [] }

/-- 'usherlaw.RingChecks': WHATEVER THE INPUT: true; the input reads as it did. -/
def ringChecksSpec : ChangeSpec := { name := "ringChecks", fn := fun _ => fun
  | [d] => { results := [.lit (.bool true)], args := [d] }
  | _ => none }
def ringChecksRow : OpenClaim := { program := "ytmhbkpgacdmjpaa", sum := "6cbad937069a193aff8496656a82279f148c26ec8af9f32f82aa412dcfc6a64a", func := "usher/usherlaw.RingChecks", spec := "ringChecks", unfollowed := true, recurses := true, apart := false }
def RingChecksSaid : Prop := ringChecksRow.holds Try.pinned (OpenSpec.ofChange ringChecksSpec)

/-- ITS FALSE NEIGHBOUR: 'it returns false'. Refute it at one input. -/
def ringChecksWrong : ChangeSpec := { name := "ringChecks", fn := fun _ => fun
  | [d] => { results := [.lit (.bool false)], args := [d] }
  | _ => none }
def RingChecksWrongFalsely : Prop := ringChecksRow.holds Try.pinned (OpenSpec.ofChange ringChecksWrong)

/-- 'usherlaw.RingAdds': WHATEVER THE INPUT: true; the input reads as it did. -/
def ringAddsSpec : ChangeSpec := { name := "ringAdds", fn := fun _ => fun
  | [d1, d2, d3] => { results := [.lit (.bool true)], args := [d1, d2, d3] }
  | _ => none }
def ringAddsRow : OpenClaim := { program := "ytmhbkpgacdmjpaa", sum := "6cbad937069a193aff8496656a82279f148c26ec8af9f32f82aa412dcfc6a64a", func := "usher/usherlaw.RingAdds", spec := "ringAdds", unfollowed := true, recurses := true, apart := false }
def RingAddsSaid : Prop := ringAddsRow.holds Try.pinned (OpenSpec.ofChange ringAddsSpec)

/-- ITS FALSE NEIGHBOUR: 'it returns false'. Refute it at one input. -/
def ringAddsWrong : ChangeSpec := { name := "ringAdds", fn := fun _ => fun
  | [d1, d2, d3] => { results := [.lit (.bool false)], args := [d1, d2, d3] }
  | _ => none }
def RingAddsWrongFalsely : Prop := ringAddsRow.holds Try.pinned (OpenSpec.ofChange ringAddsWrong)

/-- 'usherlaw.RingRemoves': WHATEVER THE INPUT: true; the input reads as it did. -/
def ringRemovesSpec : ChangeSpec := { name := "ringRemoves", fn := fun _ => fun
  | [d1, d2] => { results := [.lit (.bool true)], args := [d1, d2] }
  | _ => none }
def ringRemovesRow : OpenClaim := { program := "ytmhbkpgacdmjpaa", sum := "6cbad937069a193aff8496656a82279f148c26ec8af9f32f82aa412dcfc6a64a", func := "usher/usherlaw.RingRemoves", spec := "ringRemoves", unfollowed := true, recurses := true, apart := false }
def RingRemovesSaid : Prop := ringRemovesRow.holds Try.pinned (OpenSpec.ofChange ringRemovesSpec)

/-- ITS FALSE NEIGHBOUR: 'it returns false'. Refute it at one input. -/
def ringRemovesWrong : ChangeSpec := { name := "ringRemoves", fn := fun _ => fun
  | [d1, d2] => { results := [.lit (.bool false)], args := [d1, d2] }
  | _ => none }
def RingRemovesWrongFalsely : Prop := ringRemovesRow.holds Try.pinned (OpenSpec.ofChange ringRemovesWrong)

/-- 'usherlaw.RingWalks': WHATEVER THE INPUT: true; the input reads as it did. -/
def ringWalksSpec : ChangeSpec := { name := "ringWalks", fn := fun _ => fun
  | [d1, d2] => { results := [.lit (.bool true)], args := [d1, d2] }
  | _ => none }
def ringWalksRow : OpenClaim := { program := "ytmhbkpgacdmjpaa", sum := "6cbad937069a193aff8496656a82279f148c26ec8af9f32f82aa412dcfc6a64a", func := "usher/usherlaw.RingWalks", spec := "ringWalks", unfollowed := true, recurses := true, apart := false }
def RingWalksSaid : Prop := ringWalksRow.holds Try.pinned (OpenSpec.ofChange ringWalksSpec)

/-- ITS FALSE NEIGHBOUR: 'it returns false'. Refute it at one input. -/
def ringWalksWrong : ChangeSpec := { name := "ringWalks", fn := fun _ => fun
  | [d1, d2] => { results := [.lit (.bool false)], args := [d1, d2] }
  | _ => none }
def RingWalksWrongFalsely : Prop := ringWalksRow.holds Try.pinned (OpenSpec.ofChange ringWalksWrong)

/- THE SECOND FORM. 'bulk': how many values and letters a reading holds, each counted each time it is reached (what is shared counts as often as it is met; a slice's spare places count too). A statement '..UptoSaid' is the law's where the arguments, and the package variables that the reading takes, are together of bulk at most 1048576: NARROWER than '..Said'. Prove '..Said' where nothing that the law and all that it calls make is longer than what came in: it says more and counts as full. Else prove '..UptoSaid'. A law counts once. -/
mutual
def uptoBulk {H : Type} : DataW H → Nat
  | .lit (.string bytes) => bytes.length + 1
  | .lit _ => 1
  | .nil => 1
  | .ptr d => uptoBulk d + 1
  | .slice elems spare => uptoBulkAll elems + uptoBulkAll spare + 1
  | .agg parts => uptoBulkAll parts + 1
  | .iface _ d => uptoBulk d + 1
  | .map entries => uptoBulkEntries entries + 1
  | .held _ => 1
def uptoBulkAll {H : Type} : List (DataW H) → Nat
  | [] => 0
  | d :: r => uptoBulk d + uptoBulkAll r
def uptoBulkEntries {H : Type} : List (Lit × DataW H) → Nat
  | [] => 0
  | x :: r => uptoBulkEntry x + uptoBulkEntries r
def uptoBulkEntry {H : Type} : Lit × DataW H → Nat
  | (.string bytes, d) => bytes.length + uptoBulk d + 1
  | (_, d) => uptoBulk d + 1
 end
def uptoSmall : (H : Type) → List (DataW H) → Bool := fun _ ds => decide (uptoBulkAll ds ≤ 1048576)
def OpenSpec.upto (s : _root_.Go.ChangeSpec) : _root_.Go.OpenSpec := { _root_.Go.OpenSpec.ofChange s with cond := some uptoSmall }

/-- 'usherlaw.RingChecks', WHERE WHAT IT READS IS OF BULK AT MOST 1048576: true; the input reads as it did. -/
def ringChecksUptoRow : OpenClaim := { program := "ytmhbkpgacdmjpaa", sum := "6cbad937069a193aff8496656a82279f148c26ec8af9f32f82aa412dcfc6a64a", func := "usher/usherlaw.RingChecks", spec := "ringChecks", unfollowed := true, recurses := true, apart := false, narrowed := true }
def RingChecksUptoSaid : Prop := ringChecksUptoRow.holds Try.pinned (OpenSpec.upto ringChecksSpec)

/-- 'usherlaw.RingAdds', WHERE WHAT IT READS IS OF BULK AT MOST 1048576: true; the input reads as it did. -/
def ringAddsUptoRow : OpenClaim := { program := "ytmhbkpgacdmjpaa", sum := "6cbad937069a193aff8496656a82279f148c26ec8af9f32f82aa412dcfc6a64a", func := "usher/usherlaw.RingAdds", spec := "ringAdds", unfollowed := true, recurses := true, apart := false, narrowed := true }
def RingAddsUptoSaid : Prop := ringAddsUptoRow.holds Try.pinned (OpenSpec.upto ringAddsSpec)

/-- 'usherlaw.RingRemoves', WHERE WHAT IT READS IS OF BULK AT MOST 1048576: true; the input reads as it did. -/
def ringRemovesUptoRow : OpenClaim := { program := "ytmhbkpgacdmjpaa", sum := "6cbad937069a193aff8496656a82279f148c26ec8af9f32f82aa412dcfc6a64a", func := "usher/usherlaw.RingRemoves", spec := "ringRemoves", unfollowed := true, recurses := true, apart := false, narrowed := true }
def RingRemovesUptoSaid : Prop := ringRemovesUptoRow.holds Try.pinned (OpenSpec.upto ringRemovesSpec)

/-- 'usherlaw.RingWalks', WHERE WHAT IT READS IS OF BULK AT MOST 1048576: true; the input reads as it did. -/
def ringWalksUptoRow : OpenClaim := { program := "ytmhbkpgacdmjpaa", sum := "6cbad937069a193aff8496656a82279f148c26ec8af9f32f82aa412dcfc6a64a", func := "usher/usherlaw.RingWalks", spec := "ringWalks", unfollowed := true, recurses := true, apart := false, narrowed := true }
def RingWalksUptoSaid : Prop := ringWalksUptoRow.holds Try.pinned (OpenSpec.upto ringWalksSpec)

end Rows
end Go.Proofs.Ytmhbkpgacdmjpaa
