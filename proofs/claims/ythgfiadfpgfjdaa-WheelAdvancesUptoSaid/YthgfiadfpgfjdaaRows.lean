/-
  No cell of these rows narrows 'for every input' (looked for: loops, veiled, ifaces, maps, wideKeys, modest, calm, conditions, laid).
  DERIVED. THE GIVEN ROWS OF THIS SEAT. 3 by the template 'for every input the law returns true; each argument reads behind the call as it read before'; 0 by the template 'total and deterministic' (their statements: YthgfiadfpgfjdaaTotals.lean).
  GIVEN WITH THE SEED: the statements are not yours to turn. If you find one false, say at which input.
  Laid BY PROGRAM, IN A SANDBOX (cutbox-rows.mjs): the forced cells as the released guide's own fill.sh prints them over the translation 0d7d6372256aa73a… (all of the seat's roots in one cut). By AI agents, Wed Nov 11 2026. No macro, syntax, notation, axiom, sorry.
-/
import Derived.Test.YthgfiadfpgfjdaaChecked
import GoSem.Claim
import GoSem.ClaimJoined
import GoSem.ClaimMapViews
import Derived.JoinedTies
import Derived.KernelRfl
namespace Go.Proofs.Ythgfiadfpgfjdaa
/- THE CELL 'sum', in the pinned program and in every row, IS THE sha256 OF THE DUMP (.gsa) THAT YthgfiadfpgfjdaaProg.lean LOADS. Nothing in Lean hashes anything: it is a label: what it is worth is what the hold of that sum in a sandbox is worth. -/
noncomputable def Try.pinned : Pinned := { name := "ythgfiadfpgfjdaa", sum := "0d7d6372256aa73af3ebf3c18049bb46b18cd68375dbe36e942769f68aa0b074", checked := Try.checked }
namespace Rows
def none {H : Type} : Left H := { results := [], args := [] }

/-- 'usherlaw.WheelArms': WHATEVER THE INPUT: true; the input reads as it did. -/
def wheelArmsSpec : ChangeSpec := { name := "wheelArms", fn := fun _ => fun
  | [d1, d2, d3] => { results := [.lit (.bool true)], args := [d1, d2, d3] }
  | _ => none }
def wheelArmsRow : OpenClaim := { program := "ythgfiadfpgfjdaa", sum := "0d7d6372256aa73af3ebf3c18049bb46b18cd68375dbe36e942769f68aa0b074", func := "usher/usherlaw.WheelArms", spec := "wheelArms", inPlace := ["slices.overlaps[usher/api.Timer]"], unfollowed := true, recurses := true, apart := false }
def WheelArmsSaid : Prop := wheelArmsRow.holds Try.pinned (OpenSpec.ofChange wheelArmsSpec)

/-- ITS FALSE NEIGHBOUR: 'it returns false'. Refute it at one input. -/
def wheelArmsWrong : ChangeSpec := { name := "wheelArms", fn := fun _ => fun
  | [d1, d2, d3] => { results := [.lit (.bool false)], args := [d1, d2, d3] }
  | _ => none }
def WheelArmsWrongFalsely : Prop := wheelArmsRow.holds Try.pinned (OpenSpec.ofChange wheelArmsWrong)

/-- 'usherlaw.WheelCancels': WHATEVER THE INPUT: true; the input reads as it did. -/
def wheelCancelsSpec : ChangeSpec := { name := "wheelCancels", fn := fun _ => fun
  | [d1, d2] => { results := [.lit (.bool true)], args := [d1, d2] }
  | _ => none }
def wheelCancelsRow : OpenClaim := { program := "ythgfiadfpgfjdaa", sum := "0d7d6372256aa73af3ebf3c18049bb46b18cd68375dbe36e942769f68aa0b074", func := "usher/usherlaw.WheelCancels", spec := "wheelCancels", unfollowed := true, recurses := true, apart := false }
def WheelCancelsSaid : Prop := wheelCancelsRow.holds Try.pinned (OpenSpec.ofChange wheelCancelsSpec)

/-- ITS FALSE NEIGHBOUR: 'it returns false'. Refute it at one input. -/
def wheelCancelsWrong : ChangeSpec := { name := "wheelCancels", fn := fun _ => fun
  | [d1, d2] => { results := [.lit (.bool false)], args := [d1, d2] }
  | _ => none }
def WheelCancelsWrongFalsely : Prop := wheelCancelsRow.holds Try.pinned (OpenSpec.ofChange wheelCancelsWrong)

/-- 'usherlaw.WheelAdvances': WHATEVER THE INPUT: true; the input reads as it did. -/
def wheelAdvancesSpec : ChangeSpec := { name := "wheelAdvances", fn := fun _ => fun
  | [d] => { results := [.lit (.bool true)], args := [d] }
  | _ => none }
def wheelAdvancesRow : OpenClaim := { program := "ythgfiadfpgfjdaa", sum := "0d7d6372256aa73af3ebf3c18049bb46b18cd68375dbe36e942769f68aa0b074", func := "usher/usherlaw.WheelAdvances", spec := "wheelAdvances", inPlace := ["slices.overlaps[usher/api.Timer]"], unfollowed := true, recurses := true, apart := false }
def WheelAdvancesSaid : Prop := wheelAdvancesRow.holds Try.pinned (OpenSpec.ofChange wheelAdvancesSpec)

/-- ITS FALSE NEIGHBOUR: 'it returns false'. Refute it at one input. -/
def wheelAdvancesWrong : ChangeSpec := { name := "wheelAdvances", fn := fun _ => fun
  | [d] => { results := [.lit (.bool false)], args := [d] }
  | _ => none }
def WheelAdvancesWrongFalsely : Prop := wheelAdvancesRow.holds Try.pinned (OpenSpec.ofChange wheelAdvancesWrong)

/- THE SECOND FORM. 'bulk': how many values and letters a reading holds, each counted each time it is reached (what is shared counts as often as it is met; a slice's spare places count too). A statement '..UptoSaid' is the law's where the arguments, and the package variables that the reading takes, are together of bulk at most 1048576: NARROWER than '..Said'. Prove '..Said' where nothing that the law and all that it calls make is longer than what came in: it says more and counts as full. Else prove '..UptoSaid'. A law counts once. -/
mutual
def uptoBulk {H : Type} : DataW H → Nat
  | .lit (.string bytes) => bytes.length + 1
  | .lit _ => 1
  | .nil => 1
  | .ptr d => uptoBulk d + 1
  | .slice elems spare => uptoBulkAll elems + uptoBulkAll spare + 1
  | .agg parts => uptoBulkAll parts + 1
  | .iface _ d => uptoBulk d + 1
  | .map entries => uptoBulkEntries entries + 1
  | .held _ => 1
def uptoBulkAll {H : Type} : List (DataW H) → Nat
  | [] => 0
  | d :: r => uptoBulk d + uptoBulkAll r
def uptoBulkEntries {H : Type} : List (Lit × DataW H) → Nat
  | [] => 0
  | x :: r => uptoBulkEntry x + uptoBulkEntries r
def uptoBulkEntry {H : Type} : Lit × DataW H → Nat
  | (.string bytes, d) => bytes.length + uptoBulk d + 1
  | (_, d) => uptoBulk d + 1
 end
def uptoSmall : (H : Type) → List (DataW H) → Bool := fun _ ds => decide (uptoBulkAll ds ≤ 1048576)
def OpenSpec.upto (s : _root_.Go.ChangeSpec) : _root_.Go.OpenSpec := { _root_.Go.OpenSpec.ofChange s with cond := some uptoSmall }

/-- 'usherlaw.WheelArms', WHERE WHAT IT READS IS OF BULK AT MOST 1048576: true; the input reads as it did. -/
def wheelArmsUptoRow : OpenClaim := { program := "ythgfiadfpgfjdaa", sum := "0d7d6372256aa73af3ebf3c18049bb46b18cd68375dbe36e942769f68aa0b074", func := "usher/usherlaw.WheelArms", spec := "wheelArms", inPlace := ["slices.overlaps[usher/api.Timer]"], unfollowed := true, recurses := true, apart := false, narrowed := true }
def WheelArmsUptoSaid : Prop := wheelArmsUptoRow.holds Try.pinned (OpenSpec.upto wheelArmsSpec)

/-- 'usherlaw.WheelCancels', WHERE WHAT IT READS IS OF BULK AT MOST 1048576: true; the input reads as it did. -/
def wheelCancelsUptoRow : OpenClaim := { program := "ythgfiadfpgfjdaa", sum := "0d7d6372256aa73af3ebf3c18049bb46b18cd68375dbe36e942769f68aa0b074", func := "usher/usherlaw.WheelCancels", spec := "wheelCancels", unfollowed := true, recurses := true, apart := false, narrowed := true }
def WheelCancelsUptoSaid : Prop := wheelCancelsUptoRow.holds Try.pinned (OpenSpec.upto wheelCancelsSpec)

/-- 'usherlaw.WheelAdvances', WHERE WHAT IT READS IS OF BULK AT MOST 1048576: true; the input reads as it did. -/
def wheelAdvancesUptoRow : OpenClaim := { program := "ythgfiadfpgfjdaa", sum := "0d7d6372256aa73af3ebf3c18049bb46b18cd68375dbe36e942769f68aa0b074", func := "usher/usherlaw.WheelAdvances", spec := "wheelAdvances", inPlace := ["slices.overlaps[usher/api.Timer]"], unfollowed := true, recurses := true, apart := false, narrowed := true }
def WheelAdvancesUptoSaid : Prop := wheelAdvancesUptoRow.holds Try.pinned (OpenSpec.upto wheelAdvancesSpec)

end Rows
end Go.Proofs.Ythgfiadfpgfjdaa
