/-
  No cell of these rows narrows 'for every input' (looked for: loops, veiled, ifaces, maps, wideKeys, modest, calm, conditions, laid).
  DERIVED. THE GIVEN ROWS OF THIS SEAT. 5 by the template 'for every input the law returns true; each argument reads behind the call as it read before'; 0 by the template 'total and deterministic' (their statements: YtjnfnmbkmgjdlaaTotals.lean).
  GIVEN WITH THE SEED: the statements are not yours to turn. If you find one false, say at which input.
  Laid BY PROGRAM, IN A SANDBOX (cutbox-rows.mjs): the forced cells as the released guide's own fill.sh prints them over the translation 57aa2fafc8dc8915… (all of the seat's roots in one cut). By AI agents, Wed Nov 11 2026. No macro, syntax, notation, axiom, sorry.
-/
import Derived.Test.YtjnfnmbkmgjdlaaChecked
import GoSem.Claim
import GoSem.ClaimJoined
import GoSem.ClaimMapViews
import Derived.JoinedTies
import Derived.KernelRfl
namespace Go.Proofs.Ytjnfnmbkmgjdlaa
/- THE CELL 'sum', in the pinned program and in every row, IS THE sha256 OF THE DUMP (.gsa) THAT YtjnfnmbkmgjdlaaProg.lean LOADS. Nothing in Lean hashes anything: it is a label: what it is worth is what the hold of that sum in a sandbox is worth. -/
noncomputable def Try.pinned : Pinned := { name := "ytjnfnmbkmgjdlaa", sum := "57aa2fafc8dc8915b9074619e85ae0713dbdb196d2cac5c7d444efad308a4263", checked := Try.checked }
namespace Rows
def none {H : Type} : Left H := { results := [], args := [] }

/-- 'usherlaw.TallyStories': WHATEVER THE INPUT: true; the input reads as it did. -/
def tallyStoriesSpec : ChangeSpec := { name := "tallyStories", fn := fun _ => fun
  | [d1, d2] => { results := [.lit (.bool true)], args := [d1, d2] }
  | _ => none }
def tallyStoriesRow : OpenClaim := { program := "ytjnfnmbkmgjdlaa", sum := "57aa2fafc8dc8915b9074619e85ae0713dbdb196d2cac5c7d444efad308a4263", func := "usher/usherlaw.TallyStories", spec := "tallyStories", plainKeys := false, apart := false }
def TallyStoriesSaid : Prop := tallyStoriesRow.holds Try.pinned (OpenSpec.ofChange tallyStoriesSpec)

/-- ITS FALSE NEIGHBOUR: 'it returns false'. Refute it at one input. -/
def tallyStoriesWrong : ChangeSpec := { name := "tallyStories", fn := fun _ => fun
  | [d1, d2] => { results := [.lit (.bool false)], args := [d1, d2] }
  | _ => none }
def TallyStoriesWrongFalsely : Prop := tallyStoriesRow.holds Try.pinned (OpenSpec.ofChange tallyStoriesWrong)

/-- 'usherlaw.TallyBys': WHATEVER THE INPUT: true; the input reads as it did. -/
def tallyBysSpec : ChangeSpec := { name := "tallyBys", fn := fun _ => fun
  | [d] => { results := [.lit (.bool true)], args := [d] }
  | _ => none }
def tallyBysRow : OpenClaim := { program := "ytjnfnmbkmgjdlaa", sum := "57aa2fafc8dc8915b9074619e85ae0713dbdb196d2cac5c7d444efad308a4263", func := "usher/usherlaw.TallyBys", spec := "tallyBys", plainKeys := false, apart := false }
def TallyBysSaid : Prop := tallyBysRow.holds Try.pinned (OpenSpec.ofChange tallyBysSpec)

/-- ITS FALSE NEIGHBOUR: 'it returns false'. Refute it at one input. -/
def tallyBysWrong : ChangeSpec := { name := "tallyBys", fn := fun _ => fun
  | [d] => { results := [.lit (.bool false)], args := [d] }
  | _ => none }
def TallyBysWrongFalsely : Prop := tallyBysRow.holds Try.pinned (OpenSpec.ofChange tallyBysWrong)

/-- 'usherlaw.HealthNotes': WHATEVER THE INPUT: true; the input reads as it did. -/
def healthNotesSpec : ChangeSpec := { name := "healthNotes", fn := fun _ => fun
  | [d1, d2, d3, d4, d5] => { results := [.lit (.bool true)], args := [d1, d2, d3, d4, d5] }
  | _ => none }
def healthNotesRow : OpenClaim := { program := "ytjnfnmbkmgjdlaa", sum := "57aa2fafc8dc8915b9074619e85ae0713dbdb196d2cac5c7d444efad308a4263", func := "usher/usherlaw.HealthNotes", spec := "healthNotes", plainKeys := false, apart := false }
def HealthNotesSaid : Prop := healthNotesRow.holds Try.pinned (OpenSpec.ofChange healthNotesSpec)

/-- ITS FALSE NEIGHBOUR: 'it returns false'. Refute it at one input. -/
def healthNotesWrong : ChangeSpec := { name := "healthNotes", fn := fun _ => fun
  | [d1, d2, d3, d4, d5] => { results := [.lit (.bool false)], args := [d1, d2, d3, d4, d5] }
  | _ => none }
def HealthNotesWrongFalsely : Prop := healthNotesRow.holds Try.pinned (OpenSpec.ofChange healthNotesWrong)

/-- 'usherlaw.HealthBacks': WHATEVER THE INPUT: true; the input reads as it did. -/
def healthBacksSpec : ChangeSpec := { name := "healthBacks", fn := fun _ => fun
  | [d1, d2, d3] => { results := [.lit (.bool true)], args := [d1, d2, d3] }
  | _ => none }
def healthBacksRow : OpenClaim := { program := "ytjnfnmbkmgjdlaa", sum := "57aa2fafc8dc8915b9074619e85ae0713dbdb196d2cac5c7d444efad308a4263", func := "usher/usherlaw.HealthBacks", spec := "healthBacks", plainKeys := false, apart := false }
def HealthBacksSaid : Prop := healthBacksRow.holds Try.pinned (OpenSpec.ofChange healthBacksSpec)

/-- ITS FALSE NEIGHBOUR: 'it returns false'. Refute it at one input. -/
def healthBacksWrong : ChangeSpec := { name := "healthBacks", fn := fun _ => fun
  | [d1, d2, d3] => { results := [.lit (.bool false)], args := [d1, d2, d3] }
  | _ => none }
def HealthBacksWrongFalsely : Prop := healthBacksRow.holds Try.pinned (OpenSpec.ofChange healthBacksWrong)

/-- 'usherlaw.BoundCaps': WHATEVER THE INPUT: true; the input reads as it did. -/
def boundCapsSpec : ChangeSpec := { name := "boundCaps", fn := fun _ => fun
  | [d1, d2, d3, d4] => { results := [.lit (.bool true)], args := [d1, d2, d3, d4] }
  | _ => none }
def boundCapsRow : OpenClaim := { program := "ytjnfnmbkmgjdlaa", sum := "57aa2fafc8dc8915b9074619e85ae0713dbdb196d2cac5c7d444efad308a4263", func := "usher/usherlaw.BoundCaps", spec := "boundCaps", plainKeys := false, apart := false }
def BoundCapsSaid : Prop := boundCapsRow.holds Try.pinned (OpenSpec.ofChange boundCapsSpec)

/-- ITS FALSE NEIGHBOUR: 'it returns false'. Refute it at one input. -/
def boundCapsWrong : ChangeSpec := { name := "boundCaps", fn := fun _ => fun
  | [d1, d2, d3, d4] => { results := [.lit (.bool false)], args := [d1, d2, d3, d4] }
  | _ => none }
def BoundCapsWrongFalsely : Prop := boundCapsRow.holds Try.pinned (OpenSpec.ofChange boundCapsWrong)

/- THE SECOND FORM. 'bulk': how many values and letters a reading holds, each counted each time it is reached (what is shared counts as often as it is met; a slice's spare places count too). A statement '..UptoSaid' is the law's where the arguments, and the package variables that the reading takes, are together of bulk at most 1048576: NARROWER than '..Said'. Prove '..Said' where nothing that the law and all that it calls make is longer than what came in: it says more and counts as full. Else prove '..UptoSaid'. A law counts once. -/
mutual
def uptoBulk {H : Type} : DataW H → Nat
  | .lit (.string bytes) => bytes.length + 1
  | .lit _ => 1
  | .nil => 1
  | .ptr d => uptoBulk d + 1
  | .slice elems spare => uptoBulkAll elems + uptoBulkAll spare + 1
  | .agg parts => uptoBulkAll parts + 1
  | .iface _ d => uptoBulk d + 1
  | .map entries => uptoBulkEntries entries + 1
  | .held _ => 1
def uptoBulkAll {H : Type} : List (DataW H) → Nat
  | [] => 0
  | d :: r => uptoBulk d + uptoBulkAll r
def uptoBulkEntries {H : Type} : List (Lit × DataW H) → Nat
  | [] => 0
  | x :: r => uptoBulkEntry x + uptoBulkEntries r
def uptoBulkEntry {H : Type} : Lit × DataW H → Nat
  | (.string bytes, d) => bytes.length + uptoBulk d + 1
  | (_, d) => uptoBulk d + 1
 end
def uptoSmall : (H : Type) → List (DataW H) → Bool := fun _ ds => decide (uptoBulkAll ds ≤ 1048576)
def OpenSpec.upto (s : _root_.Go.ChangeSpec) : _root_.Go.OpenSpec := { _root_.Go.OpenSpec.ofChange s with cond := some uptoSmall }

/-- 'usherlaw.TallyStories', WHERE WHAT IT READS IS OF BULK AT MOST 1048576: true; the input reads as it did. -/
def tallyStoriesUptoRow : OpenClaim := { program := "ytjnfnmbkmgjdlaa", sum := "57aa2fafc8dc8915b9074619e85ae0713dbdb196d2cac5c7d444efad308a4263", func := "usher/usherlaw.TallyStories", spec := "tallyStories", plainKeys := false, apart := false, narrowed := true }
def TallyStoriesUptoSaid : Prop := tallyStoriesUptoRow.holds Try.pinned (OpenSpec.upto tallyStoriesSpec)

/-- 'usherlaw.TallyBys', WHERE WHAT IT READS IS OF BULK AT MOST 1048576: true; the input reads as it did. -/
def tallyBysUptoRow : OpenClaim := { program := "ytjnfnmbkmgjdlaa", sum := "57aa2fafc8dc8915b9074619e85ae0713dbdb196d2cac5c7d444efad308a4263", func := "usher/usherlaw.TallyBys", spec := "tallyBys", plainKeys := false, apart := false, narrowed := true }
def TallyBysUptoSaid : Prop := tallyBysUptoRow.holds Try.pinned (OpenSpec.upto tallyBysSpec)

/-- 'usherlaw.HealthNotes', WHERE WHAT IT READS IS OF BULK AT MOST 1048576: true; the input reads as it did. -/
def healthNotesUptoRow : OpenClaim := { program := "ytjnfnmbkmgjdlaa", sum := "57aa2fafc8dc8915b9074619e85ae0713dbdb196d2cac5c7d444efad308a4263", func := "usher/usherlaw.HealthNotes", spec := "healthNotes", plainKeys := false, apart := false, narrowed := true }
def HealthNotesUptoSaid : Prop := healthNotesUptoRow.holds Try.pinned (OpenSpec.upto healthNotesSpec)

/-- 'usherlaw.HealthBacks', WHERE WHAT IT READS IS OF BULK AT MOST 1048576: true; the input reads as it did. -/
def healthBacksUptoRow : OpenClaim := { program := "ytjnfnmbkmgjdlaa", sum := "57aa2fafc8dc8915b9074619e85ae0713dbdb196d2cac5c7d444efad308a4263", func := "usher/usherlaw.HealthBacks", spec := "healthBacks", plainKeys := false, apart := false, narrowed := true }
def HealthBacksUptoSaid : Prop := healthBacksUptoRow.holds Try.pinned (OpenSpec.upto healthBacksSpec)

/-- 'usherlaw.BoundCaps', WHERE WHAT IT READS IS OF BULK AT MOST 1048576: true; the input reads as it did. -/
def boundCapsUptoRow : OpenClaim := { program := "ytjnfnmbkmgjdlaa", sum := "57aa2fafc8dc8915b9074619e85ae0713dbdb196d2cac5c7d444efad308a4263", func := "usher/usherlaw.BoundCaps", spec := "boundCaps", plainKeys := false, apart := false, narrowed := true }
def BoundCapsUptoSaid : Prop := boundCapsUptoRow.holds Try.pinned (OpenSpec.upto boundCapsSpec)

end Rows
end Go.Proofs.Ytjnfnmbkmgjdlaa
