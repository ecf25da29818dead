/-
  No cell of these rows narrows 'for every input' (looked for: loops, veiled, ifaces, maps, wideKeys, modest, calm, conditions, laid).
  DERIVED. THE GIVEN ROWS OF THIS SEAT. 6 by the template 'for every input the law returns true; each argument reads behind the call as it read before'; 0 by the template 'total and deterministic' (their statements: YtjfnnbbnkcdbcaaTotals.lean).
  GIVEN WITH THE SEED: the statements are not yours to turn. If you find one false, say at which input.
  Laid BY PROGRAM, IN A SANDBOX (cutbox-rows.mjs): the forced cells as the released guide's own fill.sh prints them over the translation 5abd41278a44247f… (all of the seat's roots in one cut). By AI agents, Wed Nov 11 2026. No macro, syntax, notation, axiom, sorry.
-/
import Derived.Test.YtjfnnbbnkcdbcaaChecked
import GoSem.Claim
import GoSem.ClaimJoined
import GoSem.ClaimMapViews
import Derived.JoinedTies
import Derived.KernelRfl
namespace Go.Proofs.Ytjfnnbbnkcdbcaa
/- THE CELL 'sum', in the pinned program and in every row, IS THE sha256 OF THE DUMP (.gsa) THAT YtjfnnbbnkcdbcaaProg.lean LOADS. Nothing in Lean hashes anything: it is a label: what it is worth is what the hold of that sum in a sandbox is worth. -/
noncomputable def Try.pinned : Pinned := { name := "ytjfnnbbnkcdbcaa", sum := "5abd41278a44247f92c75a84ace53fcd47c0b8a5f34c247a75cdf5ea2996262a", checked := Try.checked }
namespace Rows
def none {H : Type} : Left H := { results := [], args := [] }

/-- 'usherlaw.WireChecks': WHATEVER THE INPUT: true; the input reads as it did. -/
def wireChecksSpec : ChangeSpec := { name := "wireChecks", fn := fun _ => fun
  | [d] => { results := [.lit (.bool true)], args := [d] }
  | _ => none }
def wireChecksRow : OpenClaim := { program := "ytjfnnbbnkcdbcaa", sum := "5abd41278a44247f92c75a84ace53fcd47c0b8a5f34c247a75cdf5ea2996262a", func := "usher/usherlaw.WireChecks", spec := "wireChecks", apart := false }
def WireChecksSaid : Prop := wireChecksRow.holds Try.pinned (OpenSpec.ofChange wireChecksSpec)

/-- ITS FALSE NEIGHBOUR: 'it returns false'. Refute it at one input. -/
def wireChecksWrong : ChangeSpec := { name := "wireChecks", fn := fun _ => fun
  | [d] => { results := [.lit (.bool false)], args := [d] }
  | _ => none }
def WireChecksWrongFalsely : Prop := wireChecksRow.holds Try.pinned (OpenSpec.ofChange wireChecksWrong)

/-- 'usherlaw.WireEncodes': WHATEVER THE INPUT: true; the input reads as it did. -/
def wireEncodesSpec : ChangeSpec := { name := "wireEncodes", fn := fun _ => fun
  | [d] => { results := [.lit (.bool true)], args := [d] }
  | _ => none }
def wireEncodesRow : OpenClaim := { program := "ytjfnnbbnkcdbcaa", sum := "5abd41278a44247f92c75a84ace53fcd47c0b8a5f34c247a75cdf5ea2996262a", func := "usher/usherlaw.WireEncodes", spec := "wireEncodes", recurses := true, apart := false }
def WireEncodesSaid : Prop := wireEncodesRow.holds Try.pinned (OpenSpec.ofChange wireEncodesSpec)

/-- ITS FALSE NEIGHBOUR: 'it returns false'. Refute it at one input. -/
def wireEncodesWrong : ChangeSpec := { name := "wireEncodes", fn := fun _ => fun
  | [d] => { results := [.lit (.bool false)], args := [d] }
  | _ => none }
def WireEncodesWrongFalsely : Prop := wireEncodesRow.holds Try.pinned (OpenSpec.ofChange wireEncodesWrong)

/-- 'usherlaw.WireDecodes': WHATEVER THE INPUT: true; the input reads as it did. -/
def wireDecodesSpec : ChangeSpec := { name := "wireDecodes", fn := fun _ => fun
  | [d] => { results := [.lit (.bool true)], args := [d] }
  | _ => none }
def wireDecodesRow : OpenClaim := { program := "ytjfnnbbnkcdbcaa", sum := "5abd41278a44247f92c75a84ace53fcd47c0b8a5f34c247a75cdf5ea2996262a", func := "usher/usherlaw.WireDecodes", spec := "wireDecodes", apart := false }
def WireDecodesSaid : Prop := wireDecodesRow.holds Try.pinned (OpenSpec.ofChange wireDecodesSpec)

/-- ITS FALSE NEIGHBOUR: 'it returns false'. Refute it at one input. -/
def wireDecodesWrong : ChangeSpec := { name := "wireDecodes", fn := fun _ => fun
  | [d] => { results := [.lit (.bool false)], args := [d] }
  | _ => none }
def WireDecodesWrongFalsely : Prop := wireDecodesRow.holds Try.pinned (OpenSpec.ofChange wireDecodesWrong)

/-- 'usherlaw.CoreChecks': WHATEVER THE INPUT: true; the input reads as it did. -/
def coreChecksSpec : ChangeSpec := { name := "coreChecks", fn := fun _ => fun
  | [d] => { results := [.lit (.bool true)], args := [d] }
  | _ => none }
def coreChecksRow : OpenClaim := { program := "ytjfnnbbnkcdbcaa", sum := "5abd41278a44247f92c75a84ace53fcd47c0b8a5f34c247a75cdf5ea2996262a", func := "usher/usherlaw.CoreChecks", spec := "coreChecks", apart := false }
def CoreChecksSaid : Prop := coreChecksRow.holds Try.pinned (OpenSpec.ofChange coreChecksSpec)

/-- ITS FALSE NEIGHBOUR: 'it returns false'. Refute it at one input. -/
def coreChecksWrong : ChangeSpec := { name := "coreChecks", fn := fun _ => fun
  | [d] => { results := [.lit (.bool false)], args := [d] }
  | _ => none }
def CoreChecksWrongFalsely : Prop := coreChecksRow.holds Try.pinned (OpenSpec.ofChange coreChecksWrong)

/-- 'usherlaw.CoreBegins': WHATEVER THE INPUT: true; the input reads as it did. -/
def coreBeginsSpec : ChangeSpec := { name := "coreBegins", fn := fun _ => fun
  | [d] => { results := [.lit (.bool true)], args := [d] }
  | _ => none }
def coreBeginsRow : OpenClaim := { program := "ytjfnnbbnkcdbcaa", sum := "5abd41278a44247f92c75a84ace53fcd47c0b8a5f34c247a75cdf5ea2996262a", func := "usher/usherlaw.CoreBegins", spec := "coreBegins", apart := false }
def CoreBeginsSaid : Prop := coreBeginsRow.holds Try.pinned (OpenSpec.ofChange coreBeginsSpec)

/-- ITS FALSE NEIGHBOUR: 'it returns false'. Refute it at one input. -/
def coreBeginsWrong : ChangeSpec := { name := "coreBegins", fn := fun _ => fun
  | [d] => { results := [.lit (.bool false)], args := [d] }
  | _ => none }
def CoreBeginsWrongFalsely : Prop := coreBeginsRow.holds Try.pinned (OpenSpec.ofChange coreBeginsWrong)

/-- 'usherlaw.PickerPicks': WHATEVER THE INPUT: true; the input reads as it did. -/
def pickerPicksSpec : ChangeSpec := { name := "pickerPicks", fn := fun _ => fun
  | [d1, d2, d3, d4, d5, d6] => { results := [.lit (.bool true)], args := [d1, d2, d3, d4, d5, d6] }
  | _ => none }
def pickerPicksRow : OpenClaim := { program := "ytjfnnbbnkcdbcaa", sum := "5abd41278a44247f92c75a84ace53fcd47c0b8a5f34c247a75cdf5ea2996262a", func := "usher/usherlaw.PickerPicks", spec := "pickerPicks", unfollowed := true, recurses := true, apart := false }
def PickerPicksSaid : Prop := pickerPicksRow.holds Try.pinned (OpenSpec.ofChange pickerPicksSpec)

/-- ITS FALSE NEIGHBOUR: 'it returns false'. Refute it at one input. -/
def pickerPicksWrong : ChangeSpec := { name := "pickerPicks", fn := fun _ => fun
  | [d1, d2, d3, d4, d5, d6] => { results := [.lit (.bool false)], args := [d1, d2, d3, d4, d5, d6] }
  | _ => none }
def PickerPicksWrongFalsely : Prop := pickerPicksRow.holds Try.pinned (OpenSpec.ofChange pickerPicksWrong)

/- THE SECOND FORM. 'bulk': how many values and letters a reading holds, each counted each time it is reached (what is shared counts as often as it is met; a slice's spare places count too). A statement '..UptoSaid' is the law's where the arguments, and the package variables that the reading takes, are together of bulk at most 1048576: NARROWER than '..Said'. Prove '..Said' where nothing that the law and all that it calls make is longer than what came in: it says more and counts as full. Else prove '..UptoSaid'. A law counts once. -/
mutual
def uptoBulk {H : Type} : DataW H → Nat
  | .lit (.string bytes) => bytes.length + 1
  | .lit _ => 1
  | .nil => 1
  | .ptr d => uptoBulk d + 1
  | .slice elems spare => uptoBulkAll elems + uptoBulkAll spare + 1
  | .agg parts => uptoBulkAll parts + 1
  | .iface _ d => uptoBulk d + 1
  | .map entries => uptoBulkEntries entries + 1
  | .held _ => 1
def uptoBulkAll {H : Type} : List (DataW H) → Nat
  | [] => 0
  | d :: r => uptoBulk d + uptoBulkAll r
def uptoBulkEntries {H : Type} : List (Lit × DataW H) → Nat
  | [] => 0
  | x :: r => uptoBulkEntry x + uptoBulkEntries r
def uptoBulkEntry {H : Type} : Lit × DataW H → Nat
  | (.string bytes, d) => bytes.length + uptoBulk d + 1
  | (_, d) => uptoBulk d + 1
 end
def uptoSmall : (H : Type) → List (DataW H) → Bool := fun _ ds => decide (uptoBulkAll ds ≤ 1048576)
def OpenSpec.upto (s : _root_.Go.ChangeSpec) : _root_.Go.OpenSpec := { _root_.Go.OpenSpec.ofChange s with cond := some uptoSmall }

/-- 'usherlaw.WireChecks', WHERE WHAT IT READS IS OF BULK AT MOST 1048576: true; the input reads as it did. -/
def wireChecksUptoRow : OpenClaim := { program := "ytjfnnbbnkcdbcaa", sum := "5abd41278a44247f92c75a84ace53fcd47c0b8a5f34c247a75cdf5ea2996262a", func := "usher/usherlaw.WireChecks", spec := "wireChecks", apart := false, narrowed := true }
def WireChecksUptoSaid : Prop := wireChecksUptoRow.holds Try.pinned (OpenSpec.upto wireChecksSpec)

/-- 'usherlaw.WireEncodes', WHERE WHAT IT READS IS OF BULK AT MOST 1048576: true; the input reads as it did. -/
def wireEncodesUptoRow : OpenClaim := { program := "ytjfnnbbnkcdbcaa", sum := "5abd41278a44247f92c75a84ace53fcd47c0b8a5f34c247a75cdf5ea2996262a", func := "usher/usherlaw.WireEncodes", spec := "wireEncodes", recurses := true, apart := false, narrowed := true }
def WireEncodesUptoSaid : Prop := wireEncodesUptoRow.holds Try.pinned (OpenSpec.upto wireEncodesSpec)

/-- 'usherlaw.WireDecodes', WHERE WHAT IT READS IS OF BULK AT MOST 1048576: true; the input reads as it did. -/
def wireDecodesUptoRow : OpenClaim := { program := "ytjfnnbbnkcdbcaa", sum := "5abd41278a44247f92c75a84ace53fcd47c0b8a5f34c247a75cdf5ea2996262a", func := "usher/usherlaw.WireDecodes", spec := "wireDecodes", apart := false, narrowed := true }
def WireDecodesUptoSaid : Prop := wireDecodesUptoRow.holds Try.pinned (OpenSpec.upto wireDecodesSpec)

/-- 'usherlaw.CoreChecks', WHERE WHAT IT READS IS OF BULK AT MOST 1048576: true; the input reads as it did. -/
def coreChecksUptoRow : OpenClaim := { program := "ytjfnnbbnkcdbcaa", sum := "5abd41278a44247f92c75a84ace53fcd47c0b8a5f34c247a75cdf5ea2996262a", func := "usher/usherlaw.CoreChecks", spec := "coreChecks", apart := false, narrowed := true }
def CoreChecksUptoSaid : Prop := coreChecksUptoRow.holds Try.pinned (OpenSpec.upto coreChecksSpec)

/-- 'usherlaw.CoreBegins', WHERE WHAT IT READS IS OF BULK AT MOST 1048576: true; the input reads as it did. -/
def coreBeginsUptoRow : OpenClaim := { program := "ytjfnnbbnkcdbcaa", sum := "5abd41278a44247f92c75a84ace53fcd47c0b8a5f34c247a75cdf5ea2996262a", func := "usher/usherlaw.CoreBegins", spec := "coreBegins", apart := false, narrowed := true }
def CoreBeginsUptoSaid : Prop := coreBeginsUptoRow.holds Try.pinned (OpenSpec.upto coreBeginsSpec)

/-- 'usherlaw.PickerPicks', WHERE WHAT IT READS IS OF BULK AT MOST 1048576: true; the input reads as it did. -/
def pickerPicksUptoRow : OpenClaim := { program := "ytjfnnbbnkcdbcaa", sum := "5abd41278a44247f92c75a84ace53fcd47c0b8a5f34c247a75cdf5ea2996262a", func := "usher/usherlaw.PickerPicks", spec := "pickerPicks", unfollowed := true, recurses := true, apart := false, narrowed := true }
def PickerPicksUptoSaid : Prop := pickerPicksUptoRow.holds Try.pinned (OpenSpec.upto pickerPicksSpec)

end Rows
end Go.Proofs.Ytjfnnbbnkcdbcaa
