/-
  No cell of these rows narrows 'for every input' (looked for: loops, veiled, ifaces, maps, wideKeys, modest, calm, conditions, laid).
  DERIVED. THE GIVEN ROWS OF THIS SEAT. 5 by the template 'for every input the law returns true; each argument reads behind the call as it read before'; 0 by the template 'total and deterministic' (their statements: YtfliffgmeobclaaGreatTotals.lean).
  GIVEN WITH THE SEED: the statements are not yours to turn. If you find one false, say at which input.
  Laid BY PROGRAM, IN A SANDBOX (cutbox-rows.mjs): the forced cells as the released guide's own fill.sh prints them over the translation c5adee048542150f… (all of the seat's roots in one cut). By AI agents, Wed Nov 11 2026. No macro, syntax, notation, axiom, sorry.
-/
import Derived.Test.YtfliffgmeobclaaGreatChecked
import GoSem.Claim
import GoSem.ClaimJoined
import GoSem.ClaimMapViews
import Derived.JoinedTies
import Derived.KernelRfl
namespace Go.Proofs.YtfliffgmeobclaaGreat
/- THE CELL 'sum', in the pinned program and in every row, IS THE sha256 OF THE DUMP (.gsa) THAT YtfliffgmeobclaaGreatProg.lean LOADS. Nothing in Lean hashes anything: it is a label: what it is worth is what the hold of that sum in a sandbox is worth. -/
noncomputable def Tryz.pinned : Pinned := { name := "ytfliffgmeobclaagreat", sum := "c5adee048542150f2f663ad0911196eb6ba6307aafd17fcbe7692d01d57166d3", checked := Tryz.checked }
namespace Rows
def none {H : Type} : Left H := { results := [], args := [] }

/-- 'ushertop.TopRetries': WHATEVER THE INPUT: true; the input reads as it did. -/
def topRetriesSpec : ChangeSpec := { name := "topRetries", fn := fun _ => fun
  | [d1, d2] => { results := [.lit (.bool true)], args := [d1, d2] }
  | _ => none }
def topRetriesRow : OpenClaim := { program := "ytfliffgmeobclaagreat", sum := "c5adee048542150f2f663ad0911196eb6ba6307aafd17fcbe7692d01d57166d3", func := "usher/ushertop.TopRetries", spec := "topRetries", inPlace := ["slices.overlaps[usher/api.Timer]", "slices.overlaps[usher/api.Flow]", "slices.overlaps[usher/api.Life]"], unfollowed := true, recurses := true, apart := false }
def TopRetriesSaid : Prop := topRetriesRow.holds Tryz.pinned (OpenSpec.ofChange topRetriesSpec)

/-- ITS FALSE NEIGHBOUR: 'it returns false'. Refute it at one input. -/
def topRetriesWrong : ChangeSpec := { name := "topRetries", fn := fun _ => fun
  | [d1, d2] => { results := [.lit (.bool false)], args := [d1, d2] }
  | _ => none }
def TopRetriesWrongFalsely : Prop := topRetriesRow.holds Tryz.pinned (OpenSpec.ofChange topRetriesWrong)

/-- 'ushertop.TopClosed': WHATEVER THE INPUT: true; the input reads as it did. -/
def topClosedSpec : ChangeSpec := { name := "topClosed", fn := fun _ => fun
  | [d1, d2] => { results := [.lit (.bool true)], args := [d1, d2] }
  | _ => none }
def topClosedRow : OpenClaim := { program := "ytfliffgmeobclaagreat", sum := "c5adee048542150f2f663ad0911196eb6ba6307aafd17fcbe7692d01d57166d3", func := "usher/ushertop.TopClosed", spec := "topClosed", inPlace := ["slices.overlaps[usher/api.Timer]", "slices.overlaps[usher/api.Flow]", "slices.overlaps[usher/api.Life]"], unfollowed := true, recurses := true, apart := false }
def TopClosedSaid : Prop := topClosedRow.holds Tryz.pinned (OpenSpec.ofChange topClosedSpec)

/-- ITS FALSE NEIGHBOUR: 'it returns false'. Refute it at one input. -/
def topClosedWrong : ChangeSpec := { name := "topClosed", fn := fun _ => fun
  | [d1, d2] => { results := [.lit (.bool false)], args := [d1, d2] }
  | _ => none }
def TopClosedWrongFalsely : Prop := topClosedRow.holds Tryz.pinned (OpenSpec.ofChange topClosedWrong)

/-- 'ushertop.TopBackends': WHATEVER THE INPUT: true; the input reads as it did. -/
def topBackendsSpec : ChangeSpec := { name := "topBackends", fn := fun _ => fun
  | [d1, d2] => { results := [.lit (.bool true)], args := [d1, d2] }
  | _ => none }
def topBackendsRow : OpenClaim := { program := "ytfliffgmeobclaagreat", sum := "c5adee048542150f2f663ad0911196eb6ba6307aafd17fcbe7692d01d57166d3", func := "usher/ushertop.TopBackends", spec := "topBackends", inPlace := ["slices.overlaps[usher/api.Timer]", "slices.overlaps[usher/api.Flow]", "slices.overlaps[usher/api.Life]"], unfollowed := true, recurses := true, apart := false }
def TopBackendsSaid : Prop := topBackendsRow.holds Tryz.pinned (OpenSpec.ofChange topBackendsSpec)

/-- ITS FALSE NEIGHBOUR: 'it returns false'. Refute it at one input. -/
def topBackendsWrong : ChangeSpec := { name := "topBackends", fn := fun _ => fun
  | [d1, d2] => { results := [.lit (.bool false)], args := [d1, d2] }
  | _ => none }
def TopBackendsWrongFalsely : Prop := topBackendsRow.holds Tryz.pinned (OpenSpec.ofChange topBackendsWrong)

/-- 'ushertop.TopGone': WHATEVER THE INPUT: true; the input reads as it did. -/
def topGoneSpec : ChangeSpec := { name := "topGone", fn := fun _ => fun
  | [d1, d2] => { results := [.lit (.bool true)], args := [d1, d2] }
  | _ => none }
def topGoneRow : OpenClaim := { program := "ytfliffgmeobclaagreat", sum := "c5adee048542150f2f663ad0911196eb6ba6307aafd17fcbe7692d01d57166d3", func := "usher/ushertop.TopGone", spec := "topGone", inPlace := ["slices.overlaps[usher/api.Timer]", "slices.overlaps[usher/api.Flow]", "slices.overlaps[usher/api.Life]"], unfollowed := true, recurses := true, apart := false }
def TopGoneSaid : Prop := topGoneRow.holds Tryz.pinned (OpenSpec.ofChange topGoneSpec)

/-- ITS FALSE NEIGHBOUR: 'it returns false'. Refute it at one input. -/
def topGoneWrong : ChangeSpec := { name := "topGone", fn := fun _ => fun
  | [d1, d2] => { results := [.lit (.bool false)], args := [d1, d2] }
  | _ => none }
def TopGoneWrongFalsely : Prop := topGoneRow.holds Tryz.pinned (OpenSpec.ofChange topGoneWrong)

/-- 'ushertop.TopDrain': WHATEVER THE INPUT: true; the input reads as it did. -/
def topDrainSpec : ChangeSpec := { name := "topDrain", fn := fun _ => fun
  | [d1, d2, d3, d4] => { results := [.lit (.bool true)], args := [d1, d2, d3, d4] }
  | _ => none }
def topDrainRow : OpenClaim := { program := "ytfliffgmeobclaagreat", sum := "c5adee048542150f2f663ad0911196eb6ba6307aafd17fcbe7692d01d57166d3", func := "usher/ushertop.TopDrain", spec := "topDrain", inPlace := ["slices.overlaps[usher/api.Timer]", "slices.overlaps[usher/api.Flow]", "slices.overlaps[usher/api.Life]"], unfollowed := true, recurses := true, apart := false }
def TopDrainSaid : Prop := topDrainRow.holds Tryz.pinned (OpenSpec.ofChange topDrainSpec)

/-- ITS FALSE NEIGHBOUR: 'it returns false'. Refute it at one input. -/
def topDrainWrong : ChangeSpec := { name := "topDrain", fn := fun _ => fun
  | [d1, d2, d3, d4] => { results := [.lit (.bool false)], args := [d1, d2, d3, d4] }
  | _ => none }
def TopDrainWrongFalsely : Prop := topDrainRow.holds Tryz.pinned (OpenSpec.ofChange topDrainWrong)

/- THE SECOND FORM. 'bulk': how many values and letters a reading holds, each counted each time it is reached (what is shared counts as often as it is met; a slice's spare places count too). A statement '..UptoSaid' is the law's where the arguments, and the package variables that the reading takes, are together of bulk at most 1048576: NARROWER than '..Said'. Prove '..Said' where nothing that the law and all that it calls make is longer than what came in: it says more and counts as full. Else prove '..UptoSaid'. A law counts once. -/
mutual
def uptoBulk {H : Type} : DataW H → Nat
  | .lit (.string bytes) => bytes.length + 1
  | .lit _ => 1
  | .nil => 1
  | .ptr d => uptoBulk d + 1
  | .slice elems spare => uptoBulkAll elems + uptoBulkAll spare + 1
  | .agg parts => uptoBulkAll parts + 1
  | .iface _ d => uptoBulk d + 1
  | .map entries => uptoBulkEntries entries + 1
  | .held _ => 1
def uptoBulkAll {H : Type} : List (DataW H) → Nat
  | [] => 0
  | d :: r => uptoBulk d + uptoBulkAll r
def uptoBulkEntries {H : Type} : List (Lit × DataW H) → Nat
  | [] => 0
  | x :: r => uptoBulkEntry x + uptoBulkEntries r
def uptoBulkEntry {H : Type} : Lit × DataW H → Nat
  | (.string bytes, d) => bytes.length + uptoBulk d + 1
  | (_, d) => uptoBulk d + 1
 end
def uptoSmall : (H : Type) → List (DataW H) → Bool := fun _ ds => decide (uptoBulkAll ds ≤ 1048576)
def OpenSpec.upto (s : _root_.Go.ChangeSpec) : _root_.Go.OpenSpec := { _root_.Go.OpenSpec.ofChange s with cond := some uptoSmall }

/-- 'ushertop.TopRetries', WHERE WHAT IT READS IS OF BULK AT MOST 1048576: true; the input reads as it did. -/
def topRetriesUptoRow : OpenClaim := { program := "ytfliffgmeobclaagreat", sum := "c5adee048542150f2f663ad0911196eb6ba6307aafd17fcbe7692d01d57166d3", func := "usher/ushertop.TopRetries", spec := "topRetries", inPlace := ["slices.overlaps[usher/api.Timer]", "slices.overlaps[usher/api.Flow]", "slices.overlaps[usher/api.Life]"], unfollowed := true, recurses := true, apart := false, narrowed := true }
def TopRetriesUptoSaid : Prop := topRetriesUptoRow.holds Tryz.pinned (OpenSpec.upto topRetriesSpec)

/-- 'ushertop.TopClosed', WHERE WHAT IT READS IS OF BULK AT MOST 1048576: true; the input reads as it did. -/
def topClosedUptoRow : OpenClaim := { program := "ytfliffgmeobclaagreat", sum := "c5adee048542150f2f663ad0911196eb6ba6307aafd17fcbe7692d01d57166d3", func := "usher/ushertop.TopClosed", spec := "topClosed", inPlace := ["slices.overlaps[usher/api.Timer]", "slices.overlaps[usher/api.Flow]", "slices.overlaps[usher/api.Life]"], unfollowed := true, recurses := true, apart := false, narrowed := true }
def TopClosedUptoSaid : Prop := topClosedUptoRow.holds Tryz.pinned (OpenSpec.upto topClosedSpec)

/-- 'ushertop.TopBackends', WHERE WHAT IT READS IS OF BULK AT MOST 1048576: true; the input reads as it did. -/
def topBackendsUptoRow : OpenClaim := { program := "ytfliffgmeobclaagreat", sum := "c5adee048542150f2f663ad0911196eb6ba6307aafd17fcbe7692d01d57166d3", func := "usher/ushertop.TopBackends", spec := "topBackends", inPlace := ["slices.overlaps[usher/api.Timer]", "slices.overlaps[usher/api.Flow]", "slices.overlaps[usher/api.Life]"], unfollowed := true, recurses := true, apart := false, narrowed := true }
def TopBackendsUptoSaid : Prop := topBackendsUptoRow.holds Tryz.pinned (OpenSpec.upto topBackendsSpec)

/-- 'ushertop.TopGone', WHERE WHAT IT READS IS OF BULK AT MOST 1048576: true; the input reads as it did. -/
def topGoneUptoRow : OpenClaim := { program := "ytfliffgmeobclaagreat", sum := "c5adee048542150f2f663ad0911196eb6ba6307aafd17fcbe7692d01d57166d3", func := "usher/ushertop.TopGone", spec := "topGone", inPlace := ["slices.overlaps[usher/api.Timer]", "slices.overlaps[usher/api.Flow]", "slices.overlaps[usher/api.Life]"], unfollowed := true, recurses := true, apart := false, narrowed := true }
def TopGoneUptoSaid : Prop := topGoneUptoRow.holds Tryz.pinned (OpenSpec.upto topGoneSpec)

/-- 'ushertop.TopDrain', WHERE WHAT IT READS IS OF BULK AT MOST 1048576: true; the input reads as it did. -/
def topDrainUptoRow : OpenClaim := { program := "ytfliffgmeobclaagreat", sum := "c5adee048542150f2f663ad0911196eb6ba6307aafd17fcbe7692d01d57166d3", func := "usher/ushertop.TopDrain", spec := "topDrain", inPlace := ["slices.overlaps[usher/api.Timer]", "slices.overlaps[usher/api.Flow]", "slices.overlaps[usher/api.Life]"], unfollowed := true, recurses := true, apart := false, narrowed := true }
def TopDrainUptoSaid : Prop := topDrainUptoRow.holds Tryz.pinned (OpenSpec.upto topDrainSpec)

end Rows
end Go.Proofs.YtfliffgmeobclaaGreat
