/-
  No cell of these rows narrows 'for every input' (looked for: loops, veiled, ifaces, maps, wideKeys, modest, calm, conditions, laid).
  DERIVED. THE GIVEN ROWS OF THIS SEAT. 17 by the template 'for every input the law returns true; each argument reads behind the call as it read before'; 0 by the template 'total and deterministic' (their statements: YtehodcjnbkkkeaaTotals.lean).
  GIVEN WITH THE SEED: the statements are not yours to turn. If you find one false, say at which input.
  Laid BY PROGRAM, IN A SANDBOX (cutbox-rows.mjs): the forced cells as the released guide's own fill.sh prints them over the translation 7106cfce23bc2b2a… (all of the seat's roots in one cut). By AI agents, Wed Nov 11 2026. No macro, syntax, notation, axiom, sorry.
-/
import Derived.Test.YtehodcjnbkkkeaaChecked
import GoSem.Claim
import GoSem.ClaimJoined
import GoSem.ClaimMapViews
import Derived.JoinedTies
import Derived.KernelRfl
namespace Go.Proofs.Ytehodcjnbkkkeaa
/- THE CELL 'sum', in the pinned program and in every row, IS THE sha256 OF THE DUMP (.gsa) THAT YtehodcjnbkkkeaaProg.lean LOADS. Nothing in Lean hashes anything: it is a label: what it is worth is what the hold of that sum in a sandbox is worth. -/
noncomputable def Try.pinned : Pinned := { name := "ytehodcjnbkkkeaa", sum := "7106cfce23bc2b2acc72648090f1fcc1e4756e0bb27dd23b0ba46a1ac5abdbc3", checked := Try.checked }
namespace Rows
def none {H : Type} : Left H := { results := [], args := [] }

/-- 'usherlaw.Names': WHATEVER THE INPUT: true; the input reads as it did. -/
def namesSpec : ChangeSpec := { name := "names", fn := fun _ => fun
  | [] => { results := [.lit (.bool true)], args := [] }
  | _ => none }
def namesRow : OpenClaim := { program := "ytehodcjnbkkkeaa", sum := "7106cfce23bc2b2acc72648090f1fcc1e4756e0bb27dd23b0ba46a1ac5abdbc3", func := "usher/usherlaw.Names", spec := "names", apart := false }
def NamesSaid : Prop := namesRow.holds Try.pinned (OpenSpec.ofChange namesSpec)

/-- ITS FALSE NEIGHBOUR: 'it returns false'. Refute it at one input. -/
def namesWrong : ChangeSpec := { name := "names", fn := fun _ => fun
  | [] => { results := [.lit (.bool false)], args := [] }
  | _ => none }
def NamesWrongFalsely : Prop := namesRow.holds Try.pinned (OpenSpec.ofChange namesWrong)

/-- 'usherlaw.WheelNews': WHATEVER THE INPUT: true; the input reads as it did. -/
def wheelNewsSpec : ChangeSpec := { name := "wheelNews", fn := fun _ => fun
  | [d] => { results := [.lit (.bool true)], args := [d] }
  | _ => none }
def wheelNewsRow : OpenClaim := { program := "ytehodcjnbkkkeaa", sum := "7106cfce23bc2b2acc72648090f1fcc1e4756e0bb27dd23b0ba46a1ac5abdbc3", func := "usher/usherlaw.WheelNews", spec := "wheelNews", apart := false }
def WheelNewsSaid : Prop := wheelNewsRow.holds Try.pinned (OpenSpec.ofChange wheelNewsSpec)

/-- ITS FALSE NEIGHBOUR: 'it returns false'. Refute it at one input. -/
def wheelNewsWrong : ChangeSpec := { name := "wheelNews", fn := fun _ => fun
  | [d] => { results := [.lit (.bool false)], args := [d] }
  | _ => none }
def WheelNewsWrongFalsely : Prop := wheelNewsRow.holds Try.pinned (OpenSpec.ofChange wheelNewsWrong)

/-- 'usherlaw.TableMakes': WHATEVER THE INPUT: true; the input reads as it did. -/
def tableMakesSpec : ChangeSpec := { name := "tableMakes", fn := fun _ => fun
  | [d] => { results := [.lit (.bool true)], args := [d] }
  | _ => none }
def tableMakesRow : OpenClaim := { program := "ytehodcjnbkkkeaa", sum := "7106cfce23bc2b2acc72648090f1fcc1e4756e0bb27dd23b0ba46a1ac5abdbc3", func := "usher/usherlaw.TableMakes", spec := "tableMakes", apart := false }
def TableMakesSaid : Prop := tableMakesRow.holds Try.pinned (OpenSpec.ofChange tableMakesSpec)

/-- ITS FALSE NEIGHBOUR: 'it returns false'. Refute it at one input. -/
def tableMakesWrong : ChangeSpec := { name := "tableMakes", fn := fun _ => fun
  | [d] => { results := [.lit (.bool false)], args := [d] }
  | _ => none }
def TableMakesWrongFalsely : Prop := tableMakesRow.holds Try.pinned (OpenSpec.ofChange tableMakesWrong)

/-- 'usherlaw.RampFulls': WHATEVER THE INPUT: true; the input reads as it did. -/
def rampFullsSpec : ChangeSpec := { name := "rampFulls", fn := fun _ => fun
  | [d1, d2] => { results := [.lit (.bool true)], args := [d1, d2] }
  | _ => none }
def rampFullsRow : OpenClaim := { program := "ytehodcjnbkkkeaa", sum := "7106cfce23bc2b2acc72648090f1fcc1e4756e0bb27dd23b0ba46a1ac5abdbc3", func := "usher/usherlaw.RampFulls", spec := "rampFulls", apart := false }
def RampFullsSaid : Prop := rampFullsRow.holds Try.pinned (OpenSpec.ofChange rampFullsSpec)

/-- ITS FALSE NEIGHBOUR: 'it returns false'. Refute it at one input. -/
def rampFullsWrong : ChangeSpec := { name := "rampFulls", fn := fun _ => fun
  | [d1, d2] => { results := [.lit (.bool false)], args := [d1, d2] }
  | _ => none }
def RampFullsWrongFalsely : Prop := rampFullsRow.holds Try.pinned (OpenSpec.ofChange rampFullsWrong)

/-- 'usherlaw.BucketChecks': WHATEVER THE INPUT: true; the input reads as it did. -/
def bucketChecksSpec : ChangeSpec := { name := "bucketChecks", fn := fun _ => fun
  | [d] => { results := [.lit (.bool true)], args := [d] }
  | _ => none }
def bucketChecksRow : OpenClaim := { program := "ytehodcjnbkkkeaa", sum := "7106cfce23bc2b2acc72648090f1fcc1e4756e0bb27dd23b0ba46a1ac5abdbc3", func := "usher/usherlaw.BucketChecks", spec := "bucketChecks", apart := false }
def BucketChecksSaid : Prop := bucketChecksRow.holds Try.pinned (OpenSpec.ofChange bucketChecksSpec)

/-- ITS FALSE NEIGHBOUR: 'it returns false'. Refute it at one input. -/
def bucketChecksWrong : ChangeSpec := { name := "bucketChecks", fn := fun _ => fun
  | [d] => { results := [.lit (.bool false)], args := [d] }
  | _ => none }
def BucketChecksWrongFalsely : Prop := bucketChecksRow.holds Try.pinned (OpenSpec.ofChange bucketChecksWrong)

/-- 'usherlaw.HealthChecks': WHATEVER THE INPUT: true; the input reads as it did. -/
def healthChecksSpec : ChangeSpec := { name := "healthChecks", fn := fun _ => fun
  | [d] => { results := [.lit (.bool true)], args := [d] }
  | _ => none }
def healthChecksRow : OpenClaim := { program := "ytehodcjnbkkkeaa", sum := "7106cfce23bc2b2acc72648090f1fcc1e4756e0bb27dd23b0ba46a1ac5abdbc3", func := "usher/usherlaw.HealthChecks", spec := "healthChecks", apart := false }
def HealthChecksSaid : Prop := healthChecksRow.holds Try.pinned (OpenSpec.ofChange healthChecksSpec)

/-- ITS FALSE NEIGHBOUR: 'it returns false'. Refute it at one input. -/
def healthChecksWrong : ChangeSpec := { name := "healthChecks", fn := fun _ => fun
  | [d] => { results := [.lit (.bool false)], args := [d] }
  | _ => none }
def HealthChecksWrongFalsely : Prop := healthChecksRow.holds Try.pinned (OpenSpec.ofChange healthChecksWrong)

/-- 'usherlaw.HealthAlloweds': WHATEVER THE INPUT: true; the input reads as it did. -/
def healthAllowedsSpec : ChangeSpec := { name := "healthAlloweds", fn := fun _ => fun
  | [d1, d2, d3] => { results := [.lit (.bool true)], args := [d1, d2, d3] }
  | _ => none }
def healthAllowedsRow : OpenClaim := { program := "ytehodcjnbkkkeaa", sum := "7106cfce23bc2b2acc72648090f1fcc1e4756e0bb27dd23b0ba46a1ac5abdbc3", func := "usher/usherlaw.HealthAlloweds", spec := "healthAlloweds", apart := false }
def HealthAllowedsSaid : Prop := healthAllowedsRow.holds Try.pinned (OpenSpec.ofChange healthAllowedsSpec)

/-- ITS FALSE NEIGHBOUR: 'it returns false'. Refute it at one input. -/
def healthAllowedsWrong : ChangeSpec := { name := "healthAlloweds", fn := fun _ => fun
  | [d1, d2, d3] => { results := [.lit (.bool false)], args := [d1, d2, d3] }
  | _ => none }
def HealthAllowedsWrongFalsely : Prop := healthAllowedsRow.holds Try.pinned (OpenSpec.ofChange healthAllowedsWrong)

/-- 'usherlaw.BoundCap': WHATEVER THE INPUT: true; the input reads as it did. -/
def boundCapSpec : ChangeSpec := { name := "boundCap", fn := fun _ => fun
  | [d1, d2, d3, d4, d5] => { results := [.lit (.bool true)], args := [d1, d2, d3, d4, d5] }
  | _ => none }
def boundCapRow : OpenClaim := { program := "ytehodcjnbkkkeaa", sum := "7106cfce23bc2b2acc72648090f1fcc1e4756e0bb27dd23b0ba46a1ac5abdbc3", func := "usher/usherlaw.BoundCap", spec := "boundCap", apart := false }
def BoundCapSaid : Prop := boundCapRow.holds Try.pinned (OpenSpec.ofChange boundCapSpec)

/-- ITS FALSE NEIGHBOUR: 'it returns false'. Refute it at one input. -/
def boundCapWrong : ChangeSpec := { name := "boundCap", fn := fun _ => fun
  | [d1, d2, d3, d4, d5] => { results := [.lit (.bool false)], args := [d1, d2, d3, d4, d5] }
  | _ => none }
def BoundCapWrongFalsely : Prop := boundCapRow.holds Try.pinned (OpenSpec.ofChange boundCapWrong)

/-- 'usherlaw.RampWeights': WHATEVER THE INPUT: true; the input reads as it did. -/
def rampWeightsSpec : ChangeSpec := { name := "rampWeights", fn := fun _ => fun
  | [d1, d2, d3, d4] => { results := [.lit (.bool true)], args := [d1, d2, d3, d4] }
  | _ => none }
def rampWeightsRow : OpenClaim := { program := "ytehodcjnbkkkeaa", sum := "7106cfce23bc2b2acc72648090f1fcc1e4756e0bb27dd23b0ba46a1ac5abdbc3", func := "usher/usherlaw.RampWeights", spec := "rampWeights", apart := false }
def RampWeightsSaid : Prop := rampWeightsRow.holds Try.pinned (OpenSpec.ofChange rampWeightsSpec)

/-- ITS FALSE NEIGHBOUR: 'it returns false'. Refute it at one input. -/
def rampWeightsWrong : ChangeSpec := { name := "rampWeights", fn := fun _ => fun
  | [d1, d2, d3, d4] => { results := [.lit (.bool false)], args := [d1, d2, d3, d4] }
  | _ => none }
def RampWeightsWrongFalsely : Prop := rampWeightsRow.holds Try.pinned (OpenSpec.ofChange rampWeightsWrong)

/-- 'usherlaw.HashKeys': WHATEVER THE INPUT: true; the input reads as it did. -/
def hashKeysSpec : ChangeSpec := { name := "hashKeys", fn := fun _ => fun
  | [d] => { results := [.lit (.bool true)], args := [d] }
  | _ => none }
def hashKeysRow : OpenClaim := { program := "ytehodcjnbkkkeaa", sum := "7106cfce23bc2b2acc72648090f1fcc1e4756e0bb27dd23b0ba46a1ac5abdbc3", func := "usher/usherlaw.HashKeys", spec := "hashKeys", apart := false }
def HashKeysSaid : Prop := hashKeysRow.holds Try.pinned (OpenSpec.ofChange hashKeysSpec)

/-- ITS FALSE NEIGHBOUR: 'it returns false'. Refute it at one input. -/
def hashKeysWrong : ChangeSpec := { name := "hashKeys", fn := fun _ => fun
  | [d] => { results := [.lit (.bool false)], args := [d] }
  | _ => none }
def HashKeysWrongFalsely : Prop := hashKeysRow.holds Try.pinned (OpenSpec.ofChange hashKeysWrong)

/-- 'usherlaw.HashSpots': WHATEVER THE INPUT: true; the input reads as it did. -/
def hashSpotsSpec : ChangeSpec := { name := "hashSpots", fn := fun _ => fun
  | [d1, d2] => { results := [.lit (.bool true)], args := [d1, d2] }
  | _ => none }
def hashSpotsRow : OpenClaim := { program := "ytehodcjnbkkkeaa", sum := "7106cfce23bc2b2acc72648090f1fcc1e4756e0bb27dd23b0ba46a1ac5abdbc3", func := "usher/usherlaw.HashSpots", spec := "hashSpots", apart := false }
def HashSpotsSaid : Prop := hashSpotsRow.holds Try.pinned (OpenSpec.ofChange hashSpotsSpec)

/-- ITS FALSE NEIGHBOUR: 'it returns false'. Refute it at one input. -/
def hashSpotsWrong : ChangeSpec := { name := "hashSpots", fn := fun _ => fun
  | [d1, d2] => { results := [.lit (.bool false)], args := [d1, d2] }
  | _ => none }
def HashSpotsWrongFalsely : Prop := hashSpotsRow.holds Try.pinned (OpenSpec.ofChange hashSpotsWrong)

/-- 'usherlaw.BucketFills': WHATEVER THE INPUT: true; the input reads as it did. -/
def bucketFillsSpec : ChangeSpec := { name := "bucketFills", fn := fun _ => fun
  | [d] => { results := [.lit (.bool true)], args := [d] }
  | _ => none }
def bucketFillsRow : OpenClaim := { program := "ytehodcjnbkkkeaa", sum := "7106cfce23bc2b2acc72648090f1fcc1e4756e0bb27dd23b0ba46a1ac5abdbc3", func := "usher/usherlaw.BucketFills", spec := "bucketFills", apart := false }
def BucketFillsSaid : Prop := bucketFillsRow.holds Try.pinned (OpenSpec.ofChange bucketFillsSpec)

/-- ITS FALSE NEIGHBOUR: 'it returns false'. Refute it at one input. -/
def bucketFillsWrong : ChangeSpec := { name := "bucketFills", fn := fun _ => fun
  | [d] => { results := [.lit (.bool false)], args := [d] }
  | _ => none }
def BucketFillsWrongFalsely : Prop := bucketFillsRow.holds Try.pinned (OpenSpec.ofChange bucketFillsWrong)

/-- 'usherlaw.TallyOfs': WHATEVER THE INPUT: true; the input reads as it did. -/
def tallyOfsSpec : ChangeSpec := { name := "tallyOfs", fn := fun _ => fun
  | [d] => { results := [.lit (.bool true)], args := [d] }
  | _ => none }
def tallyOfsRow : OpenClaim := { program := "ytehodcjnbkkkeaa", sum := "7106cfce23bc2b2acc72648090f1fcc1e4756e0bb27dd23b0ba46a1ac5abdbc3", func := "usher/usherlaw.TallyOfs", spec := "tallyOfs", apart := false }
def TallyOfsSaid : Prop := tallyOfsRow.holds Try.pinned (OpenSpec.ofChange tallyOfsSpec)

/-- ITS FALSE NEIGHBOUR: 'it returns false'. Refute it at one input. -/
def tallyOfsWrong : ChangeSpec := { name := "tallyOfs", fn := fun _ => fun
  | [d] => { results := [.lit (.bool false)], args := [d] }
  | _ => none }
def TallyOfsWrongFalsely : Prop := tallyOfsRow.holds Try.pinned (OpenSpec.ofChange tallyOfsWrong)

/-- 'usherlaw.BucketEarns': WHATEVER THE INPUT: true; the input reads as it did. -/
def bucketEarnsSpec : ChangeSpec := { name := "bucketEarns", fn := fun _ => fun
  | [d1, d2] => { results := [.lit (.bool true)], args := [d1, d2] }
  | _ => none }
def bucketEarnsRow : OpenClaim := { program := "ytehodcjnbkkkeaa", sum := "7106cfce23bc2b2acc72648090f1fcc1e4756e0bb27dd23b0ba46a1ac5abdbc3", func := "usher/usherlaw.BucketEarns", spec := "bucketEarns", apart := false }
def BucketEarnsSaid : Prop := bucketEarnsRow.holds Try.pinned (OpenSpec.ofChange bucketEarnsSpec)

/-- ITS FALSE NEIGHBOUR: 'it returns false'. Refute it at one input. -/
def bucketEarnsWrong : ChangeSpec := { name := "bucketEarns", fn := fun _ => fun
  | [d1, d2] => { results := [.lit (.bool false)], args := [d1, d2] }
  | _ => none }
def BucketEarnsWrongFalsely : Prop := bucketEarnsRow.holds Try.pinned (OpenSpec.ofChange bucketEarnsWrong)

/-- 'usherlaw.BucketSpends': WHATEVER THE INPUT: true; the input reads as it did. -/
def bucketSpendsSpec : ChangeSpec := { name := "bucketSpends", fn := fun _ => fun
  | [d1, d2] => { results := [.lit (.bool true)], args := [d1, d2] }
  | _ => none }
def bucketSpendsRow : OpenClaim := { program := "ytehodcjnbkkkeaa", sum := "7106cfce23bc2b2acc72648090f1fcc1e4756e0bb27dd23b0ba46a1ac5abdbc3", func := "usher/usherlaw.BucketSpends", spec := "bucketSpends", apart := false }
def BucketSpendsSaid : Prop := bucketSpendsRow.holds Try.pinned (OpenSpec.ofChange bucketSpendsSpec)

/-- ITS FALSE NEIGHBOUR: 'it returns false'. Refute it at one input. -/
def bucketSpendsWrong : ChangeSpec := { name := "bucketSpends", fn := fun _ => fun
  | [d1, d2] => { results := [.lit (.bool false)], args := [d1, d2] }
  | _ => none }
def BucketSpendsWrongFalsely : Prop := bucketSpendsRow.holds Try.pinned (OpenSpec.ofChange bucketSpendsWrong)

/-- 'usherlaw.TableChecks': WHATEVER THE INPUT: true; the input reads as it did. -/
def tableChecksSpec : ChangeSpec := { name := "tableChecks", fn := fun _ => fun
  | [d] => { results := [.lit (.bool true)], args := [d] }
  | _ => none }
def tableChecksRow : OpenClaim := { program := "ytehodcjnbkkkeaa", sum := "7106cfce23bc2b2acc72648090f1fcc1e4756e0bb27dd23b0ba46a1ac5abdbc3", func := "usher/usherlaw.TableChecks", spec := "tableChecks", unfollowed := true, recurses := true, apart := false }
def TableChecksSaid : Prop := tableChecksRow.holds Try.pinned (OpenSpec.ofChange tableChecksSpec)

/-- ITS FALSE NEIGHBOUR: 'it returns false'. Refute it at one input. -/
def tableChecksWrong : ChangeSpec := { name := "tableChecks", fn := fun _ => fun
  | [d] => { results := [.lit (.bool false)], args := [d] }
  | _ => none }
def TableChecksWrongFalsely : Prop := tableChecksRow.holds Try.pinned (OpenSpec.ofChange tableChecksWrong)

/-- 'usherlaw.TallyLives': WHATEVER THE INPUT: true; the input reads as it did. -/
def tallyLivesSpec : ChangeSpec := { name := "tallyLives", fn := fun _ => fun
  | [d] => { results := [.lit (.bool true)], args := [d] }
  | _ => none }
def tallyLivesRow : OpenClaim := { program := "ytehodcjnbkkkeaa", sum := "7106cfce23bc2b2acc72648090f1fcc1e4756e0bb27dd23b0ba46a1ac5abdbc3", func := "usher/usherlaw.TallyLives", spec := "tallyLives", apart := false }
def TallyLivesSaid : Prop := tallyLivesRow.holds Try.pinned (OpenSpec.ofChange tallyLivesSpec)

/-- ITS FALSE NEIGHBOUR: 'it returns false'. Refute it at one input. -/
def tallyLivesWrong : ChangeSpec := { name := "tallyLives", fn := fun _ => fun
  | [d] => { results := [.lit (.bool false)], args := [d] }
  | _ => none }
def TallyLivesWrongFalsely : Prop := tallyLivesRow.holds Try.pinned (OpenSpec.ofChange tallyLivesWrong)

/- THE SECOND FORM. 'bulk': how many values and letters a reading holds, each counted each time it is reached (what is shared counts as often as it is met; a slice's spare places count too). A statement '..UptoSaid' is the law's where the arguments, and the package variables that the reading takes, are together of bulk at most 1048576: NARROWER than '..Said'. Prove '..Said' where nothing that the law and all that it calls make is longer than what came in: it says more and counts as full. Else prove '..UptoSaid'. A law counts once. -/
mutual
def uptoBulk {H : Type} : DataW H → Nat
  | .lit (.string bytes) => bytes.length + 1
  | .lit _ => 1
  | .nil => 1
  | .ptr d => uptoBulk d + 1
  | .slice elems spare => uptoBulkAll elems + uptoBulkAll spare + 1
  | .agg parts => uptoBulkAll parts + 1
  | .iface _ d => uptoBulk d + 1
  | .map entries => uptoBulkEntries entries + 1
  | .held _ => 1
def uptoBulkAll {H : Type} : List (DataW H) → Nat
  | [] => 0
  | d :: r => uptoBulk d + uptoBulkAll r
def uptoBulkEntries {H : Type} : List (Lit × DataW H) → Nat
  | [] => 0
  | x :: r => uptoBulkEntry x + uptoBulkEntries r
def uptoBulkEntry {H : Type} : Lit × DataW H → Nat
  | (.string bytes, d) => bytes.length + uptoBulk d + 1
  | (_, d) => uptoBulk d + 1
 end
def uptoSmall : (H : Type) → List (DataW H) → Bool := fun _ ds => decide (uptoBulkAll ds ≤ 1048576)
def OpenSpec.upto (s : _root_.Go.ChangeSpec) : _root_.Go.OpenSpec := { _root_.Go.OpenSpec.ofChange s with cond := some uptoSmall }

/-- 'usherlaw.Names', WHERE WHAT IT READS IS OF BULK AT MOST 1048576: true; the input reads as it did. -/
def namesUptoRow : OpenClaim := { program := "ytehodcjnbkkkeaa", sum := "7106cfce23bc2b2acc72648090f1fcc1e4756e0bb27dd23b0ba46a1ac5abdbc3", func := "usher/usherlaw.Names", spec := "names", apart := false, narrowed := true }
def NamesUptoSaid : Prop := namesUptoRow.holds Try.pinned (OpenSpec.upto namesSpec)

/-- 'usherlaw.WheelNews', WHERE WHAT IT READS IS OF BULK AT MOST 1048576: true; the input reads as it did. -/
def wheelNewsUptoRow : OpenClaim := { program := "ytehodcjnbkkkeaa", sum := "7106cfce23bc2b2acc72648090f1fcc1e4756e0bb27dd23b0ba46a1ac5abdbc3", func := "usher/usherlaw.WheelNews", spec := "wheelNews", apart := false, narrowed := true }
def WheelNewsUptoSaid : Prop := wheelNewsUptoRow.holds Try.pinned (OpenSpec.upto wheelNewsSpec)

/-- 'usherlaw.TableMakes', WHERE WHAT IT READS IS OF BULK AT MOST 1048576: true; the input reads as it did. -/
def tableMakesUptoRow : OpenClaim := { program := "ytehodcjnbkkkeaa", sum := "7106cfce23bc2b2acc72648090f1fcc1e4756e0bb27dd23b0ba46a1ac5abdbc3", func := "usher/usherlaw.TableMakes", spec := "tableMakes", apart := false, narrowed := true }
def TableMakesUptoSaid : Prop := tableMakesUptoRow.holds Try.pinned (OpenSpec.upto tableMakesSpec)

/-- 'usherlaw.RampFulls', WHERE WHAT IT READS IS OF BULK AT MOST 1048576: true; the input reads as it did. -/
def rampFullsUptoRow : OpenClaim := { program := "ytehodcjnbkkkeaa", sum := "7106cfce23bc2b2acc72648090f1fcc1e4756e0bb27dd23b0ba46a1ac5abdbc3", func := "usher/usherlaw.RampFulls", spec := "rampFulls", apart := false, narrowed := true }
def RampFullsUptoSaid : Prop := rampFullsUptoRow.holds Try.pinned (OpenSpec.upto rampFullsSpec)

/-- 'usherlaw.BucketChecks', WHERE WHAT IT READS IS OF BULK AT MOST 1048576: true; the input reads as it did. -/
def bucketChecksUptoRow : OpenClaim := { program := "ytehodcjnbkkkeaa", sum := "7106cfce23bc2b2acc72648090f1fcc1e4756e0bb27dd23b0ba46a1ac5abdbc3", func := "usher/usherlaw.BucketChecks", spec := "bucketChecks", apart := false, narrowed := true }
def BucketChecksUptoSaid : Prop := bucketChecksUptoRow.holds Try.pinned (OpenSpec.upto bucketChecksSpec)

/-- 'usherlaw.HealthChecks', WHERE WHAT IT READS IS OF BULK AT MOST 1048576: true; the input reads as it did. -/
def healthChecksUptoRow : OpenClaim := { program := "ytehodcjnbkkkeaa", sum := "7106cfce23bc2b2acc72648090f1fcc1e4756e0bb27dd23b0ba46a1ac5abdbc3", func := "usher/usherlaw.HealthChecks", spec := "healthChecks", apart := false, narrowed := true }
def HealthChecksUptoSaid : Prop := healthChecksUptoRow.holds Try.pinned (OpenSpec.upto healthChecksSpec)

/-- 'usherlaw.HealthAlloweds', WHERE WHAT IT READS IS OF BULK AT MOST 1048576: true; the input reads as it did. -/
def healthAllowedsUptoRow : OpenClaim := { program := "ytehodcjnbkkkeaa", sum := "7106cfce23bc2b2acc72648090f1fcc1e4756e0bb27dd23b0ba46a1ac5abdbc3", func := "usher/usherlaw.HealthAlloweds", spec := "healthAlloweds", apart := false, narrowed := true }
def HealthAllowedsUptoSaid : Prop := healthAllowedsUptoRow.holds Try.pinned (OpenSpec.upto healthAllowedsSpec)

/-- 'usherlaw.BoundCap', WHERE WHAT IT READS IS OF BULK AT MOST 1048576: true; the input reads as it did. -/
def boundCapUptoRow : OpenClaim := { program := "ytehodcjnbkkkeaa", sum := "7106cfce23bc2b2acc72648090f1fcc1e4756e0bb27dd23b0ba46a1ac5abdbc3", func := "usher/usherlaw.BoundCap", spec := "boundCap", apart := false, narrowed := true }
def BoundCapUptoSaid : Prop := boundCapUptoRow.holds Try.pinned (OpenSpec.upto boundCapSpec)

/-- 'usherlaw.RampWeights', WHERE WHAT IT READS IS OF BULK AT MOST 1048576: true; the input reads as it did. -/
def rampWeightsUptoRow : OpenClaim := { program := "ytehodcjnbkkkeaa", sum := "7106cfce23bc2b2acc72648090f1fcc1e4756e0bb27dd23b0ba46a1ac5abdbc3", func := "usher/usherlaw.RampWeights", spec := "rampWeights", apart := false, narrowed := true }
def RampWeightsUptoSaid : Prop := rampWeightsUptoRow.holds Try.pinned (OpenSpec.upto rampWeightsSpec)

/-- 'usherlaw.HashKeys', WHERE WHAT IT READS IS OF BULK AT MOST 1048576: true; the input reads as it did. -/
def hashKeysUptoRow : OpenClaim := { program := "ytehodcjnbkkkeaa", sum := "7106cfce23bc2b2acc72648090f1fcc1e4756e0bb27dd23b0ba46a1ac5abdbc3", func := "usher/usherlaw.HashKeys", spec := "hashKeys", apart := false, narrowed := true }
def HashKeysUptoSaid : Prop := hashKeysUptoRow.holds Try.pinned (OpenSpec.upto hashKeysSpec)

/-- 'usherlaw.HashSpots', WHERE WHAT IT READS IS OF BULK AT MOST 1048576: true; the input reads as it did. -/
def hashSpotsUptoRow : OpenClaim := { program := "ytehodcjnbkkkeaa", sum := "7106cfce23bc2b2acc72648090f1fcc1e4756e0bb27dd23b0ba46a1ac5abdbc3", func := "usher/usherlaw.HashSpots", spec := "hashSpots", apart := false, narrowed := true }
def HashSpotsUptoSaid : Prop := hashSpotsUptoRow.holds Try.pinned (OpenSpec.upto hashSpotsSpec)

/-- 'usherlaw.BucketFills', WHERE WHAT IT READS IS OF BULK AT MOST 1048576: true; the input reads as it did. -/
def bucketFillsUptoRow : OpenClaim := { program := "ytehodcjnbkkkeaa", sum := "7106cfce23bc2b2acc72648090f1fcc1e4756e0bb27dd23b0ba46a1ac5abdbc3", func := "usher/usherlaw.BucketFills", spec := "bucketFills", apart := false, narrowed := true }
def BucketFillsUptoSaid : Prop := bucketFillsUptoRow.holds Try.pinned (OpenSpec.upto bucketFillsSpec)

/-- 'usherlaw.TallyOfs', WHERE WHAT IT READS IS OF BULK AT MOST 1048576: true; the input reads as it did. -/
def tallyOfsUptoRow : OpenClaim := { program := "ytehodcjnbkkkeaa", sum := "7106cfce23bc2b2acc72648090f1fcc1e4756e0bb27dd23b0ba46a1ac5abdbc3", func := "usher/usherlaw.TallyOfs", spec := "tallyOfs", apart := false, narrowed := true }
def TallyOfsUptoSaid : Prop := tallyOfsUptoRow.holds Try.pinned (OpenSpec.upto tallyOfsSpec)

/-- 'usherlaw.BucketEarns', WHERE WHAT IT READS IS OF BULK AT MOST 1048576: true; the input reads as it did. -/
def bucketEarnsUptoRow : OpenClaim := { program := "ytehodcjnbkkkeaa", sum := "7106cfce23bc2b2acc72648090f1fcc1e4756e0bb27dd23b0ba46a1ac5abdbc3", func := "usher/usherlaw.BucketEarns", spec := "bucketEarns", apart := false, narrowed := true }
def BucketEarnsUptoSaid : Prop := bucketEarnsUptoRow.holds Try.pinned (OpenSpec.upto bucketEarnsSpec)

/-- 'usherlaw.BucketSpends', WHERE WHAT IT READS IS OF BULK AT MOST 1048576: true; the input reads as it did. -/
def bucketSpendsUptoRow : OpenClaim := { program := "ytehodcjnbkkkeaa", sum := "7106cfce23bc2b2acc72648090f1fcc1e4756e0bb27dd23b0ba46a1ac5abdbc3", func := "usher/usherlaw.BucketSpends", spec := "bucketSpends", apart := false, narrowed := true }
def BucketSpendsUptoSaid : Prop := bucketSpendsUptoRow.holds Try.pinned (OpenSpec.upto bucketSpendsSpec)

/-- 'usherlaw.TableChecks', WHERE WHAT IT READS IS OF BULK AT MOST 1048576: true; the input reads as it did. -/
def tableChecksUptoRow : OpenClaim := { program := "ytehodcjnbkkkeaa", sum := "7106cfce23bc2b2acc72648090f1fcc1e4756e0bb27dd23b0ba46a1ac5abdbc3", func := "usher/usherlaw.TableChecks", spec := "tableChecks", unfollowed := true, recurses := true, apart := false, narrowed := true }
def TableChecksUptoSaid : Prop := tableChecksUptoRow.holds Try.pinned (OpenSpec.upto tableChecksSpec)

/-- 'usherlaw.TallyLives', WHERE WHAT IT READS IS OF BULK AT MOST 1048576: true; the input reads as it did. -/
def tallyLivesUptoRow : OpenClaim := { program := "ytehodcjnbkkkeaa", sum := "7106cfce23bc2b2acc72648090f1fcc1e4756e0bb27dd23b0ba46a1ac5abdbc3", func := "usher/usherlaw.TallyLives", spec := "tallyLives", apart := false, narrowed := true }
def TallyLivesUptoSaid : Prop := tallyLivesUptoRow.holds Try.pinned (OpenSpec.upto tallyLivesSpec)

end Rows
end Go.Proofs.Ytehodcjnbkkkeaa
