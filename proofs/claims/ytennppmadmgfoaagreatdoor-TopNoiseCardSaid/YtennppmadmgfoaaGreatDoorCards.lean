/-
  DERIVED. GIVEN WITH THE SEED: THE CARDS: each row of YtennppmadmgfoaaGreatDoorRows.lean that lists a variable, with what it lists TIED to the program's text (the seventh form; the later family's looks); each row that meets fmt, with fmt's text TOLD by the authors' own Lean function (tested against real Go, not proved from fmt's source: count such statements apart). THE CARD IS WHAT COUNTS. Prove the row's statement (the work); the ties are given (YtennppmadmgfoaaGreatDoorTie.lean); close each card by the builder's one call (the guide's Derived/Test/ToyasCard.lean, 'card_holds'). Laid BY PROGRAM, IN A SANDBOX (cutbox-door.mjs). By AI agents, Wed Nov 11 2026. No macro, syntax, notation, axiom, sorry.
-/
import Derived.Test.YtennppmadmgfoaaGreatDoorRows
import GoSem.ClaimSeven
namespace Go.Proofs.YtennppmadmgfoaaGreatDoor
namespace Rows

/-- THE TIED CARD OF 'ushertop.TopNoise'. -/
def topNoiseCard : Claim7 := { stood := { row := topNoiseRow, standIns := [], harness := (true, "2e686fd5f3686b4b6f0671474f8a2836870c138ef88036a43e38a7149e48eaef"), looks := true }, kinds := [], alts := [], laidByText := true, laidKinds := [.handle], laidTests := true, laidLooks := .later }
def TopNoiseCardSaid : Prop := Claim7.holds Tryz.pinned (.plain (OpenSpec.ofChange topNoiseSpec)) topNoiseCard

/-- THE SECOND FORM's CARD OF 'ushertop.TopNoise'. -/
def topNoiseUptoCard : Claim7 := { stood := { row := topNoiseUptoRow, standIns := [], harness := (true, "2e686fd5f3686b4b6f0671474f8a2836870c138ef88036a43e38a7149e48eaef"), looks := true }, kinds := [], alts := [], laidByText := true, laidKinds := [.handle], laidTests := true, laidLooks := .later }
def TopNoiseUptoCardSaid : Prop := Claim7.holds Tryz.pinned (.plain (OpenSpec.upto topNoiseSpec)) topNoiseUptoCard
end Rows
end Go.Proofs.YtennppmadmgfoaaGreatDoor
