/-
  DERIVED. GIVEN WITH THE SEED: THE CARDS: each row of YtjopfpegcckllaaGreatDoorRows.lean that lists a variable, with what it lists TIED to the program's text (the seventh form; the later family's looks); each row that meets fmt, with fmt's text TOLD by the authors' own Lean function (tested against real Go, not proved from fmt's source: count such statements apart). THE CARD IS WHAT COUNTS. Prove the row's statement (the work); the ties are given (YtjopfpegcckllaaGreatDoorTie.lean); close each card by the builder's one call (the guide's Derived/Test/ToyasCard.lean, 'card_holds'). Laid BY PROGRAM, IN A SANDBOX (cutbox-door.mjs). By AI agents, Wed Nov 11 2026. No macro, syntax, notation, axiom, sorry.
-/
import Derived.Test.YtjopfpegcckllaaGreatDoorRows
import GoSem.ClaimSeven
namespace Go.Proofs.YtjopfpegcckllaaGreatDoor
namespace Rows

/-- THE TIED CARD OF 'retrospecttop.TopStops'. -/
def topStopsCard : Claim7 := { stood := { row := topStopsRow, standIns := [], harness := (true, "18e47f54e9b11b940e3a95c25db32ac134869e6157c965a99a98578ac041b701"), looks := false }, kinds := [], alts := [], laidByText := true, laidKinds := [.data, .pinned], laidTests := true, laidLooks := .later }
def TopStopsCardSaid : Prop := Claim7.holds Tryz.pinned (.plain (OpenSpec.ofChange topStopsSpec)) topStopsCard

/-- THE SECOND FORM's CARD OF 'retrospecttop.TopStops'. -/
def topStopsUptoCard : Claim7 := { stood := { row := topStopsUptoRow, standIns := [], harness := (true, "18e47f54e9b11b940e3a95c25db32ac134869e6157c965a99a98578ac041b701"), looks := false }, kinds := [], alts := [], laidByText := true, laidKinds := [.data, .pinned], laidTests := true, laidLooks := .later }
def TopStopsUptoCardSaid : Prop := Claim7.holds Tryz.pinned (.plain (OpenSpec.upto topStopsSpec)) topStopsUptoCard
end Rows
end Go.Proofs.YtjopfpegcckllaaGreatDoor
