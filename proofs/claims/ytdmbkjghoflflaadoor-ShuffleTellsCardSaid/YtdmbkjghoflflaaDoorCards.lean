/-
  DERIVED. GIVEN WITH THE SEED: THE CARDS: each row of YtdmbkjghoflflaaDoorRows.lean that lists a variable, with what it lists TIED to the program's text (the seventh form; the later family's looks); each row that meets fmt, with fmt's text TOLD by the authors' own Lean function (tested against real Go, not proved from fmt's source: count such statements apart). THE CARD IS WHAT COUNTS. Prove the row's statement (the work); the ties are given (YtdmbkjghoflflaaDoorTie.lean); close each card by the builder's one call (the guide's Derived/Test/ToyasCard.lean, 'card_holds'). Laid BY PROGRAM, IN A SANDBOX (cutbox-door.mjs). By AI agents, Wed Nov 11 2026. No macro, syntax, notation, axiom, sorry.
-/
import Derived.Test.YtdmbkjghoflflaaDoorRows
import GoSem.ClaimSeven
namespace Go.Proofs.YtdmbkjghoflflaaDoor
namespace Rows

/-- THE TIED CARD OF 'rosettelaw06.ShuffleTells'. -/
def shuffleTellsCard : Claim7 := { stood := { row := shuffleTellsRow, standIns := [], harness := (true, "bde3732b10325ec29ffd5fd4be1ae2a3eeb58f92371a882835c1c7aa23044be7"), looks := false }, kinds := [], alts := [], laidByText := true, laidKinds := [.data, .data, .data], laidTests := true, laidLooks := .later }
def ShuffleTellsCardSaid : Prop := Claim7.holds Tryd.pinned (.plain (OpenSpec.ofChange shuffleTellsSpec)) shuffleTellsCard

/-- THE TIED CARD OF 'rosettelaw06.ShuffleNumbers'. -/
def shuffleNumbersCard : Claim7 := { stood := { row := shuffleNumbersRow, standIns := [], harness := (true, "bde3732b10325ec29ffd5fd4be1ae2a3eeb58f92371a882835c1c7aa23044be7"), looks := false }, kinds := [], alts := [], laidByText := true, laidKinds := [.data, .data, .data], laidTests := true, laidLooks := .later }
def ShuffleNumbersCardSaid : Prop := Claim7.holds Tryd.pinned (.plain (OpenSpec.ofChange shuffleNumbersSpec)) shuffleNumbersCard

/-- THE SECOND FORM's CARD OF 'rosettelaw06.ShuffleTells'. -/
def shuffleTellsUptoCard : Claim7 := { stood := { row := shuffleTellsUptoRow, standIns := [], harness := (true, "bde3732b10325ec29ffd5fd4be1ae2a3eeb58f92371a882835c1c7aa23044be7"), looks := false }, kinds := [], alts := [], laidByText := true, laidKinds := [.data, .data, .data], laidTests := true, laidLooks := .later }
def ShuffleTellsUptoCardSaid : Prop := Claim7.holds Tryd.pinned (.plain (OpenSpec.upto shuffleTellsSpec)) shuffleTellsUptoCard

/-- THE SECOND FORM's CARD OF 'rosettelaw06.ShuffleNumbers'. -/
def shuffleNumbersUptoCard : Claim7 := { stood := { row := shuffleNumbersUptoRow, standIns := [], harness := (true, "bde3732b10325ec29ffd5fd4be1ae2a3eeb58f92371a882835c1c7aa23044be7"), looks := false }, kinds := [], alts := [], laidByText := true, laidKinds := [.data, .data, .data], laidTests := true, laidLooks := .later }
def ShuffleNumbersUptoCardSaid : Prop := Claim7.holds Tryd.pinned (.plain (OpenSpec.upto shuffleNumbersSpec)) shuffleNumbersUptoCard
end Rows
end Go.Proofs.YtdmbkjghoflflaaDoor
