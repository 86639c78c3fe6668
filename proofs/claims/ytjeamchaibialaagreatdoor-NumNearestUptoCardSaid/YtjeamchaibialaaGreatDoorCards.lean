/-
  DERIVED. GIVEN WITH THE SEED: THE CARDS: each row of YtjeamchaibialaaGreatDoorRows.lean that lists a variable, with what it lists TIED to the program's text (the seventh form; the later family's looks); each row that meets fmt, with fmt's text TOLD by the authors' own Lean function (tested against real Go, not proved from fmt's source: count such statements apart). THE CARD IS WHAT COUNTS. Prove the row's statement (the work); the ties are given (YtjeamchaibialaaGreatDoorTie.lean); close each card by the builder's one call (the guide's Derived/Test/ToyasCard.lean, 'card_holds'). Laid BY PROGRAM, IN A SANDBOX (cutbox-door.mjs). By AI agents, Wed Nov 11 2026. No macro, syntax, notation, axiom, sorry.
-/
import Derived.Test.YtjeamchaibialaaGreatDoorRows
import GoSem.ClaimSeven
namespace Go.Proofs.YtjeamchaibialaaGreatDoor
namespace Rows

/-- THE TIED CARD OF 'arbiterlaw1.NumSimplests'. -/
def numSimplestsCard : Claim7 := { stood := { row := numSimplestsRow, standIns := [], harness := (true, "1d7528a77c79d6ad7007adef9dae238dfdaeb99fbbc55b6c727e20b4bea9e139"), looks := false }, kinds := [], alts := [], laidByText := true, laidKinds := [.data, .pinned], laidTests := true, laidLooks := .later }
def NumSimplestsCardSaid : Prop := Claim7.holds Tryz.pinned (.plain (OpenSpec.ofChange numSimplestsSpec)) numSimplestsCard

/-- THE TIED CARD OF 'arbiterlaw1.NumSpells'. -/
def numSpellsCard : Claim7 := { stood := { row := numSpellsRow, standIns := [], harness := (true, "1d7528a77c79d6ad7007adef9dae238dfdaeb99fbbc55b6c727e20b4bea9e139"), looks := false }, kinds := [], alts := [], laidByText := true, laidKinds := [.data, .pinned], laidTests := true, laidLooks := .later }
def NumSpellsCardSaid : Prop := Claim7.holds Tryz.pinned (.plain (OpenSpec.ofChange numSpellsSpec)) numSpellsCard

/-- THE TIED CARD OF 'arbiterlaw1.NumNearest'. -/
def numNearestCard : Claim7 := { stood := { row := numNearestRow, standIns := [], harness := (true, "1d7528a77c79d6ad7007adef9dae238dfdaeb99fbbc55b6c727e20b4bea9e139"), looks := false }, kinds := [], alts := [], laidByText := true, laidKinds := [.data, .pinned], laidTests := true, laidLooks := .later }
def NumNearestCardSaid : Prop := Claim7.holds Tryz.pinned (.plain (OpenSpec.ofChange numNearestSpec)) numNearestCard

/-- THE TIED CARD OF 'arbiterlaw1.NumPlaces'. -/
def numPlacesCard : Claim7 := { stood := { row := numPlacesRow, standIns := [], harness := (true, "1d7528a77c79d6ad7007adef9dae238dfdaeb99fbbc55b6c727e20b4bea9e139"), looks := false }, kinds := [], alts := [], laidByText := true, laidKinds := [.data, .pinned], laidTests := true, laidLooks := .later }
def NumPlacesCardSaid : Prop := Claim7.holds Tryz.pinned (.plain (OpenSpec.ofChange numPlacesSpec)) numPlacesCard

/-- THE SECOND FORM's CARD OF 'arbiterlaw1.NumSimplests'. -/
def numSimplestsUptoCard : Claim7 := { stood := { row := numSimplestsUptoRow, standIns := [], harness := (true, "1d7528a77c79d6ad7007adef9dae238dfdaeb99fbbc55b6c727e20b4bea9e139"), looks := false }, kinds := [], alts := [], laidByText := true, laidKinds := [.data, .pinned], laidTests := true, laidLooks := .later }
def NumSimplestsUptoCardSaid : Prop := Claim7.holds Tryz.pinned (.plain (OpenSpec.upto numSimplestsSpec)) numSimplestsUptoCard

/-- THE SECOND FORM's CARD OF 'arbiterlaw1.NumSpells'. -/
def numSpellsUptoCard : Claim7 := { stood := { row := numSpellsUptoRow, standIns := [], harness := (true, "1d7528a77c79d6ad7007adef9dae238dfdaeb99fbbc55b6c727e20b4bea9e139"), looks := false }, kinds := [], alts := [], laidByText := true, laidKinds := [.data, .pinned], laidTests := true, laidLooks := .later }
def NumSpellsUptoCardSaid : Prop := Claim7.holds Tryz.pinned (.plain (OpenSpec.upto numSpellsSpec)) numSpellsUptoCard

/-- THE SECOND FORM's CARD OF 'arbiterlaw1.NumNearest'. -/
def numNearestUptoCard : Claim7 := { stood := { row := numNearestUptoRow, standIns := [], harness := (true, "1d7528a77c79d6ad7007adef9dae238dfdaeb99fbbc55b6c727e20b4bea9e139"), looks := false }, kinds := [], alts := [], laidByText := true, laidKinds := [.data, .pinned], laidTests := true, laidLooks := .later }
def NumNearestUptoCardSaid : Prop := Claim7.holds Tryz.pinned (.plain (OpenSpec.upto numNearestSpec)) numNearestUptoCard

/-- THE SECOND FORM's CARD OF 'arbiterlaw1.NumPlaces'. -/
def numPlacesUptoCard : Claim7 := { stood := { row := numPlacesUptoRow, standIns := [], harness := (true, "1d7528a77c79d6ad7007adef9dae238dfdaeb99fbbc55b6c727e20b4bea9e139"), looks := false }, kinds := [], alts := [], laidByText := true, laidKinds := [.data, .pinned], laidTests := true, laidLooks := .later }
def NumPlacesUptoCardSaid : Prop := Claim7.holds Tryz.pinned (.plain (OpenSpec.upto numPlacesSpec)) numPlacesUptoCard
end Rows
end Go.Proofs.YtjeamchaibialaaGreatDoor
