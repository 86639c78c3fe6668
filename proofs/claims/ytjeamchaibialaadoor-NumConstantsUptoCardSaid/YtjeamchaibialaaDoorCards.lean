/-
  DERIVED. GIVEN WITH THE SEED: THE CARDS: each row of YtjeamchaibialaaDoorRows.lean that lists a variable, with what it lists TIED to the program's text (the seventh form; the later family's looks); each row that meets fmt, with fmt's text TOLD by the authors' own Lean function (tested against real Go, not proved from fmt's source: count such statements apart). THE CARD IS WHAT COUNTS. Prove the row's statement (the work); the ties are given (YtjeamchaibialaaDoorTie.lean); close each card by the builder's one call (the guide's Derived/Test/ToyasCard.lean, 'card_holds'). Laid BY PROGRAM, IN A SANDBOX (cutbox-door.mjs). By AI agents, Wed Nov 11 2026. No macro, syntax, notation, axiom, sorry.
-/
import Derived.Test.YtjeamchaibialaaDoorRows
import GoSem.ClaimSeven
namespace Go.Proofs.YtjeamchaibialaaDoor
namespace Rows

/-- THE TIED CARD OF 'arbiterlaw1.NumCanons'. -/
def numCanonsCard : Claim7 := { stood := { row := numCanonsRow, standIns := [], harness := (true, "0c2476d1efc654ded8b8a22d9f28ac61d6000bf0b2e49e7bf801ecc1c7b39725"), looks := false }, kinds := [], alts := [], laidByText := true, laidKinds := [.data, .pinned], laidTests := true, laidLooks := .later }
def NumCanonsCardSaid : Prop := Claim7.holds Tryd.pinned (.plain (OpenSpec.ofChange numCanonsSpec)) numCanonsCard

/-- THE TIED CARD OF 'arbiterlaw1.NumReads'. -/
def numReadsCard : Claim7 := { stood := { row := numReadsRow, standIns := [], harness := (true, "0c2476d1efc654ded8b8a22d9f28ac61d6000bf0b2e49e7bf801ecc1c7b39725"), looks := false }, kinds := [], alts := [], laidByText := true, laidKinds := [.data, .pinned], laidTests := true, laidLooks := .later }
def NumReadsCardSaid : Prop := Claim7.holds Tryd.pinned (.plain (OpenSpec.ofChange numReadsSpec)) numReadsCard

/-- THE TIED CARD OF 'arbiterlaw1.NumMuls'. -/
def numMulsCard : Claim7 := { stood := { row := numMulsRow, standIns := [], harness := (true, "0c2476d1efc654ded8b8a22d9f28ac61d6000bf0b2e49e7bf801ecc1c7b39725"), looks := false }, kinds := [], alts := [], laidByText := true, laidKinds := [.data, .pinned], laidTests := true, laidLooks := .later }
def NumMulsCardSaid : Prop := Claim7.holds Tryd.pinned (.plain (OpenSpec.ofChange numMulsSpec)) numMulsCard

/-- THE TIED CARD OF 'arbiterlaw1.NumCmps'. -/
def numCmpsCard : Claim7 := { stood := { row := numCmpsRow, standIns := [], harness := (true, "0c2476d1efc654ded8b8a22d9f28ac61d6000bf0b2e49e7bf801ecc1c7b39725"), looks := false }, kinds := [], alts := [], laidByText := true, laidKinds := [.data, .pinned], laidTests := true, laidLooks := .later }
def NumCmpsCardSaid : Prop := Claim7.holds Tryd.pinned (.plain (OpenSpec.ofChange numCmpsSpec)) numCmpsCard

/-- THE TIED CARD OF 'arbiterlaw1.NumAdds'. -/
def numAddsCard : Claim7 := { stood := { row := numAddsRow, standIns := [], harness := (true, "0c2476d1efc654ded8b8a22d9f28ac61d6000bf0b2e49e7bf801ecc1c7b39725"), looks := false }, kinds := [], alts := [], laidByText := true, laidKinds := [.data, .pinned], laidTests := true, laidLooks := .later }
def NumAddsCardSaid : Prop := Claim7.holds Tryd.pinned (.plain (OpenSpec.ofChange numAddsSpec)) numAddsCard

/-- THE TIED CARD OF 'arbiterlaw1.NumField'. -/
def numFieldCard : Claim7 := { stood := { row := numFieldRow, standIns := [], harness := (true, "0c2476d1efc654ded8b8a22d9f28ac61d6000bf0b2e49e7bf801ecc1c7b39725"), looks := false }, kinds := [], alts := [], laidByText := true, laidKinds := [.data, .pinned], laidTests := true, laidLooks := .later }
def NumFieldCardSaid : Prop := Claim7.holds Tryd.pinned (.plain (OpenSpec.ofChange numFieldSpec)) numFieldCard

/-- THE TIED CARD OF 'arbiterlaw1.NumOrder'. -/
def numOrderCard : Claim7 := { stood := { row := numOrderRow, standIns := [], harness := (true, "0c2476d1efc654ded8b8a22d9f28ac61d6000bf0b2e49e7bf801ecc1c7b39725"), looks := false }, kinds := [], alts := [], laidByText := true, laidKinds := [.data, .pinned], laidTests := true, laidLooks := .later }
def NumOrderCardSaid : Prop := Claim7.holds Tryd.pinned (.plain (OpenSpec.ofChange numOrderSpec)) numOrderCard

/-- THE TIED CARD OF 'arbiterlaw1.NumConstants'. -/
def numConstantsCard : Claim7 := { stood := { row := numConstantsRow, standIns := [], harness := (true, "0c2476d1efc654ded8b8a22d9f28ac61d6000bf0b2e49e7bf801ecc1c7b39725"), looks := false }, kinds := [], alts := [], laidByText := true, laidKinds := [.data, .pinned], laidTests := true, laidLooks := .later }
def NumConstantsCardSaid : Prop := Claim7.holds Tryd.pinned (.plain (OpenSpec.ofChange numConstantsSpec)) numConstantsCard

/-- THE SECOND FORM's CARD OF 'arbiterlaw1.NumCanons'. -/
def numCanonsUptoCard : Claim7 := { stood := { row := numCanonsUptoRow, standIns := [], harness := (true, "0c2476d1efc654ded8b8a22d9f28ac61d6000bf0b2e49e7bf801ecc1c7b39725"), looks := false }, kinds := [], alts := [], laidByText := true, laidKinds := [.data, .pinned], laidTests := true, laidLooks := .later }
def NumCanonsUptoCardSaid : Prop := Claim7.holds Tryd.pinned (.plain (OpenSpec.upto numCanonsSpec)) numCanonsUptoCard

/-- THE SECOND FORM's CARD OF 'arbiterlaw1.NumReads'. -/
def numReadsUptoCard : Claim7 := { stood := { row := numReadsUptoRow, standIns := [], harness := (true, "0c2476d1efc654ded8b8a22d9f28ac61d6000bf0b2e49e7bf801ecc1c7b39725"), looks := false }, kinds := [], alts := [], laidByText := true, laidKinds := [.data, .pinned], laidTests := true, laidLooks := .later }
def NumReadsUptoCardSaid : Prop := Claim7.holds Tryd.pinned (.plain (OpenSpec.upto numReadsSpec)) numReadsUptoCard

/-- THE SECOND FORM's CARD OF 'arbiterlaw1.NumMuls'. -/
def numMulsUptoCard : Claim7 := { stood := { row := numMulsUptoRow, standIns := [], harness := (true, "0c2476d1efc654ded8b8a22d9f28ac61d6000bf0b2e49e7bf801ecc1c7b39725"), looks := false }, kinds := [], alts := [], laidByText := true, laidKinds := [.data, .pinned], laidTests := true, laidLooks := .later }
def NumMulsUptoCardSaid : Prop := Claim7.holds Tryd.pinned (.plain (OpenSpec.upto numMulsSpec)) numMulsUptoCard

/-- THE SECOND FORM's CARD OF 'arbiterlaw1.NumCmps'. -/
def numCmpsUptoCard : Claim7 := { stood := { row := numCmpsUptoRow, standIns := [], harness := (true, "0c2476d1efc654ded8b8a22d9f28ac61d6000bf0b2e49e7bf801ecc1c7b39725"), looks := false }, kinds := [], alts := [], laidByText := true, laidKinds := [.data, .pinned], laidTests := true, laidLooks := .later }
def NumCmpsUptoCardSaid : Prop := Claim7.holds Tryd.pinned (.plain (OpenSpec.upto numCmpsSpec)) numCmpsUptoCard

/-- THE SECOND FORM's CARD OF 'arbiterlaw1.NumAdds'. -/
def numAddsUptoCard : Claim7 := { stood := { row := numAddsUptoRow, standIns := [], harness := (true, "0c2476d1efc654ded8b8a22d9f28ac61d6000bf0b2e49e7bf801ecc1c7b39725"), looks := false }, kinds := [], alts := [], laidByText := true, laidKinds := [.data, .pinned], laidTests := true, laidLooks := .later }
def NumAddsUptoCardSaid : Prop := Claim7.holds Tryd.pinned (.plain (OpenSpec.upto numAddsSpec)) numAddsUptoCard

/-- THE SECOND FORM's CARD OF 'arbiterlaw1.NumField'. -/
def numFieldUptoCard : Claim7 := { stood := { row := numFieldUptoRow, standIns := [], harness := (true, "0c2476d1efc654ded8b8a22d9f28ac61d6000bf0b2e49e7bf801ecc1c7b39725"), looks := false }, kinds := [], alts := [], laidByText := true, laidKinds := [.data, .pinned], laidTests := true, laidLooks := .later }
def NumFieldUptoCardSaid : Prop := Claim7.holds Tryd.pinned (.plain (OpenSpec.upto numFieldSpec)) numFieldUptoCard

/-- THE SECOND FORM's CARD OF 'arbiterlaw1.NumOrder'. -/
def numOrderUptoCard : Claim7 := { stood := { row := numOrderUptoRow, standIns := [], harness := (true, "0c2476d1efc654ded8b8a22d9f28ac61d6000bf0b2e49e7bf801ecc1c7b39725"), looks := false }, kinds := [], alts := [], laidByText := true, laidKinds := [.data, .pinned], laidTests := true, laidLooks := .later }
def NumOrderUptoCardSaid : Prop := Claim7.holds Tryd.pinned (.plain (OpenSpec.upto numOrderSpec)) numOrderUptoCard

/-- THE SECOND FORM's CARD OF 'arbiterlaw1.NumConstants'. -/
def numConstantsUptoCard : Claim7 := { stood := { row := numConstantsUptoRow, standIns := [], harness := (true, "0c2476d1efc654ded8b8a22d9f28ac61d6000bf0b2e49e7bf801ecc1c7b39725"), looks := false }, kinds := [], alts := [], laidByText := true, laidKinds := [.data, .pinned], laidTests := true, laidLooks := .later }
def NumConstantsUptoCardSaid : Prop := Claim7.holds Tryd.pinned (.plain (OpenSpec.upto numConstantsSpec)) numConstantsUptoCard
end Rows
end Go.Proofs.YtjeamchaibialaaDoor
