/-
  DERIVED. GIVEN WITH THE SEED: THE CARDS: each row of YtaibdhmiglacdaaGreatDoorRows.lean that lists a variable, with what it lists TIED to the program's text (the seventh form; the later family's looks); each row that meets fmt, with fmt's text TOLD by the authors' own Lean function (tested against real Go, not proved from fmt's source: count such statements apart). THE CARD IS WHAT COUNTS. Prove the row's statement (the work); the ties are given (YtaibdhmiglacdaaGreatDoorTie.lean); close each card by the builder's one call (the guide's Derived/Test/ToyasCard.lean, 'card_holds'). Laid BY PROGRAM, IN A SANDBOX (cutbox-door.mjs). By AI agents, Wed Nov 11 2026. No macro, syntax, notation, axiom, sorry.
-/
import Derived.Test.YtaibdhmiglacdaaGreatDoorRows
import GoSem.ClaimSeven
namespace Go.Proofs.YtaibdhmiglacdaaGreatDoor
namespace Rows

/-- THE TIED CARD OF 'imageeditorlaw31.NodeNews'. -/
def nodeNewsCard : Claim7 := { stood := { row := nodeNewsRow, standIns := [], harness := (true, "6d7c16ea8ab45e039c3404c6a4cdfef132d09110e9ec138f53724d0810c7b461"), looks := false }, kinds := [], alts := [], laidByText := true, laidKinds := [.data, .pinned], laidTests := true, laidLooks := .later }
def NodeNewsCardSaid : Prop := Claim7.holds Tryz.pinned (.plain (OpenSpec.ofChange nodeNewsSpec)) nodeNewsCard

/-- THE TIED CARD OF 'imageeditorlaw31.NodeSames'. -/
def nodeSamesCard : Claim7 := { stood := { row := nodeSamesRow, standIns := [], harness := (true, "6d7c16ea8ab45e039c3404c6a4cdfef132d09110e9ec138f53724d0810c7b461"), looks := false }, kinds := [], alts := [], laidByText := true, laidKinds := [.data, .pinned], laidTests := true, laidLooks := .later }
def NodeSamesCardSaid : Prop := Claim7.holds Tryz.pinned (.plain (OpenSpec.ofChange nodeSamesSpec)) nodeSamesCard

/-- THE TIED CARD OF 'imageeditorlaw31.NodeReads'. -/
def nodeReadsCard : Claim7 := { stood := { row := nodeReadsRow, standIns := [], harness := (true, "6d7c16ea8ab45e039c3404c6a4cdfef132d09110e9ec138f53724d0810c7b461"), looks := false }, kinds := [], alts := [], laidByText := true, laidKinds := [.data, .pinned], laidTests := true, laidLooks := .later }
def NodeReadsCardSaid : Prop := Claim7.holds Tryz.pinned (.plain (OpenSpec.ofChange nodeReadsSpec)) nodeReadsCard

/-- THE TIED CARD OF 'imageeditorlaw31.NodeEquals'. -/
def nodeEqualsCard : Claim7 := { stood := { row := nodeEqualsRow, standIns := [], harness := (true, "6d7c16ea8ab45e039c3404c6a4cdfef132d09110e9ec138f53724d0810c7b461"), looks := false }, kinds := [], alts := [], laidByText := true, laidKinds := [.data, .pinned], laidTests := true, laidLooks := .later }
def NodeEqualsCardSaid : Prop := Claim7.holds Tryz.pinned (.plain (OpenSpec.ofChange nodeEqualsSpec)) nodeEqualsCard

/-- THE TIED CARD OF 'imageeditorlaw31.NodeWiths'. -/
def nodeWithsCard : Claim7 := { stood := { row := nodeWithsRow, standIns := [], harness := (true, "6d7c16ea8ab45e039c3404c6a4cdfef132d09110e9ec138f53724d0810c7b461"), looks := false }, kinds := [], alts := [], laidByText := true, laidKinds := [.data, .pinned], laidTests := true, laidLooks := .later }
def NodeWithsCardSaid : Prop := Claim7.holds Tryz.pinned (.plain (OpenSpec.ofChange nodeWithsSpec)) nodeWithsCard

/-- THE TIED CARD OF 'imageeditorlaw31.NodeContents'. -/
def nodeContentsCard : Claim7 := { stood := { row := nodeContentsRow, standIns := [], harness := (true, "6d7c16ea8ab45e039c3404c6a4cdfef132d09110e9ec138f53724d0810c7b461"), looks := false }, kinds := [], alts := [], laidByText := true, laidKinds := [.data, .pinned], laidTests := true, laidLooks := .later }
def NodeContentsCardSaid : Prop := Claim7.holds Tryz.pinned (.plain (OpenSpec.ofChange nodeContentsSpec)) nodeContentsCard

/-- THE SECOND FORM's CARD OF 'imageeditorlaw31.NodeNews'. -/
def nodeNewsUptoCard : Claim7 := { stood := { row := nodeNewsUptoRow, standIns := [], harness := (true, "6d7c16ea8ab45e039c3404c6a4cdfef132d09110e9ec138f53724d0810c7b461"), looks := false }, kinds := [], alts := [], laidByText := true, laidKinds := [.data, .pinned], laidTests := true, laidLooks := .later }
def NodeNewsUptoCardSaid : Prop := Claim7.holds Tryz.pinned (.plain (OpenSpec.upto nodeNewsSpec)) nodeNewsUptoCard

/-- THE SECOND FORM's CARD OF 'imageeditorlaw31.NodeSames'. -/
def nodeSamesUptoCard : Claim7 := { stood := { row := nodeSamesUptoRow, standIns := [], harness := (true, "6d7c16ea8ab45e039c3404c6a4cdfef132d09110e9ec138f53724d0810c7b461"), looks := false }, kinds := [], alts := [], laidByText := true, laidKinds := [.data, .pinned], laidTests := true, laidLooks := .later }
def NodeSamesUptoCardSaid : Prop := Claim7.holds Tryz.pinned (.plain (OpenSpec.upto nodeSamesSpec)) nodeSamesUptoCard

/-- THE SECOND FORM's CARD OF 'imageeditorlaw31.NodeReads'. -/
def nodeReadsUptoCard : Claim7 := { stood := { row := nodeReadsUptoRow, standIns := [], harness := (true, "6d7c16ea8ab45e039c3404c6a4cdfef132d09110e9ec138f53724d0810c7b461"), looks := false }, kinds := [], alts := [], laidByText := true, laidKinds := [.data, .pinned], laidTests := true, laidLooks := .later }
def NodeReadsUptoCardSaid : Prop := Claim7.holds Tryz.pinned (.plain (OpenSpec.upto nodeReadsSpec)) nodeReadsUptoCard

/-- THE SECOND FORM's CARD OF 'imageeditorlaw31.NodeEquals'. -/
def nodeEqualsUptoCard : Claim7 := { stood := { row := nodeEqualsUptoRow, standIns := [], harness := (true, "6d7c16ea8ab45e039c3404c6a4cdfef132d09110e9ec138f53724d0810c7b461"), looks := false }, kinds := [], alts := [], laidByText := true, laidKinds := [.data, .pinned], laidTests := true, laidLooks := .later }
def NodeEqualsUptoCardSaid : Prop := Claim7.holds Tryz.pinned (.plain (OpenSpec.upto nodeEqualsSpec)) nodeEqualsUptoCard

/-- THE SECOND FORM's CARD OF 'imageeditorlaw31.NodeWiths'. -/
def nodeWithsUptoCard : Claim7 := { stood := { row := nodeWithsUptoRow, standIns := [], harness := (true, "6d7c16ea8ab45e039c3404c6a4cdfef132d09110e9ec138f53724d0810c7b461"), looks := false }, kinds := [], alts := [], laidByText := true, laidKinds := [.data, .pinned], laidTests := true, laidLooks := .later }
def NodeWithsUptoCardSaid : Prop := Claim7.holds Tryz.pinned (.plain (OpenSpec.upto nodeWithsSpec)) nodeWithsUptoCard

/-- THE SECOND FORM's CARD OF 'imageeditorlaw31.NodeContents'. -/
def nodeContentsUptoCard : Claim7 := { stood := { row := nodeContentsUptoRow, standIns := [], harness := (true, "6d7c16ea8ab45e039c3404c6a4cdfef132d09110e9ec138f53724d0810c7b461"), looks := false }, kinds := [], alts := [], laidByText := true, laidKinds := [.data, .pinned], laidTests := true, laidLooks := .later }
def NodeContentsUptoCardSaid : Prop := Claim7.holds Tryz.pinned (.plain (OpenSpec.upto nodeContentsSpec)) nodeContentsUptoCard
end Rows
end Go.Proofs.YtaibdhmiglacdaaGreatDoor
