/-
  DERIVED. GIVEN WITH THE SEED: THE CARDS: each row of YtdgcgaibkiobjaaDoorRows.lean that lists a variable, with what it lists TIED to the program's text (the seventh form; the later family's looks); each row that meets fmt, with fmt's text TOLD by the authors' own Lean function (tested against real Go, not proved from fmt's source: count such statements apart). THE CARD IS WHAT COUNTS. Prove the row's statement (the work); the ties are given (YtdgcgaibkiobjaaDoorTie.lean); close each card by the builder's one call (the guide's Derived/Test/ToyasCard.lean, 'card_holds'). Laid BY PROGRAM, IN A SANDBOX (cutbox-door.mjs). By AI agents, Wed Nov 11 2026. No macro, syntax, notation, axiom, sorry.
-/
import Derived.Test.YtdgcgaibkiobjaaDoorRows
import GoSem.ClaimSeven
namespace Go.Proofs.YtdgcgaibkiobjaaDoor
namespace Rows

/-- THE TIED CARD OF 'garnerlaw07.TidTexts'. -/
def tidTextsCard : Claim7 := { stood := { row := tidTextsRow, standIns := [], harness := (true, "5f607a38eca78d72ea92842448be20948ef03109b0ac65f7ec85ece38334d7a3"), looks := true }, kinds := [], alts := [], laidByText := true, laidKinds := [.data, .data, .data, .data, .sentinel, .sentinel, .pinned], laidTests := true, laidLooks := .later }
def TidTextsCardSaid : Prop := Claim7.holds Tryd.pinned (.plain (OpenSpec.ofChange tidTextsSpec)) tidTextsCard

/-- THE TIED CARD OF 'garnerlaw07.TidWords'. -/
def tidWordsCard : Claim7 := { stood := { row := tidWordsRow, standIns := [], harness := (true, "5f607a38eca78d72ea92842448be20948ef03109b0ac65f7ec85ece38334d7a3"), looks := true }, kinds := [], alts := [], laidByText := true, laidKinds := [.data, .data, .data, .data, .sentinel, .sentinel, .pinned], laidTests := true, laidLooks := .later }
def TidWordsCardSaid : Prop := Claim7.holds Tryd.pinned (.plain (OpenSpec.ofChange tidWordsSpec)) tidWordsCard

/-- THE TIED CARD OF 'garnerlaw07.TidBits'. -/
def tidBitsCard : Claim7 := { stood := { row := tidBitsRow, standIns := [], harness := (true, "5f607a38eca78d72ea92842448be20948ef03109b0ac65f7ec85ece38334d7a3"), looks := true }, kinds := [], alts := [], laidByText := true, laidKinds := [.data, .data, .data, .data, .sentinel, .sentinel, .pinned], laidTests := true, laidLooks := .later }
def TidBitsCardSaid : Prop := Claim7.holds Tryd.pinned (.plain (OpenSpec.ofChange tidBitsSpec)) tidBitsCard

/-- THE TIED CARD OF 'garnerlaw07.TidBack'. -/
def tidBackCard : Claim7 := { stood := { row := tidBackRow, standIns := [], harness := (true, "5f607a38eca78d72ea92842448be20948ef03109b0ac65f7ec85ece38334d7a3"), looks := true }, kinds := [], alts := [], laidByText := true, laidKinds := [.data, .data, .data, .data, .sentinel, .sentinel, .pinned], laidTests := true, laidLooks := .later }
def TidBackCardSaid : Prop := Claim7.holds Tryd.pinned (.plain (OpenSpec.ofChange tidBackSpec)) tidBackCard

/-- THE TIED CARD OF 'garnerlaw07.TidOrder'. -/
def tidOrderCard : Claim7 := { stood := { row := tidOrderRow, standIns := [], harness := (true, "5f607a38eca78d72ea92842448be20948ef03109b0ac65f7ec85ece38334d7a3"), looks := true }, kinds := [], alts := [], laidByText := true, laidKinds := [.data, .data, .data, .data, .sentinel, .sentinel, .pinned], laidTests := true, laidLooks := .later }
def TidOrderCardSaid : Prop := Claim7.holds Tryd.pinned (.plain (OpenSpec.ofChange tidOrderSpec)) tidOrderCard

/-- THE TIED CARD OF 'garnerlaw07.TidApart'. -/
def tidApartCard : Claim7 := { stood := { row := tidApartRow, standIns := [], harness := (true, "5f607a38eca78d72ea92842448be20948ef03109b0ac65f7ec85ece38334d7a3"), looks := true }, kinds := [], alts := [], laidByText := true, laidKinds := [.data, .data, .data, .data, .sentinel, .sentinel, .pinned], laidTests := true, laidLooks := .later }
def TidApartCardSaid : Prop := Claim7.holds Tryd.pinned (.plain (OpenSpec.ofChange tidApartSpec)) tidApartCard

/-- THE TIED CARD OF 'garnerlaw07.TidNext'. -/
def tidNextCard : Claim7 := { stood := { row := tidNextRow, standIns := [], harness := (true, "5f607a38eca78d72ea92842448be20948ef03109b0ac65f7ec85ece38334d7a3"), looks := true }, kinds := [], alts := [], laidByText := true, laidKinds := [.data, .data, .data, .data, .sentinel, .sentinel, .pinned], laidTests := true, laidLooks := .later }
def TidNextCardSaid : Prop := Claim7.holds Tryd.pinned (.plain (OpenSpec.ofChange tidNextSpec)) tidNextCard

/-- THE SECOND FORM's CARD OF 'garnerlaw07.TidTexts'. -/
def tidTextsUptoCard : Claim7 := { stood := { row := tidTextsUptoRow, standIns := [], harness := (true, "5f607a38eca78d72ea92842448be20948ef03109b0ac65f7ec85ece38334d7a3"), looks := true }, kinds := [], alts := [], laidByText := true, laidKinds := [.data, .data, .data, .data, .sentinel, .sentinel, .pinned], laidTests := true, laidLooks := .later }
def TidTextsUptoCardSaid : Prop := Claim7.holds Tryd.pinned (.plain (OpenSpec.upto tidTextsSpec)) tidTextsUptoCard

/-- THE SECOND FORM's CARD OF 'garnerlaw07.TidWords'. -/
def tidWordsUptoCard : Claim7 := { stood := { row := tidWordsUptoRow, standIns := [], harness := (true, "5f607a38eca78d72ea92842448be20948ef03109b0ac65f7ec85ece38334d7a3"), looks := true }, kinds := [], alts := [], laidByText := true, laidKinds := [.data, .data, .data, .data, .sentinel, .sentinel, .pinned], laidTests := true, laidLooks := .later }
def TidWordsUptoCardSaid : Prop := Claim7.holds Tryd.pinned (.plain (OpenSpec.upto tidWordsSpec)) tidWordsUptoCard

/-- THE SECOND FORM's CARD OF 'garnerlaw07.TidBits'. -/
def tidBitsUptoCard : Claim7 := { stood := { row := tidBitsUptoRow, standIns := [], harness := (true, "5f607a38eca78d72ea92842448be20948ef03109b0ac65f7ec85ece38334d7a3"), looks := true }, kinds := [], alts := [], laidByText := true, laidKinds := [.data, .data, .data, .data, .sentinel, .sentinel, .pinned], laidTests := true, laidLooks := .later }
def TidBitsUptoCardSaid : Prop := Claim7.holds Tryd.pinned (.plain (OpenSpec.upto tidBitsSpec)) tidBitsUptoCard

/-- THE SECOND FORM's CARD OF 'garnerlaw07.TidBack'. -/
def tidBackUptoCard : Claim7 := { stood := { row := tidBackUptoRow, standIns := [], harness := (true, "5f607a38eca78d72ea92842448be20948ef03109b0ac65f7ec85ece38334d7a3"), looks := true }, kinds := [], alts := [], laidByText := true, laidKinds := [.data, .data, .data, .data, .sentinel, .sentinel, .pinned], laidTests := true, laidLooks := .later }
def TidBackUptoCardSaid : Prop := Claim7.holds Tryd.pinned (.plain (OpenSpec.upto tidBackSpec)) tidBackUptoCard

/-- THE SECOND FORM's CARD OF 'garnerlaw07.TidOrder'. -/
def tidOrderUptoCard : Claim7 := { stood := { row := tidOrderUptoRow, standIns := [], harness := (true, "5f607a38eca78d72ea92842448be20948ef03109b0ac65f7ec85ece38334d7a3"), looks := true }, kinds := [], alts := [], laidByText := true, laidKinds := [.data, .data, .data, .data, .sentinel, .sentinel, .pinned], laidTests := true, laidLooks := .later }
def TidOrderUptoCardSaid : Prop := Claim7.holds Tryd.pinned (.plain (OpenSpec.upto tidOrderSpec)) tidOrderUptoCard

/-- THE SECOND FORM's CARD OF 'garnerlaw07.TidApart'. -/
def tidApartUptoCard : Claim7 := { stood := { row := tidApartUptoRow, standIns := [], harness := (true, "5f607a38eca78d72ea92842448be20948ef03109b0ac65f7ec85ece38334d7a3"), looks := true }, kinds := [], alts := [], laidByText := true, laidKinds := [.data, .data, .data, .data, .sentinel, .sentinel, .pinned], laidTests := true, laidLooks := .later }
def TidApartUptoCardSaid : Prop := Claim7.holds Tryd.pinned (.plain (OpenSpec.upto tidApartSpec)) tidApartUptoCard

/-- THE SECOND FORM's CARD OF 'garnerlaw07.TidNext'. -/
def tidNextUptoCard : Claim7 := { stood := { row := tidNextUptoRow, standIns := [], harness := (true, "5f607a38eca78d72ea92842448be20948ef03109b0ac65f7ec85ece38334d7a3"), looks := true }, kinds := [], alts := [], laidByText := true, laidKinds := [.data, .data, .data, .data, .sentinel, .sentinel, .pinned], laidTests := true, laidLooks := .later }
def TidNextUptoCardSaid : Prop := Claim7.holds Tryd.pinned (.plain (OpenSpec.upto tidNextSpec)) tidNextUptoCard
end Rows
end Go.Proofs.YtdgcgaibkiobjaaDoor
