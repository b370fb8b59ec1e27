/-
  DERIVED. GIVEN WITH THE SEED: THE CARDS: each row of YtnkpegldckdahaaDoorRows.lean that lists a variable, with what it lists TIED to the program's text (the seventh form; the later family's looks); each row that meets fmt, with fmt's text TOLD by the authors' own Lean function (tested against real Go, not proved from fmt's source: count such statements apart). THE CARD IS WHAT COUNTS. Prove the row's statement (the work); the ties are given (YtnkpegldckdahaaDoorTie.lean); close each card by the builder's one call (the guide's Derived/Test/ToyasCard.lean, 'card_holds'). Laid BY PROGRAM, IN A SANDBOX (cutbox-door.mjs). By AI agents, Wed Nov 11 2026. No macro, syntax, notation, axiom, sorry.
-/
import Derived.Test.YtnkpegldckdahaaDoorRows
import GoSem.ClaimSeven
namespace Go.Proofs.YtnkpegldckdahaaDoor
namespace Rows

/-- THE TIED CARD OF 'chirographlaw05.ClockSeconds'. -/
def clockSecondsCard : Claim7 := { stood := { row := clockSecondsRow, standIns := [], harness := (true, "87897457a281627e8c5ae239462613789c6edfa1d4c33f338d62c131b145ec07"), looks := false }, kinds := [], alts := [], laidByText := true, laidKinds := [.data, .data, .data, .data, .pinned], laidTests := true, laidLooks := .later }
def ClockSecondsCardSaid : Prop := Claim7.holds Tryd.pinned (.plain (OpenSpec.ofChange clockSecondsSpec)) clockSecondsCard

/-- THE TIED CARD OF 'chirographlaw05.ClockParts'. -/
def clockPartsCard : Claim7 := { stood := { row := clockPartsRow, standIns := [], harness := (true, "87897457a281627e8c5ae239462613789c6edfa1d4c33f338d62c131b145ec07"), looks := false }, kinds := [], alts := [], laidByText := true, laidKinds := [.data, .data, .data, .data, .pinned], laidTests := true, laidLooks := .later }
def ClockPartsCardSaid : Prop := Claim7.holds Tryd.pinned (.plain (OpenSpec.ofChange clockPartsSpec)) clockPartsCard

/-- THE TIED CARD OF 'chirographlaw05.ClockBack'. -/
def clockBackCard : Claim7 := { stood := { row := clockBackRow, standIns := [], harness := (true, "87897457a281627e8c5ae239462613789c6edfa1d4c33f338d62c131b145ec07"), looks := false }, kinds := [], alts := [], laidByText := true, laidKinds := [.data, .data, .data, .data, .pinned], laidTests := true, laidLooks := .later }
def ClockBackCardSaid : Prop := Claim7.holds Tryd.pinned (.plain (OpenSpec.ofChange clockBackSpec)) clockBackCard

/-- THE TIED CARD OF 'chirographlaw05.ClockOrder'. -/
def clockOrderCard : Claim7 := { stood := { row := clockOrderRow, standIns := [], harness := (true, "87897457a281627e8c5ae239462613789c6edfa1d4c33f338d62c131b145ec07"), looks := false }, kinds := [], alts := [], laidByText := true, laidKinds := [.data, .data, .data, .data, .pinned], laidTests := true, laidLooks := .later }
def ClockOrderCardSaid : Prop := Claim7.holds Tryd.pinned (.plain (OpenSpec.ofChange clockOrderSpec)) clockOrderCard

/-- THE TIED CARD OF 'chirographlaw05.ClockNext'. -/
def clockNextCard : Claim7 := { stood := { row := clockNextRow, standIns := [], harness := (true, "87897457a281627e8c5ae239462613789c6edfa1d4c33f338d62c131b145ec07"), looks := false }, kinds := [], alts := [], laidByText := true, laidKinds := [.data, .data, .data, .data, .pinned], laidTests := true, laidLooks := .later }
def ClockNextCardSaid : Prop := Claim7.holds Tryd.pinned (.plain (OpenSpec.ofChange clockNextSpec)) clockNextCard

/-- THE TIED CARD OF 'chirographlaw05.ClockPuts'. -/
def clockPutsCard : Claim7 := { stood := { row := clockPutsRow, standIns := [], harness := (true, "87897457a281627e8c5ae239462613789c6edfa1d4c33f338d62c131b145ec07"), looks := false }, kinds := [], alts := [], laidByText := true, laidKinds := [.data, .data, .data, .data, .pinned], laidTests := true, laidLooks := .later }
def ClockPutsCardSaid : Prop := Claim7.holds Tryd.pinned (.plain (OpenSpec.ofChange clockPutsSpec)) clockPutsCard

/-- THE TIED CARD OF 'chirographlaw05.ClockThere'. -/
def clockThereCard : Claim7 := { stood := { row := clockThereRow, standIns := [], harness := (true, "87897457a281627e8c5ae239462613789c6edfa1d4c33f338d62c131b145ec07"), looks := false }, kinds := [], alts := [], laidByText := true, laidKinds := [.data, .data, .data, .data, .pinned], laidTests := true, laidLooks := .later }
def ClockThereCardSaid : Prop := Claim7.holds Tryd.pinned (.plain (OpenSpec.ofChange clockThereSpec)) clockThereCard

/-- THE SECOND FORM's CARD OF 'chirographlaw05.ClockSeconds'. -/
def clockSecondsUptoCard : Claim7 := { stood := { row := clockSecondsUptoRow, standIns := [], harness := (true, "87897457a281627e8c5ae239462613789c6edfa1d4c33f338d62c131b145ec07"), looks := false }, kinds := [], alts := [], laidByText := true, laidKinds := [.data, .data, .data, .data, .pinned], laidTests := true, laidLooks := .later }
def ClockSecondsUptoCardSaid : Prop := Claim7.holds Tryd.pinned (.plain (OpenSpec.upto clockSecondsSpec)) clockSecondsUptoCard

/-- THE SECOND FORM's CARD OF 'chirographlaw05.ClockParts'. -/
def clockPartsUptoCard : Claim7 := { stood := { row := clockPartsUptoRow, standIns := [], harness := (true, "87897457a281627e8c5ae239462613789c6edfa1d4c33f338d62c131b145ec07"), looks := false }, kinds := [], alts := [], laidByText := true, laidKinds := [.data, .data, .data, .data, .pinned], laidTests := true, laidLooks := .later }
def ClockPartsUptoCardSaid : Prop := Claim7.holds Tryd.pinned (.plain (OpenSpec.upto clockPartsSpec)) clockPartsUptoCard

/-- THE SECOND FORM's CARD OF 'chirographlaw05.ClockBack'. -/
def clockBackUptoCard : Claim7 := { stood := { row := clockBackUptoRow, standIns := [], harness := (true, "87897457a281627e8c5ae239462613789c6edfa1d4c33f338d62c131b145ec07"), looks := false }, kinds := [], alts := [], laidByText := true, laidKinds := [.data, .data, .data, .data, .pinned], laidTests := true, laidLooks := .later }
def ClockBackUptoCardSaid : Prop := Claim7.holds Tryd.pinned (.plain (OpenSpec.upto clockBackSpec)) clockBackUptoCard

/-- THE SECOND FORM's CARD OF 'chirographlaw05.ClockOrder'. -/
def clockOrderUptoCard : Claim7 := { stood := { row := clockOrderUptoRow, standIns := [], harness := (true, "87897457a281627e8c5ae239462613789c6edfa1d4c33f338d62c131b145ec07"), looks := false }, kinds := [], alts := [], laidByText := true, laidKinds := [.data, .data, .data, .data, .pinned], laidTests := true, laidLooks := .later }
def ClockOrderUptoCardSaid : Prop := Claim7.holds Tryd.pinned (.plain (OpenSpec.upto clockOrderSpec)) clockOrderUptoCard

/-- THE SECOND FORM's CARD OF 'chirographlaw05.ClockNext'. -/
def clockNextUptoCard : Claim7 := { stood := { row := clockNextUptoRow, standIns := [], harness := (true, "87897457a281627e8c5ae239462613789c6edfa1d4c33f338d62c131b145ec07"), looks := false }, kinds := [], alts := [], laidByText := true, laidKinds := [.data, .data, .data, .data, .pinned], laidTests := true, laidLooks := .later }
def ClockNextUptoCardSaid : Prop := Claim7.holds Tryd.pinned (.plain (OpenSpec.upto clockNextSpec)) clockNextUptoCard

/-- THE SECOND FORM's CARD OF 'chirographlaw05.ClockPuts'. -/
def clockPutsUptoCard : Claim7 := { stood := { row := clockPutsUptoRow, standIns := [], harness := (true, "87897457a281627e8c5ae239462613789c6edfa1d4c33f338d62c131b145ec07"), looks := false }, kinds := [], alts := [], laidByText := true, laidKinds := [.data, .data, .data, .data, .pinned], laidTests := true, laidLooks := .later }
def ClockPutsUptoCardSaid : Prop := Claim7.holds Tryd.pinned (.plain (OpenSpec.upto clockPutsSpec)) clockPutsUptoCard

/-- THE SECOND FORM's CARD OF 'chirographlaw05.ClockThere'. -/
def clockThereUptoCard : Claim7 := { stood := { row := clockThereUptoRow, standIns := [], harness := (true, "87897457a281627e8c5ae239462613789c6edfa1d4c33f338d62c131b145ec07"), looks := false }, kinds := [], alts := [], laidByText := true, laidKinds := [.data, .data, .data, .data, .pinned], laidTests := true, laidLooks := .later }
def ClockThereUptoCardSaid : Prop := Claim7.holds Tryd.pinned (.plain (OpenSpec.upto clockThereSpec)) clockThereUptoCard
end Rows
end Go.Proofs.YtnkpegldckdahaaDoor
