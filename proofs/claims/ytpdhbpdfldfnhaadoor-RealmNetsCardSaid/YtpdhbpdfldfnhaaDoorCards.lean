/-
  DERIVED. GIVEN WITH THE SEED: THE CARDS: each row of YtpdhbpdfldfnhaaDoorRows.lean that lists a variable, with what it lists TIED to the program's text (the seventh form; the later family's looks); each row that meets fmt, with fmt's text TOLD by the authors' own Lean function (tested against real Go, not proved from fmt's source: count such statements apart). THE CARD IS WHAT COUNTS. Prove the row's statement (the work); the ties are given (YtpdhbpdfldfnhaaDoorTie.lean); close each card by the builder's one call (the guide's Derived/Test/ToyasCard.lean, 'card_holds'). Laid BY PROGRAM, IN A SANDBOX (cutbox-door.mjs). By AI agents, Wed Nov 11 2026. No macro, syntax, notation, axiom, sorry.
-/
import Derived.Test.YtpdhbpdfldfnhaaDoorRows
import GoSem.ClaimSeven
namespace Go.Proofs.YtpdhbpdfldfnhaaDoor
namespace Rows

/-- THE TIED CARD OF 'chirographlaw14.RealmNets'. -/
def realmNetsCard : Claim7 := { stood := { row := realmNetsRow, standIns := [], harness := (true, "9cf5b587c9e8aa8d6429be2bbcd133683d72a79c6f0049a78e9715655048eacc"), looks := false }, kinds := [], alts := [], laidByText := true, laidKinds := [.data, .data, .data, .data, .pinned], laidTests := true, laidLooks := .later }
def RealmNetsCardSaid : Prop := Claim7.holds Tryd.pinned (.plain (OpenSpec.ofChange realmNetsSpec)) realmNetsCard

/-- THE SECOND FORM's CARD OF 'chirographlaw14.RealmNets'. -/
def realmNetsUptoCard : Claim7 := { stood := { row := realmNetsUptoRow, standIns := [], harness := (true, "9cf5b587c9e8aa8d6429be2bbcd133683d72a79c6f0049a78e9715655048eacc"), looks := false }, kinds := [], alts := [], laidByText := true, laidKinds := [.data, .data, .data, .data, .pinned], laidTests := true, laidLooks := .later }
def RealmNetsUptoCardSaid : Prop := Claim7.holds Tryd.pinned (.plain (OpenSpec.upto realmNetsSpec)) realmNetsUptoCard
end Rows
end Go.Proofs.YtpdhbpdfldfnhaaDoor
