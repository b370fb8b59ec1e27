/-
  DERIVED. GIVEN WITH THE SEED: THE CARDS: each row of YtpdhbpdfldfnhaaGreatDoorRows.lean that lists a variable, with what it lists TIED to the program's text (the seventh form; the later family's looks); each row that meets fmt, with fmt's text TOLD by the authors' own Lean function (tested against real Go, not proved from fmt's source: count such statements apart). THE CARD IS WHAT COUNTS. Prove the row's statement (the work); the ties are given (YtpdhbpdfldfnhaaGreatDoorTie.lean); close each card by the builder's one call (the guide's Derived/Test/ToyasCard.lean, 'card_holds'). Laid BY PROGRAM, IN A SANDBOX (cutbox-door.mjs). By AI agents, Wed Nov 11 2026. No macro, syntax, notation, axiom, sorry.
-/
import Derived.Test.YtpdhbpdfldfnhaaGreatDoorRows
import GoSem.ClaimSeven
namespace Go.Proofs.YtpdhbpdfldfnhaaGreatDoor
namespace Rows

/-- THE TIED CARD OF 'chirographlaw14.RealmMatches'. -/
def realmMatchesCard : Claim7 := { stood := { row := realmMatchesRow, standIns := [], harness := (true, "7ff5b71466b76f79b4cff6af148f70fd4d5f243d9e967b2352ce8ffb643ae7ae"), looks := false }, kinds := [], alts := [], laidByText := true, laidKinds := [.data, .data, .data, .data, .pinned], laidTests := true, laidLooks := .later }
def RealmMatchesCardSaid : Prop := Claim7.holds Tryz.pinned (.plain (OpenSpec.ofChange realmMatchesSpec)) realmMatchesCard

/-- THE SECOND FORM's CARD OF 'chirographlaw14.RealmMatches'. -/
def realmMatchesUptoCard : Claim7 := { stood := { row := realmMatchesUptoRow, standIns := [], harness := (true, "7ff5b71466b76f79b4cff6af148f70fd4d5f243d9e967b2352ce8ffb643ae7ae"), looks := false }, kinds := [], alts := [], laidByText := true, laidKinds := [.data, .data, .data, .data, .pinned], laidTests := true, laidLooks := .later }
def RealmMatchesUptoCardSaid : Prop := Claim7.holds Tryz.pinned (.plain (OpenSpec.upto realmMatchesSpec)) realmMatchesUptoCard
end Rows
end Go.Proofs.YtpdhbpdfldfnhaaGreatDoor
