/-
  DERIVED. GIVEN WITH THE SEED: THE CARDS: each row of YtgeoibgohlpfjaaDoorRows.lean that lists a variable, with what it lists TIED to the program's text (the seventh form; the later family's looks); each row that meets fmt, with fmt's text TOLD by the authors' own Lean function (tested against real Go, not proved from fmt's source: count such statements apart). THE CARD IS WHAT COUNTS. Prove the row's statement (the work); the ties are given (YtgeoibgohlpfjaaDoorTie.lean); close each card by the builder's one call (the guide's Derived/Test/ToyasCard.lean, 'card_holds'). Laid BY PROGRAM, IN A SANDBOX (cutbox-door.mjs). By AI agents, Wed Nov 11 2026. No macro, syntax, notation, axiom, sorry.
-/
import Derived.Test.YtgeoibgohlpfjaaDoorRows
import GoSem.ClaimSeven
namespace Go.Proofs.YtgeoibgohlpfjaaDoor
namespace Rows

/-- THE TIED CARD OF 'chirographlaw15.PolicyStarts'. -/
def policyStartsCard : Claim7 := { stood := { row := policyStartsRow, standIns := [], harness := (true, "4dced24384552d41e3febbbd0cea6990ab4803b0837205e6de15b8ac88decf8e"), looks := false }, kinds := [], alts := [], laidByText := true, laidKinds := [.data, .data, .data, .data, .pinned], laidTests := true, laidLooks := .later }
def PolicyStartsCardSaid : Prop := Claim7.holds Tryd.pinned (.plain (OpenSpec.ofChange policyStartsSpec)) policyStartsCard

/-- THE TIED CARD OF 'chirographlaw15.PolicySteps'. -/
def policyStepsCard : Claim7 := { stood := { row := policyStepsRow, standIns := [], harness := (true, "4dced24384552d41e3febbbd0cea6990ab4803b0837205e6de15b8ac88decf8e"), looks := false }, kinds := [], alts := [], laidByText := true, laidKinds := [.data, .data, .data, .data, .pinned], laidTests := true, laidLooks := .later }
def PolicyStepsCardSaid : Prop := Claim7.holds Tryd.pinned (.plain (OpenSpec.ofChange policyStepsSpec)) policyStepsCard

/-- THE TIED CARD OF 'chirographlaw15.PolicyEnds'. -/
def policyEndsCard : Claim7 := { stood := { row := policyEndsRow, standIns := [], harness := (true, "4dced24384552d41e3febbbd0cea6990ab4803b0837205e6de15b8ac88decf8e"), looks := false }, kinds := [], alts := [], laidByText := true, laidKinds := [.data, .data, .data, .data, .pinned], laidTests := true, laidLooks := .later }
def PolicyEndsCardSaid : Prop := Claim7.holds Tryd.pinned (.plain (OpenSpec.ofChange policyEndsSpec)) policyEndsCard

/-- THE TIED CARD OF 'chirographlaw15.PolicyRuns'. -/
def policyRunsCard : Claim7 := { stood := { row := policyRunsRow, standIns := [], harness := (true, "4dced24384552d41e3febbbd0cea6990ab4803b0837205e6de15b8ac88decf8e"), looks := false }, kinds := [], alts := [], laidByText := true, laidKinds := [.data, .data, .data, .data, .pinned], laidTests := true, laidLooks := .later }
def PolicyRunsCardSaid : Prop := Claim7.holds Tryd.pinned (.plain (OpenSpec.ofChange policyRunsSpec)) policyRunsCard

/-- THE TIED CARD OF 'chirographlaw15.PolicyOrders'. -/
def policyOrdersCard : Claim7 := { stood := { row := policyOrdersRow, standIns := [], harness := (true, "4dced24384552d41e3febbbd0cea6990ab4803b0837205e6de15b8ac88decf8e"), looks := false }, kinds := [], alts := [], laidByText := true, laidKinds := [.data, .data, .data, .data, .pinned], laidTests := true, laidLooks := .later }
def PolicyOrdersCardSaid : Prop := Claim7.holds Tryd.pinned (.plain (OpenSpec.ofChange policyOrdersSpec)) policyOrdersCard

/-- THE TIED CARD OF 'chirographlaw15.PolicyAsks'. -/
def policyAsksCard : Claim7 := { stood := { row := policyAsksRow, standIns := [], harness := (true, "4dced24384552d41e3febbbd0cea6990ab4803b0837205e6de15b8ac88decf8e"), looks := false }, kinds := [], alts := [], laidByText := true, laidKinds := [.data, .data, .data, .data, .pinned], laidTests := true, laidLooks := .later }
def PolicyAsksCardSaid : Prop := Claim7.holds Tryd.pinned (.plain (OpenSpec.ofChange policyAsksSpec)) policyAsksCard

/-- THE TIED CARD OF 'chirographlaw15.PolicyPlain'. -/
def policyPlainCard : Claim7 := { stood := { row := policyPlainRow, standIns := [], harness := (true, "4dced24384552d41e3febbbd0cea6990ab4803b0837205e6de15b8ac88decf8e"), looks := false }, kinds := [], alts := [], laidByText := true, laidKinds := [.data, .data, .data, .data, .pinned], laidTests := true, laidLooks := .later }
def PolicyPlainCardSaid : Prop := Claim7.holds Tryd.pinned (.plain (OpenSpec.ofChange policyPlainSpec)) policyPlainCard

/-- THE SECOND FORM's CARD OF 'chirographlaw15.PolicyStarts'. -/
def policyStartsUptoCard : Claim7 := { stood := { row := policyStartsUptoRow, standIns := [], harness := (true, "4dced24384552d41e3febbbd0cea6990ab4803b0837205e6de15b8ac88decf8e"), looks := false }, kinds := [], alts := [], laidByText := true, laidKinds := [.data, .data, .data, .data, .pinned], laidTests := true, laidLooks := .later }
def PolicyStartsUptoCardSaid : Prop := Claim7.holds Tryd.pinned (.plain (OpenSpec.upto policyStartsSpec)) policyStartsUptoCard

/-- THE SECOND FORM's CARD OF 'chirographlaw15.PolicySteps'. -/
def policyStepsUptoCard : Claim7 := { stood := { row := policyStepsUptoRow, standIns := [], harness := (true, "4dced24384552d41e3febbbd0cea6990ab4803b0837205e6de15b8ac88decf8e"), looks := false }, kinds := [], alts := [], laidByText := true, laidKinds := [.data, .data, .data, .data, .pinned], laidTests := true, laidLooks := .later }
def PolicyStepsUptoCardSaid : Prop := Claim7.holds Tryd.pinned (.plain (OpenSpec.upto policyStepsSpec)) policyStepsUptoCard

/-- THE SECOND FORM's CARD OF 'chirographlaw15.PolicyEnds'. -/
def policyEndsUptoCard : Claim7 := { stood := { row := policyEndsUptoRow, standIns := [], harness := (true, "4dced24384552d41e3febbbd0cea6990ab4803b0837205e6de15b8ac88decf8e"), looks := false }, kinds := [], alts := [], laidByText := true, laidKinds := [.data, .data, .data, .data, .pinned], laidTests := true, laidLooks := .later }
def PolicyEndsUptoCardSaid : Prop := Claim7.holds Tryd.pinned (.plain (OpenSpec.upto policyEndsSpec)) policyEndsUptoCard

/-- THE SECOND FORM's CARD OF 'chirographlaw15.PolicyRuns'. -/
def policyRunsUptoCard : Claim7 := { stood := { row := policyRunsUptoRow, standIns := [], harness := (true, "4dced24384552d41e3febbbd0cea6990ab4803b0837205e6de15b8ac88decf8e"), looks := false }, kinds := [], alts := [], laidByText := true, laidKinds := [.data, .data, .data, .data, .pinned], laidTests := true, laidLooks := .later }
def PolicyRunsUptoCardSaid : Prop := Claim7.holds Tryd.pinned (.plain (OpenSpec.upto policyRunsSpec)) policyRunsUptoCard

/-- THE SECOND FORM's CARD OF 'chirographlaw15.PolicyOrders'. -/
def policyOrdersUptoCard : Claim7 := { stood := { row := policyOrdersUptoRow, standIns := [], harness := (true, "4dced24384552d41e3febbbd0cea6990ab4803b0837205e6de15b8ac88decf8e"), looks := false }, kinds := [], alts := [], laidByText := true, laidKinds := [.data, .data, .data, .data, .pinned], laidTests := true, laidLooks := .later }
def PolicyOrdersUptoCardSaid : Prop := Claim7.holds Tryd.pinned (.plain (OpenSpec.upto policyOrdersSpec)) policyOrdersUptoCard

/-- THE SECOND FORM's CARD OF 'chirographlaw15.PolicyAsks'. -/
def policyAsksUptoCard : Claim7 := { stood := { row := policyAsksUptoRow, standIns := [], harness := (true, "4dced24384552d41e3febbbd0cea6990ab4803b0837205e6de15b8ac88decf8e"), looks := false }, kinds := [], alts := [], laidByText := true, laidKinds := [.data, .data, .data, .data, .pinned], laidTests := true, laidLooks := .later }
def PolicyAsksUptoCardSaid : Prop := Claim7.holds Tryd.pinned (.plain (OpenSpec.upto policyAsksSpec)) policyAsksUptoCard

/-- THE SECOND FORM's CARD OF 'chirographlaw15.PolicyPlain'. -/
def policyPlainUptoCard : Claim7 := { stood := { row := policyPlainUptoRow, standIns := [], harness := (true, "4dced24384552d41e3febbbd0cea6990ab4803b0837205e6de15b8ac88decf8e"), looks := false }, kinds := [], alts := [], laidByText := true, laidKinds := [.data, .data, .data, .data, .pinned], laidTests := true, laidLooks := .later }
def PolicyPlainUptoCardSaid : Prop := Claim7.holds Tryd.pinned (.plain (OpenSpec.upto policyPlainSpec)) policyPlainUptoCard
end Rows
end Go.Proofs.YtgeoibgohlpfjaaDoor
