/-
  DERIVED. GIVEN WITH THE SEED: THE CARDS: each row of YtidododdhnbpkaaGreatDoorRows.lean that lists a variable, with what it lists TIED to the program's text (the seventh form; the later family's looks); each row that meets fmt, with fmt's text TOLD by the authors' own Lean function (tested against real Go, not proved from fmt's source: count such statements apart). THE CARD IS WHAT COUNTS. Prove the row's statement (the work); the ties are given (YtidododdhnbpkaaGreatDoorTie.lean); close each card by the builder's one call (the guide's Derived/Test/ToyasCard.lean, 'card_holds'). Laid BY PROGRAM, IN A SANDBOX (cutbox-door.mjs). By AI agents, Wed Nov 11 2026. No macro, syntax, notation, axiom, sorry.
-/
import Derived.Test.YtidododdhnbpkaaGreatDoorRows
import GoSem.ClaimSeven
namespace Go.Proofs.YtidododdhnbpkaaGreatDoor
namespace Rows

/-- THE TIED CARD OF 'laws.FnSwapped'. -/
def fnSwappedCard : Claim7 := { stood := { row := fnSwappedRow, standIns := [], harness := (true, "74cf90b4ad460fe5f1d4328f59bba7e2ea04c57609d1e90c882692616b1be2bf"), looks := true }, kinds := [], alts := [], laidByText := true, laidKinds := [.data, .data, .data, .sentinel, .sentinel], laidTests := true, laidLooks := .later }
def FnSwappedCardSaid : Prop := Claim7.holds Tryz.pinned (.plain (OpenSpec.ofChange fnSwappedSpec)) fnSwappedCard

/-- THE TIED CARD OF 'laws.FnGsubs'. -/
def fnGsubsCard : Claim7 := { stood := { row := fnGsubsRow, standIns := [], harness := (true, "74cf90b4ad460fe5f1d4328f59bba7e2ea04c57609d1e90c882692616b1be2bf"), looks := true }, kinds := [], alts := [], laidByText := true, laidKinds := [.data, .data, .data, .sentinel, .sentinel], laidTests := true, laidLooks := .later }
def FnGsubsCardSaid : Prop := Claim7.holds Tryz.pinned (.plain (OpenSpec.ofChange fnGsubsSpec)) fnGsubsCard

/-- THE TIED CARD OF 'laws.FnMatched'. -/
def fnMatchedCard : Claim7 := { stood := { row := fnMatchedRow, standIns := [], harness := (true, "74cf90b4ad460fe5f1d4328f59bba7e2ea04c57609d1e90c882692616b1be2bf"), looks := true }, kinds := [], alts := [], laidByText := true, laidKinds := [.data, .data, .data, .sentinel, .sentinel], laidTests := true, laidLooks := .later }
def FnMatchedCardSaid : Prop := Claim7.holds Tryz.pinned (.plain (OpenSpec.ofChange fnMatchedSpec)) fnMatchedCard

/-- THE SECOND FORM's CARD OF 'laws.FnSwapped'. -/
def fnSwappedUptoCard : Claim7 := { stood := { row := fnSwappedUptoRow, standIns := [], harness := (true, "74cf90b4ad460fe5f1d4328f59bba7e2ea04c57609d1e90c882692616b1be2bf"), looks := true }, kinds := [], alts := [], laidByText := true, laidKinds := [.data, .data, .data, .sentinel, .sentinel], laidTests := true, laidLooks := .later }
def FnSwappedUptoCardSaid : Prop := Claim7.holds Tryz.pinned (.plain (OpenSpec.upto fnSwappedSpec)) fnSwappedUptoCard

/-- THE SECOND FORM's CARD OF 'laws.FnGsubs'. -/
def fnGsubsUptoCard : Claim7 := { stood := { row := fnGsubsUptoRow, standIns := [], harness := (true, "74cf90b4ad460fe5f1d4328f59bba7e2ea04c57609d1e90c882692616b1be2bf"), looks := true }, kinds := [], alts := [], laidByText := true, laidKinds := [.data, .data, .data, .sentinel, .sentinel], laidTests := true, laidLooks := .later }
def FnGsubsUptoCardSaid : Prop := Claim7.holds Tryz.pinned (.plain (OpenSpec.upto fnGsubsSpec)) fnGsubsUptoCard

/-- THE SECOND FORM's CARD OF 'laws.FnMatched'. -/
def fnMatchedUptoCard : Claim7 := { stood := { row := fnMatchedUptoRow, standIns := [], harness := (true, "74cf90b4ad460fe5f1d4328f59bba7e2ea04c57609d1e90c882692616b1be2bf"), looks := true }, kinds := [], alts := [], laidByText := true, laidKinds := [.data, .data, .data, .sentinel, .sentinel], laidTests := true, laidLooks := .later }
def FnMatchedUptoCardSaid : Prop := Claim7.holds Tryz.pinned (.plain (OpenSpec.upto fnMatchedSpec)) fnMatchedUptoCard
end Rows
end Go.Proofs.YtidododdhnbpkaaGreatDoor
