/-
  DERIVED. GIVEN WITH THE SEED: THE CARDS: each row of YthnfaipbkocljaaDoorRows.lean that lists a variable, with what it lists TIED to the program's text (the seventh form; the later family's looks); each row that meets fmt, with fmt's text TOLD by the authors' own Lean function (tested against real Go, not proved from fmt's source: count such statements apart). THE CARD IS WHAT COUNTS. Prove the row's statement (the work); the ties are given (YthnfaipbkocljaaDoorTie.lean); close each card by the builder's one call (the guide's Derived/Test/ToyasCard.lean, 'card_holds'). Laid BY PROGRAM, IN A SANDBOX (cutbox-door.mjs). By AI agents, Wed Nov 11 2026. No macro, syntax, notation, axiom, sorry.
-/
import Derived.Test.YthnfaipbkocljaaDoorRows
import GoSem.ClaimSeven
namespace Go.Proofs.YthnfaipbkocljaaDoor
namespace Rows

/-- THE TIED CARD OF 'tinsellaw22.ArgsBatches'. -/
def argsBatchesCard : Claim7 := { stood := { row := argsBatchesRow, standIns := [], harness := (true, "da66a3c59f25af6e13d288fdbf168d13c414efdd29a6d32da3a187352f214cf4"), looks := false }, kinds := [], alts := [], laidByText := true, laidKinds := [.data, .pinned], laidTests := true, laidLooks := .later }
def ArgsBatchesCardSaid : Prop := Claim7.holds Tryd.pinned (.plain (OpenSpec.ofChange argsBatchesSpec)) argsBatchesCard

/-- THE TIED CARD OF 'tinsellaw22.ArgsReplaces'. -/
def argsReplacesCard : Claim7 := { stood := { row := argsReplacesRow, standIns := [], harness := (true, "da66a3c59f25af6e13d288fdbf168d13c414efdd29a6d32da3a187352f214cf4"), looks := false }, kinds := [], alts := [], laidByText := true, laidKinds := [.data, .pinned], laidTests := true, laidLooks := .later }
def ArgsReplacesCardSaid : Prop := Claim7.holds Tryd.pinned (.plain (OpenSpec.ofChange argsReplacesSpec)) argsReplacesCard

/-- THE TIED CARD OF 'tinsellaw22.ArgsWhole'. -/
def argsWholeCard : Claim7 := { stood := { row := argsWholeRow, standIns := [], harness := (true, "da66a3c59f25af6e13d288fdbf168d13c414efdd29a6d32da3a187352f214cf4"), looks := false }, kinds := [], alts := [], laidByText := true, laidKinds := [.data, .pinned], laidTests := true, laidLooks := .later }
def ArgsWholeCardSaid : Prop := Claim7.holds Tryd.pinned (.plain (OpenSpec.ofChange argsWholeSpec)) argsWholeCard

/-- THE TIED CARD OF 'tinsellaw22.ArgsEnvs'. -/
def argsEnvsCard : Claim7 := { stood := { row := argsEnvsRow, standIns := [], harness := (true, "da66a3c59f25af6e13d288fdbf168d13c414efdd29a6d32da3a187352f214cf4"), looks := false }, kinds := [], alts := [], laidByText := true, laidKinds := [.data, .pinned], laidTests := true, laidLooks := .later }
def ArgsEnvsCardSaid : Prop := Claim7.holds Tryd.pinned (.plain (OpenSpec.ofChange argsEnvsSpec)) argsEnvsCard

/-- THE TIED CARD OF 'tinsellaw22.ArgsNone'. -/
def argsNoneCard : Claim7 := { stood := { row := argsNoneRow, standIns := [], harness := (true, "da66a3c59f25af6e13d288fdbf168d13c414efdd29a6d32da3a187352f214cf4"), looks := false }, kinds := [], alts := [], laidByText := true, laidKinds := [.data, .pinned], laidTests := true, laidLooks := .later }
def ArgsNoneCardSaid : Prop := Claim7.holds Tryd.pinned (.plain (OpenSpec.ofChange argsNoneSpec)) argsNoneCard

/-- THE SECOND FORM's CARD OF 'tinsellaw22.ArgsBatches'. -/
def argsBatchesUptoCard : Claim7 := { stood := { row := argsBatchesUptoRow, standIns := [], harness := (true, "da66a3c59f25af6e13d288fdbf168d13c414efdd29a6d32da3a187352f214cf4"), looks := false }, kinds := [], alts := [], laidByText := true, laidKinds := [.data, .pinned], laidTests := true, laidLooks := .later }
def ArgsBatchesUptoCardSaid : Prop := Claim7.holds Tryd.pinned (.plain (OpenSpec.upto argsBatchesSpec)) argsBatchesUptoCard

/-- THE SECOND FORM's CARD OF 'tinsellaw22.ArgsReplaces'. -/
def argsReplacesUptoCard : Claim7 := { stood := { row := argsReplacesUptoRow, standIns := [], harness := (true, "da66a3c59f25af6e13d288fdbf168d13c414efdd29a6d32da3a187352f214cf4"), looks := false }, kinds := [], alts := [], laidByText := true, laidKinds := [.data, .pinned], laidTests := true, laidLooks := .later }
def ArgsReplacesUptoCardSaid : Prop := Claim7.holds Tryd.pinned (.plain (OpenSpec.upto argsReplacesSpec)) argsReplacesUptoCard

/-- THE SECOND FORM's CARD OF 'tinsellaw22.ArgsWhole'. -/
def argsWholeUptoCard : Claim7 := { stood := { row := argsWholeUptoRow, standIns := [], harness := (true, "da66a3c59f25af6e13d288fdbf168d13c414efdd29a6d32da3a187352f214cf4"), looks := false }, kinds := [], alts := [], laidByText := true, laidKinds := [.data, .pinned], laidTests := true, laidLooks := .later }
def ArgsWholeUptoCardSaid : Prop := Claim7.holds Tryd.pinned (.plain (OpenSpec.upto argsWholeSpec)) argsWholeUptoCard

/-- THE SECOND FORM's CARD OF 'tinsellaw22.ArgsEnvs'. -/
def argsEnvsUptoCard : Claim7 := { stood := { row := argsEnvsUptoRow, standIns := [], harness := (true, "da66a3c59f25af6e13d288fdbf168d13c414efdd29a6d32da3a187352f214cf4"), looks := false }, kinds := [], alts := [], laidByText := true, laidKinds := [.data, .pinned], laidTests := true, laidLooks := .later }
def ArgsEnvsUptoCardSaid : Prop := Claim7.holds Tryd.pinned (.plain (OpenSpec.upto argsEnvsSpec)) argsEnvsUptoCard

/-- THE SECOND FORM's CARD OF 'tinsellaw22.ArgsNone'. -/
def argsNoneUptoCard : Claim7 := { stood := { row := argsNoneUptoRow, standIns := [], harness := (true, "da66a3c59f25af6e13d288fdbf168d13c414efdd29a6d32da3a187352f214cf4"), looks := false }, kinds := [], alts := [], laidByText := true, laidKinds := [.data, .pinned], laidTests := true, laidLooks := .later }
def ArgsNoneUptoCardSaid : Prop := Claim7.holds Tryd.pinned (.plain (OpenSpec.upto argsNoneSpec)) argsNoneUptoCard
end Rows
end Go.Proofs.YthnfaipbkocljaaDoor
