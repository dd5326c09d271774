/-
  DERIVED. GIVEN WITH THE SEED: THE CARDS: each row of YtajafgcndalieaaDoorRows.lean that lists a variable, with what it lists TIED to the program's text (the seventh form; the later family's looks); each row that meets fmt, with fmt's text TOLD by the authors' own Lean function (tested against real Go, not proved from fmt's source: count such statements apart). THE CARD IS WHAT COUNTS. Prove the row's statement (the work); the ties are given (YtajafgcndalieaaDoorTie.lean); close each card by the builder's one call (the guide's Derived/Test/ToyasCard.lean, 'card_holds'). Laid BY PROGRAM, IN A SANDBOX (cutbox-door.mjs). By AI agents, Wed Nov 11 2026. No macro, syntax, notation, axiom, sorry.
-/
import Derived.Test.YtajafgcndalieaaDoorRows
import GoSem.ClaimSeven
namespace Go.Proofs.YtajafgcndalieaaDoor
namespace Rows

/-- THE TIED CARD OF 'tinsellaw03.PathSplits'. -/
def pathSplitsCard : Claim7 := { stood := { row := pathSplitsRow, standIns := [], harness := (true, "baab6fabf129a79f3fc8bfb1a9013d058baa36f1b2370ab1d304af56004a7c59"), looks := false }, kinds := [], alts := [], laidByText := true, laidKinds := [.data, .pinned], laidTests := true, laidLooks := .later }
def PathSplitsCardSaid : Prop := Claim7.holds Tryd.pinned (.plain (OpenSpec.ofChange pathSplitsSpec)) pathSplitsCard

/-- THE TIED CARD OF 'tinsellaw03.PathCleans'. -/
def pathCleansCard : Claim7 := { stood := { row := pathCleansRow, standIns := [], harness := (true, "baab6fabf129a79f3fc8bfb1a9013d058baa36f1b2370ab1d304af56004a7c59"), looks := false }, kinds := [], alts := [], laidByText := true, laidKinds := [.data, .pinned], laidTests := true, laidLooks := .later }
def PathCleansCardSaid : Prop := Claim7.holds Tryd.pinned (.plain (OpenSpec.ofChange pathCleansSpec)) pathCleansCard

/-- THE TIED CARD OF 'tinsellaw03.PathRelates'. -/
def pathRelatesCard : Claim7 := { stood := { row := pathRelatesRow, standIns := [], harness := (true, "baab6fabf129a79f3fc8bfb1a9013d058baa36f1b2370ab1d304af56004a7c59"), looks := false }, kinds := [], alts := [], laidByText := true, laidKinds := [.data, .pinned], laidTests := true, laidLooks := .later }
def PathRelatesCardSaid : Prop := Claim7.holds Tryd.pinned (.plain (OpenSpec.ofChange pathRelatesSpec)) pathRelatesCard

/-- THE TIED CARD OF 'tinsellaw03.PathEnds'. -/
def pathEndsCard : Claim7 := { stood := { row := pathEndsRow, standIns := [], harness := (true, "baab6fabf129a79f3fc8bfb1a9013d058baa36f1b2370ab1d304af56004a7c59"), looks := false }, kinds := [], alts := [], laidByText := true, laidKinds := [.data, .pinned], laidTests := true, laidLooks := .later }
def PathEndsCardSaid : Prop := Claim7.holds Tryd.pinned (.plain (OpenSpec.ofChange pathEndsSpec)) pathEndsCard

/-- THE SECOND FORM's CARD OF 'tinsellaw03.PathSplits'. -/
def pathSplitsUptoCard : Claim7 := { stood := { row := pathSplitsUptoRow, standIns := [], harness := (true, "baab6fabf129a79f3fc8bfb1a9013d058baa36f1b2370ab1d304af56004a7c59"), looks := false }, kinds := [], alts := [], laidByText := true, laidKinds := [.data, .pinned], laidTests := true, laidLooks := .later }
def PathSplitsUptoCardSaid : Prop := Claim7.holds Tryd.pinned (.plain (OpenSpec.upto pathSplitsSpec)) pathSplitsUptoCard

/-- THE SECOND FORM's CARD OF 'tinsellaw03.PathCleans'. -/
def pathCleansUptoCard : Claim7 := { stood := { row := pathCleansUptoRow, standIns := [], harness := (true, "baab6fabf129a79f3fc8bfb1a9013d058baa36f1b2370ab1d304af56004a7c59"), looks := false }, kinds := [], alts := [], laidByText := true, laidKinds := [.data, .pinned], laidTests := true, laidLooks := .later }
def PathCleansUptoCardSaid : Prop := Claim7.holds Tryd.pinned (.plain (OpenSpec.upto pathCleansSpec)) pathCleansUptoCard

/-- THE SECOND FORM's CARD OF 'tinsellaw03.PathRelates'. -/
def pathRelatesUptoCard : Claim7 := { stood := { row := pathRelatesUptoRow, standIns := [], harness := (true, "baab6fabf129a79f3fc8bfb1a9013d058baa36f1b2370ab1d304af56004a7c59"), looks := false }, kinds := [], alts := [], laidByText := true, laidKinds := [.data, .pinned], laidTests := true, laidLooks := .later }
def PathRelatesUptoCardSaid : Prop := Claim7.holds Tryd.pinned (.plain (OpenSpec.upto pathRelatesSpec)) pathRelatesUptoCard

/-- THE SECOND FORM's CARD OF 'tinsellaw03.PathEnds'. -/
def pathEndsUptoCard : Claim7 := { stood := { row := pathEndsUptoRow, standIns := [], harness := (true, "baab6fabf129a79f3fc8bfb1a9013d058baa36f1b2370ab1d304af56004a7c59"), looks := false }, kinds := [], alts := [], laidByText := true, laidKinds := [.data, .pinned], laidTests := true, laidLooks := .later }
def PathEndsUptoCardSaid : Prop := Claim7.holds Tryd.pinned (.plain (OpenSpec.upto pathEndsSpec)) pathEndsUptoCard
end Rows
end Go.Proofs.YtajafgcndalieaaDoor
