/-
  DERIVED. GIVEN WITH THE SEED: THE CARDS: each row of YtmbmcnklgoadiaaDoorRows.lean that lists a variable, with what it lists TIED to the program's text (the seventh form; the later family's looks); each row that meets fmt, with fmt's text TOLD by the authors' own Lean function (tested against real Go, not proved from fmt's source: count such statements apart). THE CARD IS WHAT COUNTS. Prove the row's statement (the work); the ties are given (YtmbmcnklgoadiaaDoorTie.lean); close each card by the builder's one call (the guide's Derived/Test/ToyasCard.lean, 'card_holds'). Laid BY PROGRAM, IN A SANDBOX (cutbox-door.mjs). By AI agents, Wed Nov 11 2026. No macro, syntax, notation, axiom, sorry.
-/
import Derived.Test.YtmbmcnklgoadiaaDoorRows
import GoSem.ClaimSeven
namespace Go.Proofs.YtmbmcnklgoadiaaDoor
namespace Rows

/-- THE TIED CARD OF 'vestrylaw01.NumOps'. -/
def numOpsCard : Claim7 := { stood := { row := numOpsRow, standIns := [], harness := (true, "42cd76045c3a9045981ca3031dd15c16aeb67fad0deba7273f8e2d27b6683e42"), looks := true }, kinds := [], alts := [], laidByText := true, laidKinds := [.data, .data, .data], laidTests := true, laidLooks := .later }
def NumOpsCardSaid : Prop := Claim7.holds Tryd.pinned (.plain (OpenSpec.ofChange numOpsSpec)) numOpsCard

/-- THE TIED CARD OF 'vestrylaw01.NumRing'. -/
def numRingCard : Claim7 := { stood := { row := numRingRow, standIns := [], harness := (true, "42cd76045c3a9045981ca3031dd15c16aeb67fad0deba7273f8e2d27b6683e42"), looks := true }, kinds := [], alts := [], laidByText := true, laidKinds := [.data, .data, .data], laidTests := true, laidLooks := .later }
def NumRingCardSaid : Prop := Claim7.holds Tryd.pinned (.plain (OpenSpec.ofChange numRingSpec)) numRingCard

/-- THE TIED CARD OF 'vestrylaw01.NumRest'. -/
def numRestCard : Claim7 := { stood := { row := numRestRow, standIns := [], harness := (true, "42cd76045c3a9045981ca3031dd15c16aeb67fad0deba7273f8e2d27b6683e42"), looks := true }, kinds := [], alts := [], laidByText := true, laidKinds := [.data, .data, .data], laidTests := true, laidLooks := .later }
def NumRestCardSaid : Prop := Claim7.holds Tryd.pinned (.plain (OpenSpec.ofChange numRestSpec)) numRestCard

/-- THE TIED CARD OF 'vestrylaw01.NumSigns'. -/
def numSignsCard : Claim7 := { stood := { row := numSignsRow, standIns := [], harness := (true, "42cd76045c3a9045981ca3031dd15c16aeb67fad0deba7273f8e2d27b6683e42"), looks := true }, kinds := [], alts := [], laidByText := true, laidKinds := [.data, .data, .data], laidTests := true, laidLooks := .later }
def NumSignsCardSaid : Prop := Claim7.holds Tryd.pinned (.plain (OpenSpec.ofChange numSignsSpec)) numSignsCard

/-- THE TIED CARD OF 'vestrylaw01.NumTexts'. -/
def numTextsCard : Claim7 := { stood := { row := numTextsRow, standIns := [], harness := (true, "42cd76045c3a9045981ca3031dd15c16aeb67fad0deba7273f8e2d27b6683e42"), looks := true }, kinds := [], alts := [], laidByText := true, laidKinds := [.data, .data, .data, .data, .sentinel, .sentinel, .pinned], laidTests := true, laidLooks := .later }
def NumTextsCardSaid : Prop := Claim7.holds Tryd.pinned (.plain (OpenSpec.ofChange numTextsSpec)) numTextsCard

/-- THE TIED CARD OF 'vestrylaw01.NumBack'. -/
def numBackCard : Claim7 := { stood := { row := numBackRow, standIns := [], harness := (true, "42cd76045c3a9045981ca3031dd15c16aeb67fad0deba7273f8e2d27b6683e42"), looks := true }, kinds := [], alts := [], laidByText := true, laidKinds := [.data, .data, .data, .data, .sentinel, .sentinel, .pinned], laidTests := true, laidLooks := .later }
def NumBackCardSaid : Prop := Claim7.holds Tryd.pinned (.plain (OpenSpec.ofChange numBackSpec)) numBackCard

/-- THE SECOND FORM's CARD OF 'vestrylaw01.NumOps'. -/
def numOpsUptoCard : Claim7 := { stood := { row := numOpsUptoRow, standIns := [], harness := (true, "42cd76045c3a9045981ca3031dd15c16aeb67fad0deba7273f8e2d27b6683e42"), looks := true }, kinds := [], alts := [], laidByText := true, laidKinds := [.data, .data, .data], laidTests := true, laidLooks := .later }
def NumOpsUptoCardSaid : Prop := Claim7.holds Tryd.pinned (.plain (OpenSpec.upto numOpsSpec)) numOpsUptoCard

/-- THE SECOND FORM's CARD OF 'vestrylaw01.NumRing'. -/
def numRingUptoCard : Claim7 := { stood := { row := numRingUptoRow, standIns := [], harness := (true, "42cd76045c3a9045981ca3031dd15c16aeb67fad0deba7273f8e2d27b6683e42"), looks := true }, kinds := [], alts := [], laidByText := true, laidKinds := [.data, .data, .data], laidTests := true, laidLooks := .later }
def NumRingUptoCardSaid : Prop := Claim7.holds Tryd.pinned (.plain (OpenSpec.upto numRingSpec)) numRingUptoCard

/-- THE SECOND FORM's CARD OF 'vestrylaw01.NumRest'. -/
def numRestUptoCard : Claim7 := { stood := { row := numRestUptoRow, standIns := [], harness := (true, "42cd76045c3a9045981ca3031dd15c16aeb67fad0deba7273f8e2d27b6683e42"), looks := true }, kinds := [], alts := [], laidByText := true, laidKinds := [.data, .data, .data], laidTests := true, laidLooks := .later }
def NumRestUptoCardSaid : Prop := Claim7.holds Tryd.pinned (.plain (OpenSpec.upto numRestSpec)) numRestUptoCard

/-- THE SECOND FORM's CARD OF 'vestrylaw01.NumSigns'. -/
def numSignsUptoCard : Claim7 := { stood := { row := numSignsUptoRow, standIns := [], harness := (true, "42cd76045c3a9045981ca3031dd15c16aeb67fad0deba7273f8e2d27b6683e42"), looks := true }, kinds := [], alts := [], laidByText := true, laidKinds := [.data, .data, .data], laidTests := true, laidLooks := .later }
def NumSignsUptoCardSaid : Prop := Claim7.holds Tryd.pinned (.plain (OpenSpec.upto numSignsSpec)) numSignsUptoCard

/-- THE SECOND FORM's CARD OF 'vestrylaw01.NumTexts'. -/
def numTextsUptoCard : Claim7 := { stood := { row := numTextsUptoRow, standIns := [], harness := (true, "42cd76045c3a9045981ca3031dd15c16aeb67fad0deba7273f8e2d27b6683e42"), looks := true }, kinds := [], alts := [], laidByText := true, laidKinds := [.data, .data, .data, .data, .sentinel, .sentinel, .pinned], laidTests := true, laidLooks := .later }
def NumTextsUptoCardSaid : Prop := Claim7.holds Tryd.pinned (.plain (OpenSpec.upto numTextsSpec)) numTextsUptoCard

/-- THE SECOND FORM's CARD OF 'vestrylaw01.NumBack'. -/
def numBackUptoCard : Claim7 := { stood := { row := numBackUptoRow, standIns := [], harness := (true, "42cd76045c3a9045981ca3031dd15c16aeb67fad0deba7273f8e2d27b6683e42"), looks := true }, kinds := [], alts := [], laidByText := true, laidKinds := [.data, .data, .data, .data, .sentinel, .sentinel, .pinned], laidTests := true, laidLooks := .later }
def NumBackUptoCardSaid : Prop := Claim7.holds Tryd.pinned (.plain (OpenSpec.upto numBackSpec)) numBackUptoCard
end Rows
end Go.Proofs.YtmbmcnklgoadiaaDoor
