/-
  DERIVED. GIVEN WITH THE SEED: THE CARDS: each row of YtafndkgoeabehaaDoorRows.lean that lists a variable, with what it lists TIED to the program's text (the seventh form; the later family's looks); each row that meets fmt, with fmt's text TOLD by the authors' own Lean function (tested against real Go, not proved from fmt's source: count such statements apart). THE CARD IS WHAT COUNTS. Prove the row's statement (the work); the ties are given (YtafndkgoeabehaaDoorTie.lean); close each card by the builder's one call (the guide's Derived/Test/ToyasCard.lean, 'card_holds'). Laid BY PROGRAM, IN A SANDBOX (cutbox-door.mjs). By AI agents, Wed Nov 11 2026. No macro, syntax, notation, axiom, sorry.
-/
import Derived.Test.YtafndkgoeabehaaDoorRows
import GoSem.ClaimSeven
namespace Go.Proofs.YtafndkgoeabehaaDoor
namespace Rows

/-- THE TIED CARD OF 'vestrylaw08.LexRises'. -/
def lexRisesCard : Claim7 := { stood := { row := lexRisesRow, standIns := [], harness := (true, "c5cd150621b9f5368e3d900435f148ac5d52b4a06352e1a40def6bf3b5dbb377"), looks := true }, kinds := [], alts := [], laidByText := true, laidKinds := [.data, .data, .data, .data, .sentinel, .sentinel, .pinned], laidTests := true, laidLooks := .later }
def LexRisesCardSaid : Prop := Claim7.holds Tryd.pinned (.plain (OpenSpec.ofChange lexRisesSpec)) lexRisesCard

/-- THE TIED CARD OF 'vestrylaw08.LexGaps'. -/
def lexGapsCard : Claim7 := { stood := { row := lexGapsRow, standIns := [], harness := (true, "c5cd150621b9f5368e3d900435f148ac5d52b4a06352e1a40def6bf3b5dbb377"), looks := true }, kinds := [], alts := [], laidByText := true, laidKinds := [.data, .data, .data, .data, .sentinel, .sentinel, .pinned], laidTests := true, laidLooks := .later }
def LexGapsCardSaid : Prop := Claim7.holds Tryd.pinned (.plain (OpenSpec.ofChange lexGapsSpec)) lexGapsCard

/-- THE TIED CARD OF 'vestrylaw08.LexHeads'. -/
def lexHeadsCard : Claim7 := { stood := { row := lexHeadsRow, standIns := [], harness := (true, "c5cd150621b9f5368e3d900435f148ac5d52b4a06352e1a40def6bf3b5dbb377"), looks := true }, kinds := [], alts := [], laidByText := true, laidKinds := [.data, .data, .data, .data, .sentinel, .sentinel, .pinned], laidTests := true, laidLooks := .later }
def LexHeadsCardSaid : Prop := Claim7.holds Tryd.pinned (.plain (OpenSpec.ofChange lexHeadsSpec)) lexHeadsCard

/-- THE TIED CARD OF 'vestrylaw08.LexOwn'. -/
def lexOwnCard : Claim7 := { stood := { row := lexOwnRow, standIns := [], harness := (true, "c5cd150621b9f5368e3d900435f148ac5d52b4a06352e1a40def6bf3b5dbb377"), looks := true }, kinds := [], alts := [], laidByText := true, laidKinds := [.data, .data, .data, .data, .sentinel, .sentinel, .pinned], laidTests := true, laidLooks := .later }
def LexOwnCardSaid : Prop := Claim7.holds Tryd.pinned (.plain (OpenSpec.ofChange lexOwnSpec)) lexOwnCard

/-- THE TIED CARD OF 'vestrylaw08.LexNames'. -/
def lexNamesCard : Claim7 := { stood := { row := lexNamesRow, standIns := [], harness := (true, "c5cd150621b9f5368e3d900435f148ac5d52b4a06352e1a40def6bf3b5dbb377"), looks := true }, kinds := [], alts := [], laidByText := true, laidKinds := [.data, .data, .data, .data, .sentinel, .sentinel, .pinned], laidTests := true, laidLooks := .later }
def LexNamesCardSaid : Prop := Claim7.holds Tryd.pinned (.plain (OpenSpec.ofChange lexNamesSpec)) lexNamesCard

/-- THE SECOND FORM's CARD OF 'vestrylaw08.LexRises'. -/
def lexRisesUptoCard : Claim7 := { stood := { row := lexRisesUptoRow, standIns := [], harness := (true, "c5cd150621b9f5368e3d900435f148ac5d52b4a06352e1a40def6bf3b5dbb377"), looks := true }, kinds := [], alts := [], laidByText := true, laidKinds := [.data, .data, .data, .data, .sentinel, .sentinel, .pinned], laidTests := true, laidLooks := .later }
def LexRisesUptoCardSaid : Prop := Claim7.holds Tryd.pinned (.plain (OpenSpec.upto lexRisesSpec)) lexRisesUptoCard

/-- THE SECOND FORM's CARD OF 'vestrylaw08.LexGaps'. -/
def lexGapsUptoCard : Claim7 := { stood := { row := lexGapsUptoRow, standIns := [], harness := (true, "c5cd150621b9f5368e3d900435f148ac5d52b4a06352e1a40def6bf3b5dbb377"), looks := true }, kinds := [], alts := [], laidByText := true, laidKinds := [.data, .data, .data, .data, .sentinel, .sentinel, .pinned], laidTests := true, laidLooks := .later }
def LexGapsUptoCardSaid : Prop := Claim7.holds Tryd.pinned (.plain (OpenSpec.upto lexGapsSpec)) lexGapsUptoCard

/-- THE SECOND FORM's CARD OF 'vestrylaw08.LexHeads'. -/
def lexHeadsUptoCard : Claim7 := { stood := { row := lexHeadsUptoRow, standIns := [], harness := (true, "c5cd150621b9f5368e3d900435f148ac5d52b4a06352e1a40def6bf3b5dbb377"), looks := true }, kinds := [], alts := [], laidByText := true, laidKinds := [.data, .data, .data, .data, .sentinel, .sentinel, .pinned], laidTests := true, laidLooks := .later }
def LexHeadsUptoCardSaid : Prop := Claim7.holds Tryd.pinned (.plain (OpenSpec.upto lexHeadsSpec)) lexHeadsUptoCard

/-- THE SECOND FORM's CARD OF 'vestrylaw08.LexOwn'. -/
def lexOwnUptoCard : Claim7 := { stood := { row := lexOwnUptoRow, standIns := [], harness := (true, "c5cd150621b9f5368e3d900435f148ac5d52b4a06352e1a40def6bf3b5dbb377"), looks := true }, kinds := [], alts := [], laidByText := true, laidKinds := [.data, .data, .data, .data, .sentinel, .sentinel, .pinned], laidTests := true, laidLooks := .later }
def LexOwnUptoCardSaid : Prop := Claim7.holds Tryd.pinned (.plain (OpenSpec.upto lexOwnSpec)) lexOwnUptoCard

/-- THE SECOND FORM's CARD OF 'vestrylaw08.LexNames'. -/
def lexNamesUptoCard : Claim7 := { stood := { row := lexNamesUptoRow, standIns := [], harness := (true, "c5cd150621b9f5368e3d900435f148ac5d52b4a06352e1a40def6bf3b5dbb377"), looks := true }, kinds := [], alts := [], laidByText := true, laidKinds := [.data, .data, .data, .data, .sentinel, .sentinel, .pinned], laidTests := true, laidLooks := .later }
def LexNamesUptoCardSaid : Prop := Claim7.holds Tryd.pinned (.plain (OpenSpec.upto lexNamesSpec)) lexNamesUptoCard
end Rows
end Go.Proofs.YtafndkgoeabehaaDoor
