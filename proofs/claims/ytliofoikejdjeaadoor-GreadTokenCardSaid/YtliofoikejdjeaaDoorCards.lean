/-
  DERIVED. GIVEN WITH THE SEED: THE CARDS: each row of YtliofoikejdjeaaDoorRows.lean that lists a variable, with what it lists TIED to the program's text (the seventh form; the later family's looks); each row that meets fmt, with fmt's text TOLD by the authors' own Lean function (tested against real Go, not proved from fmt's source: count such statements apart). THE CARD IS WHAT COUNTS. Prove the row's statement (the work); the ties are given (YtliofoikejdjeaaDoorTie.lean); close each card by the builder's one call (the guide's Derived/Test/ToyasCard.lean, 'card_holds'). Laid BY PROGRAM, IN A SANDBOX (cutbox-door.mjs). By AI agents, Wed Nov 11 2026. No macro, syntax, notation, axiom, sorry.
-/
import Derived.Test.YtliofoikejdjeaaDoorRows
import GoSem.ClaimSeven
namespace Go.Proofs.YtliofoikejdjeaaDoor
namespace Rows

/-- THE TIED CARD OF 'conchlaw30.PosixTells'. -/
def posixTellsCard : Claim7 := { stood := { row := posixTellsRow, standIns := [], harness := (true, "0083dff0956b659dfa93ea8de3bcb10c9b51277814c94123ec1bf2224cc2d2c7"), looks := true }, kinds := [], alts := [], laidByText := true, laidKinds := [.data, .data], laidTests := true, laidLooks := .later }
def PosixTellsCardSaid : Prop := Claim7.holds Tryd.pinned (.plain (OpenSpec.ofChange posixTellsSpec)) posixTellsCard

/-- THE TIED CARD OF 'conchlaw30.PosixNames'. -/
def posixNamesCard : Claim7 := { stood := { row := posixNamesRow, standIns := [], harness := (true, "0083dff0956b659dfa93ea8de3bcb10c9b51277814c94123ec1bf2224cc2d2c7"), looks := true }, kinds := [], alts := [], laidByText := true, laidKinds := [.data, .data], laidTests := true, laidLooks := .later }
def PosixNamesCardSaid : Prop := Claim7.holds Tryd.pinned (.plain (OpenSpec.ofChange posixNamesSpec)) posixNamesCard

/-- THE TIED CARD OF 'conchlaw07.GreadMany'. -/
def greadManyCard : Claim7 := { stood := { row := greadManyRow, standIns := [], harness := (true, "0083dff0956b659dfa93ea8de3bcb10c9b51277814c94123ec1bf2224cc2d2c7"), looks := true }, kinds := [], alts := [], laidByText := true, laidKinds := [.handle], laidTests := true, laidLooks := .later }
def GreadManyCardSaid : Prop := Claim7.holds Tryd.pinned (.plain (OpenSpec.ofChange greadManySpec)) greadManyCard

/-- THE TIED CARD OF 'conchlaw07.GreadToken'. -/
def greadTokenCard : Claim7 := { stood := { row := greadTokenRow, standIns := [], harness := (true, "0083dff0956b659dfa93ea8de3bcb10c9b51277814c94123ec1bf2224cc2d2c7"), looks := true }, kinds := [], alts := [], laidByText := true, laidKinds := [.handle], laidTests := true, laidLooks := .later }
def GreadTokenCardSaid : Prop := Claim7.holds Tryd.pinned (.plain (OpenSpec.ofChange greadTokenSpec)) greadTokenCard

/-- THE SECOND FORM's CARD OF 'conchlaw30.PosixTells'. -/
def posixTellsUptoCard : Claim7 := { stood := { row := posixTellsUptoRow, standIns := [], harness := (true, "0083dff0956b659dfa93ea8de3bcb10c9b51277814c94123ec1bf2224cc2d2c7"), looks := true }, kinds := [], alts := [], laidByText := true, laidKinds := [.data, .data], laidTests := true, laidLooks := .later }
def PosixTellsUptoCardSaid : Prop := Claim7.holds Tryd.pinned (.plain (OpenSpec.upto posixTellsSpec)) posixTellsUptoCard

/-- THE SECOND FORM's CARD OF 'conchlaw30.PosixNames'. -/
def posixNamesUptoCard : Claim7 := { stood := { row := posixNamesUptoRow, standIns := [], harness := (true, "0083dff0956b659dfa93ea8de3bcb10c9b51277814c94123ec1bf2224cc2d2c7"), looks := true }, kinds := [], alts := [], laidByText := true, laidKinds := [.data, .data], laidTests := true, laidLooks := .later }
def PosixNamesUptoCardSaid : Prop := Claim7.holds Tryd.pinned (.plain (OpenSpec.upto posixNamesSpec)) posixNamesUptoCard

/-- THE SECOND FORM's CARD OF 'conchlaw07.GreadMany'. -/
def greadManyUptoCard : Claim7 := { stood := { row := greadManyUptoRow, standIns := [], harness := (true, "0083dff0956b659dfa93ea8de3bcb10c9b51277814c94123ec1bf2224cc2d2c7"), looks := true }, kinds := [], alts := [], laidByText := true, laidKinds := [.handle], laidTests := true, laidLooks := .later }
def GreadManyUptoCardSaid : Prop := Claim7.holds Tryd.pinned (.plain (OpenSpec.upto greadManySpec)) greadManyUptoCard

/-- THE SECOND FORM's CARD OF 'conchlaw07.GreadToken'. -/
def greadTokenUptoCard : Claim7 := { stood := { row := greadTokenUptoRow, standIns := [], harness := (true, "0083dff0956b659dfa93ea8de3bcb10c9b51277814c94123ec1bf2224cc2d2c7"), looks := true }, kinds := [], alts := [], laidByText := true, laidKinds := [.handle], laidTests := true, laidLooks := .later }
def GreadTokenUptoCardSaid : Prop := Claim7.holds Tryd.pinned (.plain (OpenSpec.upto greadTokenSpec)) greadTokenUptoCard
end Rows
end Go.Proofs.YtliofoikejdjeaaDoor
