/-
  DERIVED. GIVEN WITH THE SEED: THE CARDS: each row of YtgfnllaajaoljaaDoorRows.lean that lists a variable, with what it lists TIED to the program's text (the seventh form; the later family's looks); each row that meets fmt, with fmt's text TOLD by the authors' own Lean function (tested against real Go, not proved from fmt's source: count such statements apart). THE CARD IS WHAT COUNTS. Prove the row's statement (the work); the ties are given (YtgfnllaajaoljaaDoorTie.lean); close each card by the builder's one call (the guide's Derived/Test/ToyasCard.lean, 'card_holds'). Laid BY PROGRAM, IN A SANDBOX (cutbox-door.mjs). By AI agents, Wed Nov 11 2026. No macro, syntax, notation, axiom, sorry.
-/
import Derived.Test.YtgfnllaajaoljaaDoorRows
import GoSem.ClaimSeven
namespace Go.Proofs.YtgfnllaajaoljaaDoor
namespace Rows

/-- THE TIED CARD OF 'quietuslaw04.FieldMatchesSpec'. -/
def fieldMatchesSpecCard : Claim7 := { stood := { row := fieldMatchesSpecRow, standIns := [], harness := (true, "6a96fc426ec6e0043b8f70025b6e581c3defaef859c14952ad6133676aec8733"), looks := false }, kinds := [], alts := [], laidByText := true, laidKinds := [.data], laidTests := true, laidLooks := .later }
def FieldMatchesSpecCardSaid : Prop := Claim7.holds Tryd.pinned (.plain (OpenSpec.ofChange fieldMatchesSpecSpec)) fieldMatchesSpecCard

/-- THE TIED CARD OF 'quietuslaw04.FieldIsAField'. -/
def fieldIsAFieldCard : Claim7 := { stood := { row := fieldIsAFieldRow, standIns := [], harness := (true, "6a96fc426ec6e0043b8f70025b6e581c3defaef859c14952ad6133676aec8733"), looks := false }, kinds := [], alts := [], laidByText := true, laidKinds := [.data], laidTests := true, laidLooks := .later }
def FieldIsAFieldCardSaid : Prop := Claim7.holds Tryd.pinned (.plain (OpenSpec.ofChange fieldIsAFieldSpec)) fieldIsAFieldCard

/-- THE TIED CARD OF 'quietuslaw04.FieldPowers'. -/
def fieldPowersCard : Claim7 := { stood := { row := fieldPowersRow, standIns := [], harness := (true, "6a96fc426ec6e0043b8f70025b6e581c3defaef859c14952ad6133676aec8733"), looks := false }, kinds := [], alts := [], laidByText := true, laidKinds := [.data], laidTests := true, laidLooks := .later }
def FieldPowersCardSaid : Prop := Claim7.holds Tryd.pinned (.plain (OpenSpec.ofChange fieldPowersSpec)) fieldPowersCard

/-- THE TIED CARD OF 'quietuslaw04.FieldVectorsMatchSpec'. -/
def fieldVectorsMatchSpecCard : Claim7 := { stood := { row := fieldVectorsMatchSpecRow, standIns := [], harness := (true, "6a96fc426ec6e0043b8f70025b6e581c3defaef859c14952ad6133676aec8733"), looks := false }, kinds := [], alts := [], laidByText := true, laidKinds := [.data], laidTests := true, laidLooks := .later }
def FieldVectorsMatchSpecCardSaid : Prop := Claim7.holds Tryd.pinned (.plain (OpenSpec.ofChange fieldVectorsMatchSpecSpec)) fieldVectorsMatchSpecCard

/-- THE TIED CARD OF 'quietuslaw04.FieldCombinesLinearly'. -/
def fieldCombinesLinearlyCard : Claim7 := { stood := { row := fieldCombinesLinearlyRow, standIns := [], harness := (true, "6a96fc426ec6e0043b8f70025b6e581c3defaef859c14952ad6133676aec8733"), looks := false }, kinds := [], alts := [], laidByText := true, laidKinds := [.data], laidTests := true, laidLooks := .later }
def FieldCombinesLinearlyCardSaid : Prop := Claim7.holds Tryd.pinned (.plain (OpenSpec.ofChange fieldCombinesLinearlySpec)) fieldCombinesLinearlyCard

/-- THE TIED CARD OF 'quietuslaw19.SumsArrive'. -/
def sumsArriveCard : Claim7 := { stood := { row := sumsArriveRow, standIns := [], harness := (true, "6a96fc426ec6e0043b8f70025b6e581c3defaef859c14952ad6133676aec8733"), looks := false }, kinds := [], alts := [], laidByText := true, laidKinds := [.data], laidTests := true, laidLooks := .later }
def SumsArriveCardSaid : Prop := Claim7.holds Tryd.pinned (.plain (OpenSpec.ofChange sumsArriveSpec)) sumsArriveCard

/-- THE TIED CARD OF 'quietuslaw19.SumsRepair'. -/
def sumsRepairCard : Claim7 := { stood := { row := sumsRepairRow, standIns := [], harness := (true, "6a96fc426ec6e0043b8f70025b6e581c3defaef859c14952ad6133676aec8733"), looks := false }, kinds := [], alts := [], laidByText := true, laidKinds := [.data], laidTests := true, laidLooks := .later }
def SumsRepairCardSaid : Prop := Claim7.holds Tryd.pinned (.plain (OpenSpec.ofChange sumsRepairSpec)) sumsRepairCard

/-- THE TIED CARD OF 'quietuslaw19.SumsAreAsSpecified'. -/
def sumsAreAsSpecifiedCard : Claim7 := { stood := { row := sumsAreAsSpecifiedRow, standIns := [], harness := (true, "6a96fc426ec6e0043b8f70025b6e581c3defaef859c14952ad6133676aec8733"), looks := false }, kinds := [], alts := [], laidByText := true, laidKinds := [.data], laidTests := true, laidLooks := .later }
def SumsAreAsSpecifiedCardSaid : Prop := Claim7.holds Tryd.pinned (.plain (OpenSpec.ofChange sumsAreAsSpecifiedSpec)) sumsAreAsSpecifiedCard

/-- THE TIED CARD OF 'quietuslaw19.SumsTreesAreLeast'. -/
def sumsTreesAreLeastCard : Claim7 := { stood := { row := sumsTreesAreLeastRow, standIns := [], harness := (true, "6a96fc426ec6e0043b8f70025b6e581c3defaef859c14952ad6133676aec8733"), looks := false }, kinds := [], alts := [], laidByText := true, laidKinds := [.data], laidTests := true, laidLooks := .later }
def SumsTreesAreLeastCardSaid : Prop := Claim7.holds Tryd.pinned (.plain (OpenSpec.ofChange sumsTreesAreLeastSpec)) sumsTreesAreLeastCard

/-- THE TIED CARD OF 'quietuslaw19.SumsCarryAsSpecified'. -/
def sumsCarryAsSpecifiedCard : Claim7 := { stood := { row := sumsCarryAsSpecifiedRow, standIns := [], harness := (true, "6a96fc426ec6e0043b8f70025b6e581c3defaef859c14952ad6133676aec8733"), looks := false }, kinds := [], alts := [], laidByText := true, laidKinds := [.data], laidTests := true, laidLooks := .later }
def SumsCarryAsSpecifiedCardSaid : Prop := Claim7.holds Tryd.pinned (.plain (OpenSpec.ofChange sumsCarryAsSpecifiedSpec)) sumsCarryAsSpecifiedCard

/-- THE SECOND FORM's CARD OF 'quietuslaw04.FieldMatchesSpec'. -/
def fieldMatchesSpecUptoCard : Claim7 := { stood := { row := fieldMatchesSpecUptoRow, standIns := [], harness := (true, "6a96fc426ec6e0043b8f70025b6e581c3defaef859c14952ad6133676aec8733"), looks := false }, kinds := [], alts := [], laidByText := true, laidKinds := [.data], laidTests := true, laidLooks := .later }
def FieldMatchesSpecUptoCardSaid : Prop := Claim7.holds Tryd.pinned (.plain (OpenSpec.upto fieldMatchesSpecSpec)) fieldMatchesSpecUptoCard

/-- THE SECOND FORM's CARD OF 'quietuslaw04.FieldIsAField'. -/
def fieldIsAFieldUptoCard : Claim7 := { stood := { row := fieldIsAFieldUptoRow, standIns := [], harness := (true, "6a96fc426ec6e0043b8f70025b6e581c3defaef859c14952ad6133676aec8733"), looks := false }, kinds := [], alts := [], laidByText := true, laidKinds := [.data], laidTests := true, laidLooks := .later }
def FieldIsAFieldUptoCardSaid : Prop := Claim7.holds Tryd.pinned (.plain (OpenSpec.upto fieldIsAFieldSpec)) fieldIsAFieldUptoCard

/-- THE SECOND FORM's CARD OF 'quietuslaw04.FieldPowers'. -/
def fieldPowersUptoCard : Claim7 := { stood := { row := fieldPowersUptoRow, standIns := [], harness := (true, "6a96fc426ec6e0043b8f70025b6e581c3defaef859c14952ad6133676aec8733"), looks := false }, kinds := [], alts := [], laidByText := true, laidKinds := [.data], laidTests := true, laidLooks := .later }
def FieldPowersUptoCardSaid : Prop := Claim7.holds Tryd.pinned (.plain (OpenSpec.upto fieldPowersSpec)) fieldPowersUptoCard

/-- THE SECOND FORM's CARD OF 'quietuslaw04.FieldVectorsMatchSpec'. -/
def fieldVectorsMatchSpecUptoCard : Claim7 := { stood := { row := fieldVectorsMatchSpecUptoRow, standIns := [], harness := (true, "6a96fc426ec6e0043b8f70025b6e581c3defaef859c14952ad6133676aec8733"), looks := false }, kinds := [], alts := [], laidByText := true, laidKinds := [.data], laidTests := true, laidLooks := .later }
def FieldVectorsMatchSpecUptoCardSaid : Prop := Claim7.holds Tryd.pinned (.plain (OpenSpec.upto fieldVectorsMatchSpecSpec)) fieldVectorsMatchSpecUptoCard

/-- THE SECOND FORM's CARD OF 'quietuslaw04.FieldCombinesLinearly'. -/
def fieldCombinesLinearlyUptoCard : Claim7 := { stood := { row := fieldCombinesLinearlyUptoRow, standIns := [], harness := (true, "6a96fc426ec6e0043b8f70025b6e581c3defaef859c14952ad6133676aec8733"), looks := false }, kinds := [], alts := [], laidByText := true, laidKinds := [.data], laidTests := true, laidLooks := .later }
def FieldCombinesLinearlyUptoCardSaid : Prop := Claim7.holds Tryd.pinned (.plain (OpenSpec.upto fieldCombinesLinearlySpec)) fieldCombinesLinearlyUptoCard

/-- THE SECOND FORM's CARD OF 'quietuslaw19.SumsArrive'. -/
def sumsArriveUptoCard : Claim7 := { stood := { row := sumsArriveUptoRow, standIns := [], harness := (true, "6a96fc426ec6e0043b8f70025b6e581c3defaef859c14952ad6133676aec8733"), looks := false }, kinds := [], alts := [], laidByText := true, laidKinds := [.data], laidTests := true, laidLooks := .later }
def SumsArriveUptoCardSaid : Prop := Claim7.holds Tryd.pinned (.plain (OpenSpec.upto sumsArriveSpec)) sumsArriveUptoCard

/-- THE SECOND FORM's CARD OF 'quietuslaw19.SumsRepair'. -/
def sumsRepairUptoCard : Claim7 := { stood := { row := sumsRepairUptoRow, standIns := [], harness := (true, "6a96fc426ec6e0043b8f70025b6e581c3defaef859c14952ad6133676aec8733"), looks := false }, kinds := [], alts := [], laidByText := true, laidKinds := [.data], laidTests := true, laidLooks := .later }
def SumsRepairUptoCardSaid : Prop := Claim7.holds Tryd.pinned (.plain (OpenSpec.upto sumsRepairSpec)) sumsRepairUptoCard

/-- THE SECOND FORM's CARD OF 'quietuslaw19.SumsAreAsSpecified'. -/
def sumsAreAsSpecifiedUptoCard : Claim7 := { stood := { row := sumsAreAsSpecifiedUptoRow, standIns := [], harness := (true, "6a96fc426ec6e0043b8f70025b6e581c3defaef859c14952ad6133676aec8733"), looks := false }, kinds := [], alts := [], laidByText := true, laidKinds := [.data], laidTests := true, laidLooks := .later }
def SumsAreAsSpecifiedUptoCardSaid : Prop := Claim7.holds Tryd.pinned (.plain (OpenSpec.upto sumsAreAsSpecifiedSpec)) sumsAreAsSpecifiedUptoCard

/-- THE SECOND FORM's CARD OF 'quietuslaw19.SumsTreesAreLeast'. -/
def sumsTreesAreLeastUptoCard : Claim7 := { stood := { row := sumsTreesAreLeastUptoRow, standIns := [], harness := (true, "6a96fc426ec6e0043b8f70025b6e581c3defaef859c14952ad6133676aec8733"), looks := false }, kinds := [], alts := [], laidByText := true, laidKinds := [.data], laidTests := true, laidLooks := .later }
def SumsTreesAreLeastUptoCardSaid : Prop := Claim7.holds Tryd.pinned (.plain (OpenSpec.upto sumsTreesAreLeastSpec)) sumsTreesAreLeastUptoCard

/-- THE SECOND FORM's CARD OF 'quietuslaw19.SumsCarryAsSpecified'. -/
def sumsCarryAsSpecifiedUptoCard : Claim7 := { stood := { row := sumsCarryAsSpecifiedUptoRow, standIns := [], harness := (true, "6a96fc426ec6e0043b8f70025b6e581c3defaef859c14952ad6133676aec8733"), looks := false }, kinds := [], alts := [], laidByText := true, laidKinds := [.data], laidTests := true, laidLooks := .later }
def SumsCarryAsSpecifiedUptoCardSaid : Prop := Claim7.holds Tryd.pinned (.plain (OpenSpec.upto sumsCarryAsSpecifiedSpec)) sumsCarryAsSpecifiedUptoCard
end Rows
end Go.Proofs.YtgfnllaajaoljaaDoor
