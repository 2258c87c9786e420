/-
  DERIVED. GIVEN WITH THE SEED: THE CARDS: each row of YtkihjfpfocnneaaDoorRows.lean that lists a variable, with what it lists TIED to the program's text (the seventh form; the later family's looks); each row that meets fmt, with fmt's text TOLD by the authors' own Lean function (tested against real Go, not proved from fmt's source: count such statements apart). THE CARD IS WHAT COUNTS. Prove the row's statement (the work); the ties are given (YtkihjfpfocnneaaDoorTie.lean); close each card by the builder's one call (the guide's Derived/Test/ToyasCard.lean, 'card_holds'). Laid BY PROGRAM, IN A SANDBOX (cutbox-door.mjs). By AI agents, Wed Nov 11 2026. No macro, syntax, notation, axiom, sorry.
-/
import Derived.Test.YtkihjfpfocnneaaDoorRows
import GoSem.ClaimSeven
namespace Go.Proofs.YtkihjfpfocnneaaDoor
namespace Rows

/-- THE TIED CARD OF 'bobbinlaw2.NatReads'. -/
def natReadsCard : Claim7 := { stood := { row := natReadsRow, standIns := [], harness := (true, "005fd3a0aea88288d9db4e560ed0fc24a76800b7dd77e6b7e28f807f693223d3"), looks := false }, kinds := [], alts := [], laidByText := true, laidKinds := [.data, .pinned], laidTests := true, laidLooks := .later }
def NatReadsCardSaid : Prop := Claim7.holds Tryd.pinned (.plain (OpenSpec.ofChange natReadsSpec)) natReadsCard

/-- THE TIED CARD OF 'bobbinlaw2.NatProducts'. -/
def natProductsCard : Claim7 := { stood := { row := natProductsRow, standIns := [], harness := (true, "005fd3a0aea88288d9db4e560ed0fc24a76800b7dd77e6b7e28f807f693223d3"), looks := false }, kinds := [], alts := [], laidByText := true, laidKinds := [.data, .pinned], laidTests := true, laidLooks := .later }
def NatProductsCardSaid : Prop := Claim7.holds Tryd.pinned (.plain (OpenSpec.ofChange natProductsSpec)) natProductsCard

/-- THE TIED CARD OF 'bobbinlaw2.NatShifts'. -/
def natShiftsCard : Claim7 := { stood := { row := natShiftsRow, standIns := [], harness := (true, "005fd3a0aea88288d9db4e560ed0fc24a76800b7dd77e6b7e28f807f693223d3"), looks := false }, kinds := [], alts := [], laidByText := true, laidKinds := [.data, .pinned], laidTests := true, laidLooks := .later }
def NatShiftsCardSaid : Prop := Claim7.holds Tryd.pinned (.plain (OpenSpec.ofChange natShiftsSpec)) natShiftsCard

/-- THE TIED CARD OF 'bobbinlaw2.NatLong'. -/
def natLongCard : Claim7 := { stood := { row := natLongRow, standIns := [], harness := (true, "005fd3a0aea88288d9db4e560ed0fc24a76800b7dd77e6b7e28f807f693223d3"), looks := false }, kinds := [], alts := [], laidByText := true, laidKinds := [.data, .pinned], laidTests := true, laidLooks := .later }
def NatLongCardSaid : Prop := Claim7.holds Tryd.pinned (.plain (OpenSpec.ofChange natLongSpec)) natLongCard

/-- THE TIED CARD OF 'bobbinlaw2.NatSums'. -/
def natSumsCard : Claim7 := { stood := { row := natSumsRow, standIns := [], harness := (true, "005fd3a0aea88288d9db4e560ed0fc24a76800b7dd77e6b7e28f807f693223d3"), looks := false }, kinds := [], alts := [], laidByText := true, laidKinds := [.data, .pinned], laidTests := true, laidLooks := .later }
def NatSumsCardSaid : Prop := Claim7.holds Tryd.pinned (.plain (OpenSpec.ofChange natSumsSpec)) natSumsCard

/-- THE TIED CARD OF 'bobbinlaw2.NatBack'. -/
def natBackCard : Claim7 := { stood := { row := natBackRow, standIns := [], harness := (true, "005fd3a0aea88288d9db4e560ed0fc24a76800b7dd77e6b7e28f807f693223d3"), looks := false }, kinds := [], alts := [], laidByText := true, laidKinds := [.data, .pinned], laidTests := true, laidLooks := .later }
def NatBackCardSaid : Prop := Claim7.holds Tryd.pinned (.plain (OpenSpec.ofChange natBackSpec)) natBackCard

/-- THE SECOND FORM's CARD OF 'bobbinlaw2.NatReads'. -/
def natReadsUptoCard : Claim7 := { stood := { row := natReadsUptoRow, standIns := [], harness := (true, "005fd3a0aea88288d9db4e560ed0fc24a76800b7dd77e6b7e28f807f693223d3"), looks := false }, kinds := [], alts := [], laidByText := true, laidKinds := [.data, .pinned], laidTests := true, laidLooks := .later }
def NatReadsUptoCardSaid : Prop := Claim7.holds Tryd.pinned (.plain (OpenSpec.upto natReadsSpec)) natReadsUptoCard

/-- THE SECOND FORM's CARD OF 'bobbinlaw2.NatProducts'. -/
def natProductsUptoCard : Claim7 := { stood := { row := natProductsUptoRow, standIns := [], harness := (true, "005fd3a0aea88288d9db4e560ed0fc24a76800b7dd77e6b7e28f807f693223d3"), looks := false }, kinds := [], alts := [], laidByText := true, laidKinds := [.data, .pinned], laidTests := true, laidLooks := .later }
def NatProductsUptoCardSaid : Prop := Claim7.holds Tryd.pinned (.plain (OpenSpec.upto natProductsSpec)) natProductsUptoCard

/-- THE SECOND FORM's CARD OF 'bobbinlaw2.NatShifts'. -/
def natShiftsUptoCard : Claim7 := { stood := { row := natShiftsUptoRow, standIns := [], harness := (true, "005fd3a0aea88288d9db4e560ed0fc24a76800b7dd77e6b7e28f807f693223d3"), looks := false }, kinds := [], alts := [], laidByText := true, laidKinds := [.data, .pinned], laidTests := true, laidLooks := .later }
def NatShiftsUptoCardSaid : Prop := Claim7.holds Tryd.pinned (.plain (OpenSpec.upto natShiftsSpec)) natShiftsUptoCard

/-- THE SECOND FORM's CARD OF 'bobbinlaw2.NatLong'. -/
def natLongUptoCard : Claim7 := { stood := { row := natLongUptoRow, standIns := [], harness := (true, "005fd3a0aea88288d9db4e560ed0fc24a76800b7dd77e6b7e28f807f693223d3"), looks := false }, kinds := [], alts := [], laidByText := true, laidKinds := [.data, .pinned], laidTests := true, laidLooks := .later }
def NatLongUptoCardSaid : Prop := Claim7.holds Tryd.pinned (.plain (OpenSpec.upto natLongSpec)) natLongUptoCard

/-- THE SECOND FORM's CARD OF 'bobbinlaw2.NatSums'. -/
def natSumsUptoCard : Claim7 := { stood := { row := natSumsUptoRow, standIns := [], harness := (true, "005fd3a0aea88288d9db4e560ed0fc24a76800b7dd77e6b7e28f807f693223d3"), looks := false }, kinds := [], alts := [], laidByText := true, laidKinds := [.data, .pinned], laidTests := true, laidLooks := .later }
def NatSumsUptoCardSaid : Prop := Claim7.holds Tryd.pinned (.plain (OpenSpec.upto natSumsSpec)) natSumsUptoCard

/-- THE SECOND FORM's CARD OF 'bobbinlaw2.NatBack'. -/
def natBackUptoCard : Claim7 := { stood := { row := natBackUptoRow, standIns := [], harness := (true, "005fd3a0aea88288d9db4e560ed0fc24a76800b7dd77e6b7e28f807f693223d3"), looks := false }, kinds := [], alts := [], laidByText := true, laidKinds := [.data, .pinned], laidTests := true, laidLooks := .later }
def NatBackUptoCardSaid : Prop := Claim7.holds Tryd.pinned (.plain (OpenSpec.upto natBackSpec)) natBackUptoCard
end Rows
end Go.Proofs.YtkihjfpfocnneaaDoor
