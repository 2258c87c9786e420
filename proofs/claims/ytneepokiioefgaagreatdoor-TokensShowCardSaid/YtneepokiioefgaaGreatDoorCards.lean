/-
  DERIVED. GIVEN WITH THE SEED: THE CARDS: each row of YtneepokiioefgaaGreatDoorRows.lean that lists a variable, with what it lists TIED to the program's text (the seventh form; the later family's looks); each row that meets fmt, with fmt's text TOLD by the authors' own Lean function (tested against real Go, not proved from fmt's source: count such statements apart). THE CARD IS WHAT COUNTS. Prove the row's statement (the work); the ties are given (YtneepokiioefgaaGreatDoorTie.lean); close each card by the builder's one call (the guide's Derived/Test/ToyasCard.lean, 'card_holds'). Laid BY PROGRAM, IN A SANDBOX (cutbox-door.mjs). By AI agents, Wed Nov 11 2026. No macro, syntax, notation, axiom, sorry.
-/
import Derived.Test.YtneepokiioefgaaGreatDoorRows
import GoSem.ClaimSeven
namespace Go.Proofs.YtneepokiioefgaaGreatDoor
namespace Rows

/-- THE TIED CARD OF 'bobbinlaw15.TokensShow'. -/
def tokensShowCard : Claim7 := { stood := { row := tokensShowRow, standIns := [], harness := (true, "64d2bffa6d20fc99deb5ea35321e912089093c95a3b9f0239533feb4298cc081"), looks := false }, kinds := [], alts := [], laidByText := true, laidKinds := [.data, .data, .data, .data, .pinned], laidTests := true, laidLooks := .later }
def TokensShowCardSaid : Prop := Claim7.holds Tryz.pinned (.plain (OpenSpec.ofChange tokensShowSpec)) tokensShowCard

/-- THE TIED CARD OF 'bobbinlaw15.TokensNothing'. -/
def tokensNothingCard : Claim7 := { stood := { row := tokensNothingRow, standIns := [], harness := (true, "64d2bffa6d20fc99deb5ea35321e912089093c95a3b9f0239533feb4298cc081"), looks := false }, kinds := [], alts := [], laidByText := true, laidKinds := [.data, .data, .data, .data, .pinned], laidTests := true, laidLooks := .later }
def TokensNothingCardSaid : Prop := Claim7.holds Tryz.pinned (.plain (OpenSpec.ofChange tokensNothingSpec)) tokensNothingCard

/-- THE TIED CARD OF 'bobbinlaw15.TokensFull'. -/
def tokensFullCard : Claim7 := { stood := { row := tokensFullRow, standIns := [], harness := (true, "64d2bffa6d20fc99deb5ea35321e912089093c95a3b9f0239533feb4298cc081"), looks := false }, kinds := [], alts := [], laidByText := true, laidKinds := [.data, .data, .data, .data, .pinned], laidTests := true, laidLooks := .later }
def TokensFullCardSaid : Prop := Claim7.holds Tryz.pinned (.plain (OpenSpec.ofChange tokensFullSpec)) tokensFullCard

/-- THE TIED CARD OF 'bobbinlaw15.TokensRows'. -/
def tokensRowsCard : Claim7 := { stood := { row := tokensRowsRow, standIns := [], harness := (true, "64d2bffa6d20fc99deb5ea35321e912089093c95a3b9f0239533feb4298cc081"), looks := false }, kinds := [], alts := [], laidByText := true, laidKinds := [.data, .data, .data, .data, .pinned], laidTests := true, laidLooks := .later }
def TokensRowsCardSaid : Prop := Claim7.holds Tryz.pinned (.plain (OpenSpec.ofChange tokensRowsSpec)) tokensRowsCard

/-- THE TIED CARD OF 'bobbinlaw15.TokensPlay'. -/
def tokensPlayCard : Claim7 := { stood := { row := tokensPlayRow, standIns := [], harness := (true, "64d2bffa6d20fc99deb5ea35321e912089093c95a3b9f0239533feb4298cc081"), looks := false }, kinds := [], alts := [], laidByText := true, laidKinds := [.data, .data, .data, .data, .pinned], laidTests := true, laidLooks := .later }
def TokensPlayCardSaid : Prop := Claim7.holds Tryz.pinned (.plain (OpenSpec.ofChange tokensPlaySpec)) tokensPlayCard

/-- THE SECOND FORM's CARD OF 'bobbinlaw15.TokensShow'. -/
def tokensShowUptoCard : Claim7 := { stood := { row := tokensShowUptoRow, standIns := [], harness := (true, "64d2bffa6d20fc99deb5ea35321e912089093c95a3b9f0239533feb4298cc081"), looks := false }, kinds := [], alts := [], laidByText := true, laidKinds := [.data, .data, .data, .data, .pinned], laidTests := true, laidLooks := .later }
def TokensShowUptoCardSaid : Prop := Claim7.holds Tryz.pinned (.plain (OpenSpec.upto tokensShowSpec)) tokensShowUptoCard

/-- THE SECOND FORM's CARD OF 'bobbinlaw15.TokensNothing'. -/
def tokensNothingUptoCard : Claim7 := { stood := { row := tokensNothingUptoRow, standIns := [], harness := (true, "64d2bffa6d20fc99deb5ea35321e912089093c95a3b9f0239533feb4298cc081"), looks := false }, kinds := [], alts := [], laidByText := true, laidKinds := [.data, .data, .data, .data, .pinned], laidTests := true, laidLooks := .later }
def TokensNothingUptoCardSaid : Prop := Claim7.holds Tryz.pinned (.plain (OpenSpec.upto tokensNothingSpec)) tokensNothingUptoCard

/-- THE SECOND FORM's CARD OF 'bobbinlaw15.TokensFull'. -/
def tokensFullUptoCard : Claim7 := { stood := { row := tokensFullUptoRow, standIns := [], harness := (true, "64d2bffa6d20fc99deb5ea35321e912089093c95a3b9f0239533feb4298cc081"), looks := false }, kinds := [], alts := [], laidByText := true, laidKinds := [.data, .data, .data, .data, .pinned], laidTests := true, laidLooks := .later }
def TokensFullUptoCardSaid : Prop := Claim7.holds Tryz.pinned (.plain (OpenSpec.upto tokensFullSpec)) tokensFullUptoCard

/-- THE SECOND FORM's CARD OF 'bobbinlaw15.TokensRows'. -/
def tokensRowsUptoCard : Claim7 := { stood := { row := tokensRowsUptoRow, standIns := [], harness := (true, "64d2bffa6d20fc99deb5ea35321e912089093c95a3b9f0239533feb4298cc081"), looks := false }, kinds := [], alts := [], laidByText := true, laidKinds := [.data, .data, .data, .data, .pinned], laidTests := true, laidLooks := .later }
def TokensRowsUptoCardSaid : Prop := Claim7.holds Tryz.pinned (.plain (OpenSpec.upto tokensRowsSpec)) tokensRowsUptoCard

/-- THE SECOND FORM's CARD OF 'bobbinlaw15.TokensPlay'. -/
def tokensPlayUptoCard : Claim7 := { stood := { row := tokensPlayUptoRow, standIns := [], harness := (true, "64d2bffa6d20fc99deb5ea35321e912089093c95a3b9f0239533feb4298cc081"), looks := false }, kinds := [], alts := [], laidByText := true, laidKinds := [.data, .data, .data, .data, .pinned], laidTests := true, laidLooks := .later }
def TokensPlayUptoCardSaid : Prop := Claim7.holds Tryz.pinned (.plain (OpenSpec.upto tokensPlaySpec)) tokensPlayUptoCard
end Rows
end Go.Proofs.YtneepokiioefgaaGreatDoor
