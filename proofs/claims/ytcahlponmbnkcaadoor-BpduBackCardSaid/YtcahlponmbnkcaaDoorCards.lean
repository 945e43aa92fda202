/-
  DERIVED. GIVEN WITH THE SEED: THE CARDS: each row of YtcahlponmbnkcaaDoorRows.lean that lists a variable, with what it lists TIED to the program's text (the seventh form; the later family's looks); each row that meets fmt, with fmt's text TOLD by the authors' own Lean function (tested against real Go, not proved from fmt's source: count such statements apart). THE CARD IS WHAT COUNTS. Prove the row's statement (the work); the ties are given (YtcahlponmbnkcaaDoorTie.lean); close each card by the builder's one call (the guide's Derived/Test/ToyasCard.lean, 'card_holds'). Laid BY PROGRAM, IN A SANDBOX (cutbox-door.mjs). By AI agents, Wed Nov 11 2026. No macro, syntax, notation, axiom, sorry.
-/
import Derived.Test.YtcahlponmbnkcaaDoorRows
import GoSem.ClaimSeven
namespace Go.Proofs.YtcahlponmbnkcaaDoor
namespace Rows

/-- THE TIED CARD OF 'tolllaw10.BpduTells'. -/
def bpduTellsCard : Claim7 := { stood := { row := bpduTellsRow, standIns := [], harness := (true, "2ed0f858d08b210307e978f593e5223900629fdf2d273081e7418294d7ceb40e"), looks := false }, kinds := [], alts := [], laidByText := true, laidKinds := [.data, .data], laidTests := true, laidLooks := .later }
def BpduTellsCardSaid : Prop := Claim7.holds Tryd.pinned (.plain (OpenSpec.ofChange bpduTellsSpec)) bpduTellsCard

/-- THE TIED CARD OF 'tolllaw10.BpduIs'. -/
def bpduIsCard : Claim7 := { stood := { row := bpduIsRow, standIns := [], harness := (true, "2ed0f858d08b210307e978f593e5223900629fdf2d273081e7418294d7ceb40e"), looks := false }, kinds := [], alts := [], laidByText := true, laidKinds := [.widerDeep, .data, .data, .data], laidTests := true, laidLooks := .later }
def BpduIsCardSaid : Prop := Claim7.holds Tryd.pinned (.plain (OpenSpec.ofChange bpduIsSpec)) bpduIsCard

/-- THE TIED CARD OF 'tolllaw10.BpduBack'. -/
def bpduBackCard : Claim7 := { stood := { row := bpduBackRow, standIns := [], harness := (true, "2ed0f858d08b210307e978f593e5223900629fdf2d273081e7418294d7ceb40e"), looks := false }, kinds := [], alts := [], laidByText := true, laidKinds := [.widerDeep, .data, .data, .data], laidTests := true, laidLooks := .later }
def BpduBackCardSaid : Prop := Claim7.holds Tryd.pinned (.plain (OpenSpec.ofChange bpduBackSpec)) bpduBackCard

/-- THE SECOND FORM's CARD OF 'tolllaw10.BpduTells'. -/
def bpduTellsUptoCard : Claim7 := { stood := { row := bpduTellsUptoRow, standIns := [], harness := (true, "2ed0f858d08b210307e978f593e5223900629fdf2d273081e7418294d7ceb40e"), looks := false }, kinds := [], alts := [], laidByText := true, laidKinds := [.data, .data], laidTests := true, laidLooks := .later }
def BpduTellsUptoCardSaid : Prop := Claim7.holds Tryd.pinned (.plain (OpenSpec.upto bpduTellsSpec)) bpduTellsUptoCard

/-- THE SECOND FORM's CARD OF 'tolllaw10.BpduIs'. -/
def bpduIsUptoCard : Claim7 := { stood := { row := bpduIsUptoRow, standIns := [], harness := (true, "2ed0f858d08b210307e978f593e5223900629fdf2d273081e7418294d7ceb40e"), looks := false }, kinds := [], alts := [], laidByText := true, laidKinds := [.widerDeep, .data, .data, .data], laidTests := true, laidLooks := .later }
def BpduIsUptoCardSaid : Prop := Claim7.holds Tryd.pinned (.plain (OpenSpec.upto bpduIsSpec)) bpduIsUptoCard

/-- THE SECOND FORM's CARD OF 'tolllaw10.BpduBack'. -/
def bpduBackUptoCard : Claim7 := { stood := { row := bpduBackUptoRow, standIns := [], harness := (true, "2ed0f858d08b210307e978f593e5223900629fdf2d273081e7418294d7ceb40e"), looks := false }, kinds := [], alts := [], laidByText := true, laidKinds := [.widerDeep, .data, .data, .data], laidTests := true, laidLooks := .later }
def BpduBackUptoCardSaid : Prop := Claim7.holds Tryd.pinned (.plain (OpenSpec.upto bpduBackSpec)) bpduBackUptoCard
end Rows
end Go.Proofs.YtcahlponmbnkcaaDoor
