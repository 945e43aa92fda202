/-
  DERIVED. GIVEN WITH THE SEED: THE PROGRAM's TIES (one call each: nine closed facts by the kernel) AND EACH ROW's TIE, after the 31st guide's Derived/Test/Toyas{Tie, Card}.lean. No idea stands in it: it is a product of the set-up. Laid BY PROGRAM, IN A SANDBOX (cutbox-door.mjs). By AI agents, Wed Nov 11 2026. No macro, syntax, notation, axiom, sorry.
-/
import Derived.Test.YtcahlponmbnkcaaDoorRows
import Derived.LaidByTextLater
import Derived.SevenTiedAt
import Derived.LaidSub
import Derived.LaidOnce
namespace Go.Proofs.YtcahlponmbnkcaaDoor
open Go
set_option maxRecDepth 100000
theorem seatTie1 : Tryd.prog.laidByTextLater [("toll/tag.kinds", Rows.laid_toll_tag_kinds), ("toll/ether.sap", Rows.laid_toll_ether_sap), ("toll/bpdu.group", Rows.laid_toll_bpdu_group), ("toll/bpdu.sap", Rows.laid_toll_bpdu_sap)] [.widerDeep, .data, .data, .data] true :=
  Program.laidByTextLater_by_one 31 8 7 (by kernel_rfl) (by kernel_rfl) (by kernel_rfl) (by kernel_rfl) (by kernel_rfl) (by kernel_rfl) (fun _ _ => by kernel_rfl)
theorem noOwnUnsafe : Tryd.pinned.checked.prog.headLifts.contains "ownunsafe" = false := by kernel_rfl
theorem tie : Tryd.prog.laidByTextLater [("toll/bpdu.group", Rows.laid_toll_bpdu_group), ("toll/bpdu.sap", Rows.laid_toll_bpdu_sap)] [.data, .data] true :=
  Program.laidByTextLater.sub seatTie1 ["toll/bpdu.group", "toll/bpdu.sap"] (by kernel_rfl) (by kernel_rfl)
theorem bpduTells_row_tie : Rows.bpduTellsRow.laidByTextAt .later Tryd.pinned [.data, .data] true :=
  OpenClaim.laidByTextAt_later rfl rfl tie noOwnUnsafe
theorem tie2 : Tryd.prog.laidByTextLater [("toll/tag.kinds", Rows.laid_toll_tag_kinds), ("toll/ether.sap", Rows.laid_toll_ether_sap), ("toll/bpdu.group", Rows.laid_toll_bpdu_group), ("toll/bpdu.sap", Rows.laid_toll_bpdu_sap)] [.widerDeep, .data, .data, .data] true :=
  Program.laidByTextLater.sub seatTie1 ["toll/tag.kinds", "toll/ether.sap", "toll/bpdu.group", "toll/bpdu.sap"] (by kernel_rfl) (by kernel_rfl)
theorem bpduIs_row_tie : Rows.bpduIsRow.laidByTextAt .later Tryd.pinned [.widerDeep, .data, .data, .data] true :=
  OpenClaim.laidByTextAt_later rfl rfl tie2 noOwnUnsafe
theorem bpduBack_row_tie : Rows.bpduBackRow.laidByTextAt .later Tryd.pinned [.widerDeep, .data, .data, .data] true :=
  OpenClaim.laidByTextAt_later rfl rfl tie2 noOwnUnsafe
theorem bpduTellsUpto_row_tie : Rows.bpduTellsUptoRow.laidByTextAt .later Tryd.pinned [.data, .data] true :=
  OpenClaim.laidByTextAt_later rfl rfl tie noOwnUnsafe
theorem bpduIsUpto_row_tie : Rows.bpduIsUptoRow.laidByTextAt .later Tryd.pinned [.widerDeep, .data, .data, .data] true :=
  OpenClaim.laidByTextAt_later rfl rfl tie2 noOwnUnsafe
theorem bpduBackUpto_row_tie : Rows.bpduBackUptoRow.laidByTextAt .later Tryd.pinned [.widerDeep, .data, .data, .data] true :=
  OpenClaim.laidByTextAt_later rfl rfl tie2 noOwnUnsafe
end Go.Proofs.YtcahlponmbnkcaaDoor
