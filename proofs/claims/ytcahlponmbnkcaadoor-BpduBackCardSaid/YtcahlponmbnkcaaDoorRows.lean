/-
  NARROWER THAN 'FOR EVERY INPUT', by the rows' own cells (each row's printed sentence says how): BpduTells: laid · BpduIs: laid · BpduBack: laid.
  DERIVED. THE GIVEN ROWS OF THIS SEAT. 3 by the template 'for every input the law returns true; each argument reads behind the call as it read before'; 0 by the template 'total and deterministic' (their statements: YtcahlponmbnkcaaDoorTotals.lean).
  GIVEN WITH THE SEED: the statements are not yours to turn. If you find one false, say at which input.
  Laid BY PROGRAM, IN A SANDBOX (cutbox-rows.mjs): the forced cells as the released guide's own fill.sh prints them over the translation 6615d516989c7b82… (all of the seat's roots in one cut). By AI agents, Wed Nov 11 2026. No macro, syntax, notation, axiom, sorry.
-/
import Derived.Test.YtcahlponmbnkcaaDoorChecked
import GoSem.Claim
import GoSem.ClaimJoined
import GoSem.ClaimMapViews
import Derived.JoinedTies
import Derived.KernelRfl
namespace Go.Proofs.YtcahlponmbnkcaaDoor
/- THE CELL 'sum', in the pinned program and in every row, IS THE sha256 OF THE DUMP (.gsa) THAT YtcahlponmbnkcaaDoorProg.lean LOADS. Nothing in Lean hashes anything: it is a label: what it is worth is what the hold of that sum in a sandbox is worth. -/
noncomputable def Tryd.pinned : Pinned := { name := "ytcahlponmbnkcaadoor", sum := "6615d516989c7b8268bfaac66b7fc1af6229fd0f4a388623ee618319d4bbfb31", checked := Tryd.checked }
namespace Rows
def none {H : Type} : Left H := { results := [], args := [] }

/- WHAT THE LISTED PACKAGE-LEVEL VARIABLES READ AS WHEN THE CALL BEGINS. Each datum BY PROGRAM (the guide's laid-datum.mjs) off the statement by which the dump's own 'gosem.cut.vars' lays the variable. In a bare row this is a premise. The card (YtcahlponmbnkcaaDoorCards.lean) ties it to the program's text. -/
def laid_toll_bpdu_group {H : Type} : DataW H := .agg [.lit (.int .u8 1), .lit (.int .u8 128), .lit (.int .u8 194), .lit (.int .u8 0), .lit (.int .u8 0), .lit (.int .u8 0)]
def laid_toll_bpdu_sap {H : Type} : DataW H := .agg [.lit (.int .u8 66), .lit (.int .u8 66), .lit (.int .u8 3)]
def laid_toll_tag_kinds {H : Type} : DataW H := .agg [.slice [.lit (.int .u16 34984), .lit (.int .u16 33024)] [], .slice [.lit (.int .u16 33024)] []]
def laid_toll_ether_sap {H : Type} : DataW H := .agg [.lit (.int .u8 170), .lit (.int .u8 170), .lit (.int .u8 3)]

/-- 'tolllaw10.BpduTells': WHATEVER THE INPUT: true; the input reads as it did. -/
def bpduTellsSpec : ChangeSpec := { name := "bpduTells", fn := fun _ => fun
  | [d1, d2, d3] => { results := [.lit (.bool true)], args := [d1, d2, d3] }
  | _ => none }
def bpduTellsRow : OpenClaim := { program := "ytcahlponmbnkcaadoor", sum := "6615d516989c7b8268bfaac66b7fc1af6229fd0f4a388623ee618319d4bbfb31", func := "toll/tolllaw10.BpduTells", spec := "bpduTells", unfollowed := true, recurses := true, named := ["toll/bpdu.group", "toll/bpdu.sap"], plainKeys := false, apart := false, laid := [("toll/bpdu.group", laid_toll_bpdu_group), ("toll/bpdu.sap", laid_toll_bpdu_sap)] }
def BpduTellsSaid : Prop := bpduTellsRow.holds Tryd.pinned (OpenSpec.ofChange bpduTellsSpec)

/-- ITS FALSE NEIGHBOUR: 'it returns false'. Refute it at one input. -/
def bpduTellsWrong : ChangeSpec := { name := "bpduTells", fn := fun _ => fun
  | [d1, d2, d3] => { results := [.lit (.bool false)], args := [d1, d2, d3] }
  | _ => none }
def BpduTellsWrongFalsely : Prop := bpduTellsRow.holds Tryd.pinned (OpenSpec.ofChange bpduTellsWrong)

/-- 'tolllaw10.BpduIs': WHATEVER THE INPUT: true; the input reads as it did. -/
def bpduIsSpec : ChangeSpec := { name := "bpduIs", fn := fun _ => fun
  | [d1, d2, d3, d4] => { results := [.lit (.bool true)], args := [d1, d2, d3, d4] }
  | _ => none }
def bpduIsRow : OpenClaim := { program := "ytcahlponmbnkcaadoor", sum := "6615d516989c7b8268bfaac66b7fc1af6229fd0f4a388623ee618319d4bbfb31", func := "toll/tolllaw10.BpduIs", spec := "bpduIs", unfollowed := true, recurses := true, named := ["toll/tag.kinds", "toll/ether.sap", "toll/bpdu.group", "toll/bpdu.sap"], plainKeys := false, apart := false, laid := [("toll/tag.kinds", laid_toll_tag_kinds), ("toll/ether.sap", laid_toll_ether_sap), ("toll/bpdu.group", laid_toll_bpdu_group), ("toll/bpdu.sap", laid_toll_bpdu_sap)] }
def BpduIsSaid : Prop := bpduIsRow.holds Tryd.pinned (OpenSpec.ofChange bpduIsSpec)

/-- ITS FALSE NEIGHBOUR: 'it returns false'. Refute it at one input. -/
def bpduIsWrong : ChangeSpec := { name := "bpduIs", fn := fun _ => fun
  | [d1, d2, d3, d4] => { results := [.lit (.bool false)], args := [d1, d2, d3, d4] }
  | _ => none }
def BpduIsWrongFalsely : Prop := bpduIsRow.holds Tryd.pinned (OpenSpec.ofChange bpduIsWrong)

/-- 'tolllaw10.BpduBack': WHATEVER THE INPUT: true; the input reads as it did. -/
def bpduBackSpec : ChangeSpec := { name := "bpduBack", fn := fun _ => fun
  | [d1, d2, d3, d4, d5] => { results := [.lit (.bool true)], args := [d1, d2, d3, d4, d5] }
  | _ => none }
def bpduBackRow : OpenClaim := { program := "ytcahlponmbnkcaadoor", sum := "6615d516989c7b8268bfaac66b7fc1af6229fd0f4a388623ee618319d4bbfb31", func := "toll/tolllaw10.BpduBack", spec := "bpduBack", unfollowed := true, recurses := true, named := ["toll/bpdu.group", "toll/bpdu.sap", "toll/tag.kinds", "toll/ether.sap"], plainKeys := false, apart := false, laid := [("toll/tag.kinds", laid_toll_tag_kinds), ("toll/ether.sap", laid_toll_ether_sap), ("toll/bpdu.group", laid_toll_bpdu_group), ("toll/bpdu.sap", laid_toll_bpdu_sap)] }
def BpduBackSaid : Prop := bpduBackRow.holds Tryd.pinned (OpenSpec.ofChange bpduBackSpec)

/-- ITS FALSE NEIGHBOUR: 'it returns false'. Refute it at one input. -/
def bpduBackWrong : ChangeSpec := { name := "bpduBack", fn := fun _ => fun
  | [d1, d2, d3, d4, d5] => { results := [.lit (.bool false)], args := [d1, d2, d3, d4, d5] }
  | _ => none }
def BpduBackWrongFalsely : Prop := bpduBackRow.holds Tryd.pinned (OpenSpec.ofChange bpduBackWrong)

/- THE SECOND FORM. 'bulk': how many values and letters a reading holds, each counted each time it is reached (what is shared counts as often as it is met; a slice's spare places count too). A statement '..UptoSaid' is the law's where the arguments, and the package variables that the reading takes, are together of bulk at most 1048576: NARROWER than '..Said'. Prove '..Said' where nothing that the law and all that it calls make is longer than what came in: it says more and counts as full. Else prove '..UptoSaid'. A law counts once. -/
mutual
def uptoBulk {H : Type} : DataW H → Nat
  | .lit (.string bytes) => bytes.length + 1
  | .lit _ => 1
  | .nil => 1
  | .ptr d => uptoBulk d + 1
  | .slice elems spare => uptoBulkAll elems + uptoBulkAll spare + 1
  | .agg parts => uptoBulkAll parts + 1
  | .iface _ d => uptoBulk d + 1
  | .map entries => uptoBulkEntries entries + 1
  | .held _ => 1
def uptoBulkAll {H : Type} : List (DataW H) → Nat
  | [] => 0
  | d :: r => uptoBulk d + uptoBulkAll r
def uptoBulkEntries {H : Type} : List (Lit × DataW H) → Nat
  | [] => 0
  | x :: r => uptoBulkEntry x + uptoBulkEntries r
def uptoBulkEntry {H : Type} : Lit × DataW H → Nat
  | (.string bytes, d) => bytes.length + uptoBulk d + 1
  | (_, d) => uptoBulk d + 1
 end
def uptoSmall : (H : Type) → List (DataW H) → Bool := fun _ ds => decide (uptoBulkAll ds ≤ 1048576)
def OpenSpec.upto (s : _root_.Go.ChangeSpec) : _root_.Go.OpenSpec := { _root_.Go.OpenSpec.ofChange s with cond := some uptoSmall }

/-- 'tolllaw10.BpduTells', WHERE WHAT IT READS IS OF BULK AT MOST 1048576: true; the input reads as it did. -/
def bpduTellsUptoRow : OpenClaim := { program := "ytcahlponmbnkcaadoor", sum := "6615d516989c7b8268bfaac66b7fc1af6229fd0f4a388623ee618319d4bbfb31", func := "toll/tolllaw10.BpduTells", spec := "bpduTells", unfollowed := true, recurses := true, named := ["toll/bpdu.group", "toll/bpdu.sap"], plainKeys := false, apart := false, laid := [("toll/bpdu.group", laid_toll_bpdu_group), ("toll/bpdu.sap", laid_toll_bpdu_sap)], narrowed := true }
def BpduTellsUptoSaid : Prop := bpduTellsUptoRow.holds Tryd.pinned (OpenSpec.upto bpduTellsSpec)

/-- 'tolllaw10.BpduIs', WHERE WHAT IT READS IS OF BULK AT MOST 1048576: true; the input reads as it did. -/
def bpduIsUptoRow : OpenClaim := { program := "ytcahlponmbnkcaadoor", sum := "6615d516989c7b8268bfaac66b7fc1af6229fd0f4a388623ee618319d4bbfb31", func := "toll/tolllaw10.BpduIs", spec := "bpduIs", unfollowed := true, recurses := true, named := ["toll/tag.kinds", "toll/ether.sap", "toll/bpdu.group", "toll/bpdu.sap"], plainKeys := false, apart := false, laid := [("toll/tag.kinds", laid_toll_tag_kinds), ("toll/ether.sap", laid_toll_ether_sap), ("toll/bpdu.group", laid_toll_bpdu_group), ("toll/bpdu.sap", laid_toll_bpdu_sap)], narrowed := true }
def BpduIsUptoSaid : Prop := bpduIsUptoRow.holds Tryd.pinned (OpenSpec.upto bpduIsSpec)

/-- 'tolllaw10.BpduBack', WHERE WHAT IT READS IS OF BULK AT MOST 1048576: true; the input reads as it did. -/
def bpduBackUptoRow : OpenClaim := { program := "ytcahlponmbnkcaadoor", sum := "6615d516989c7b8268bfaac66b7fc1af6229fd0f4a388623ee618319d4bbfb31", func := "toll/tolllaw10.BpduBack", spec := "bpduBack", unfollowed := true, recurses := true, named := ["toll/bpdu.group", "toll/bpdu.sap", "toll/tag.kinds", "toll/ether.sap"], plainKeys := false, apart := false, laid := [("toll/tag.kinds", laid_toll_tag_kinds), ("toll/ether.sap", laid_toll_ether_sap), ("toll/bpdu.group", laid_toll_bpdu_group), ("toll/bpdu.sap", laid_toll_bpdu_sap)], narrowed := true }
def BpduBackUptoSaid : Prop := bpduBackUptoRow.holds Tryd.pinned (OpenSpec.upto bpduBackSpec)

end Rows
end Go.Proofs.YtcahlponmbnkcaaDoor
