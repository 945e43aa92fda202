/- tag: Plain makes one tag. -/
import Derived.Test.YtcahlponmbnkcaaDoorV5
namespace Go.Proofs.YtcahlponmbnkcaaDoor
open Go Go.RowKit

theorem plain_any (n : Int) (w : World) :
    Calls Tryd.prog 15 #[.int .u16 n] w fun e w' => e = .returned (.agg #[.int .u16 33024, .int .u8 0, .bool false, .int .u16 n]) ∧ Below w.heap.size w w' := by
  go_enter Tryd.func15, Tryd.ntmps15
  go_wp2_with fail
  refine bodyPost_ret (results_cell_row (P := Tryd.prog) Tryd.results15 _ _ w.heap.size 52 #[.int .u16 33024, .int .u8 0, .bool false, .int .u16 n] (0, 0) _ rfl (heap_alloc_new _ _) Tryd.underlying52 rfl (by kernel_rfl)) rfl ⟨rfl, (Below.refl _ _).alloc (Nat.le_refl _) _⟩
end Go.Proofs.YtcahlponmbnkcaaDoor
