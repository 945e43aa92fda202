/- ether: the word at a row's head. -/
import Derived.Test.YtcahlponmbnkcaaDoorW3
namespace Go.Proofs.YtcahlponmbnkcaaDoor
open Go Go.RowKit

theorem word_head (b off cap n : Nat) (x y : Int) (bs : List Int) (w : World) (hr : Rd w (.slice (some ⟨b, off, none⟩) n cap) (x :: y :: bs)) (hx0 : 0 ≤ x) (hx1 : x < 256) (hy0 : 0 ≤ y) (hy1 : y < 256) :
    Calls Tryd.prog 36 #[.slice (some ⟨b, off, none⟩) n cap] w fun e w' => e = .returned (.int .i64 (x * 256 + y)) ∧ Below w.heap.size w w' := by
  obtain ⟨hn, hnc, hm, hc⟩ := hr.split
  have hx' : w.cell? ⟨b, off, none⟩ = some (.int .u8 x) := hc 0 _ rfl
  have hy' : w.cell? ⟨b, off + 1, none⟩ = some (.int .u8 y) := hc 1 _ rfl
  have hn2 : 2 ≤ n := by rw [hn]; simp
  have hi0 : (0 : Int) < n := by omega
  have hi1 : (1 : Int) < n := by omega
  have hw : IntKind.i64.wrap (x * 256) = x * 256 := by rw [IntKind.wrap_i64]; omega
  have hz : bits BinOp.or IntKind.i64 (x * 256) y = x * 256 + y :=
    bits_join .i64 63 (by decide) (fun n h0 h1 => by rw [IntKind.wrap_i64]; omega) 8 (x * 256) y (by omega) (by omega) (by omega) hy0 (by omega) (by omega)
  clear hr hc hn
  go_enter Tryd.func36, Tryd.ntmps36
  go_wp2_with fail
  go_quiet (fail)
  go_wp2_with fail
  go_ret
  exact ⟨rfl, bd (Below.refl _ _)⟩
end Go.Proofs.YtcahlponmbnkcaaDoor
