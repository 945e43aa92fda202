/- tag: what bytes begin with. -/
import Derived.Test.YtcahlponmbnkcaaDoorV6
namespace Go.Proofs.YtcahlponmbnkcaaDoor
open Go Go.RowKit

set_option maxRecDepth 100000 in
set_option maxHeartbeats 1000000 in
theorem begins_0 (b off cap n : Nat) (x y : Int) (w : World) (hG : Gk w) (hn : 2 ≤ n) (hnc : n ≤ cap) (hm : cap ≤ maxLen) (hx : w.cell? ⟨b, off, none⟩ = some (.int .u8 x)) (hy : w.cell? ⟨b, off + 1, none⟩ = some (.int .u8 y)) (hx0 : 0 ≤ x) (hx1 : x < 256) (hy0 : 0 ≤ y) (hy1 : y < 256) :
    Calls Tryd.prog 47 #[.slice (some ⟨b, off, none⟩) n cap, .int .i64 0] w fun e w' => e = .returned (.tuple #[.int .u16 (x * 256 + y), .bool (decide (x * 256 + y = 34984) || decide (x * 256 + y = 33024))]) ∧ Below w.heap.size w w' := by
  obtain ⟨b0, o0, c0, b1, o1, c1, h0, h1, h2, h3, h4⟩ := hG.ks
  have HK := Lib.hid (two_cells h2 h3)
  have HH0 := Lib.hid h0
  have HR := Lib.hid (rd_two hx hy (Nat.le_trans hn hnc) hm)
  clear hG h0 h1 h2 h3 h4 hx hy
  have hni : ¬ (n : Int) < 2 := by omega
  have hci : (2 : Int) ≤ cap := by omega
  have hw0 : IntKind.i64.wrap 0 = 0 := by decide
  have hc0 : ¬ cap = 0 := by omega
  go_enter Tryd.func47, Tryd.ntmps47
  go_wp2_with (first
    | (go_at_call 50; refine (cnew_two _ x y _ HR.out).mono ?_; rintro e w1 ⟨g, bb, cc, rfl, k1, k2, k3, k4, k5, k6, k7, k8, k9, k10, k11, k12⟩; have HB1 := Lib.hid k1; have HS1 := Lib.hid k2)
    | (go_at_call 51; go_loud (refine (ctwo_any g bb cc x y _ k3 k4 k5 k6 k7 k8 k9 k10 k11 k12 hx0 hx1 hy0 hy1).mono ?_; rintro e w2 ⟨rfl, m1, m2⟩; have HB2 := Lib.hid (HB1.out.trans (m1.mono HS1.out)); have hg2 := Below.cell_some HB2.out HH0.out; clear m1 m2 k1 k2 k3 k4 k5 k6 k7 k8 k9 k10 k11 k12))
    | (go_at_call 43; refine (contains_any b0 o0 c0 2 [34984, 33024] (x * 256 + y) _ rfl (by omega) (HK.out.below HB2.out)).mono ?_; rintro e w3 ⟨rfl, hw⟩; rw [hw]; clear hw w3))
  go_ret2
  exact ⟨rfl, HB2.out⟩

set_option maxRecDepth 100000 in
set_option maxHeartbeats 1000000 in
theorem begins_1 (b off cap n : Nat) (x y : Int) (w : World) (hG : Gk w) (hn : 2 ≤ n) (hnc : n ≤ cap) (hm : cap ≤ maxLen) (hx : w.cell? ⟨b, off, none⟩ = some (.int .u8 x)) (hy : w.cell? ⟨b, off + 1, none⟩ = some (.int .u8 y)) (hx0 : 0 ≤ x) (hx1 : x < 256) (hy0 : 0 ≤ y) (hy1 : y < 256) :
    Calls Tryd.prog 47 #[.slice (some ⟨b, off, none⟩) n cap, .int .i64 1] w fun e w' => e = .returned (.tuple #[.int .u16 (x * 256 + y), .bool (decide (x * 256 + y = 33024))]) ∧ Below w.heap.size w w' := by
  obtain ⟨b0, o0, c0, b1, o1, c1, h0, h1, h2, h3, h4⟩ := hG.ks
  have HK := Lib.hid (one_cell' h4)
  have HH0 := Lib.hid h1
  have HR := Lib.hid (rd_two hx hy (Nat.le_trans hn hnc) hm)
  clear hG h0 h1 h2 h3 h4 hx hy
  have hni : ¬ (n : Int) < 2 := by omega
  have hci : (2 : Int) ≤ cap := by omega
  have hw0 : IntKind.i64.wrap 0 = 0 := by decide
  have hc0 : ¬ cap = 0 := by omega
  go_enter Tryd.func47, Tryd.ntmps47
  go_wp2_with (first
    | (go_at_call 50; refine (cnew_two _ x y _ HR.out).mono ?_; rintro e w1 ⟨g, bb, cc, rfl, k1, k2, k3, k4, k5, k6, k7, k8, k9, k10, k11, k12⟩; have HB1 := Lib.hid k1; have HS1 := Lib.hid k2)
    | (go_at_call 51; go_loud (refine (ctwo_any g bb cc x y _ k3 k4 k5 k6 k7 k8 k9 k10 k11 k12 hx0 hx1 hy0 hy1).mono ?_; rintro e w2 ⟨rfl, m1, m2⟩; have HB2 := Lib.hid (HB1.out.trans (m1.mono HS1.out)); have hg2 := Below.cell_some HB2.out HH0.out; clear m1 m2 k1 k2 k3 k4 k5 k6 k7 k8 k9 k10 k11 k12))
    | (go_at_call 43; refine (contains_any b1 o1 c1 1 [33024] (x * 256 + y) _ rfl (by omega) (HK.out.below HB2.out)).mono ?_; rintro e w3 ⟨rfl, hw⟩; rw [hw]; clear hw w3))
  go_ret2
  exact ⟨rfl, HB2.out⟩
end Go.Proofs.YtcahlponmbnkcaaDoor
