/- tag: tags are read. -/
import Derived.Test.YtcahlponmbnkcaaDoorW1
import Derived.Deep.AppendLies
import Derived.Deep.RegionHeld3
import Derived.Deep.AppendLies
namespace Go.Proofs.YtcahlponmbnkcaaDoor
open Go Go.RowKit

set_option maxRecDepth 100000 in
set_option maxHeartbeats 1000000 in
/-- No tag stands there. -/
theorem read_none (b off cap n : Nat) (x y : Int) (bs : List Int) (w : World) (hG : Gk w) (hr : Rd w (.slice (some ⟨b, off, none⟩) n cap) (x :: y :: bs)) (hn : n = bs.length + 2) (hl : bs.length ≤ 3000) (hx0 : 0 ≤ x) (hx1 : x < 256) (hy0 : 0 ≤ y) (hy1 : y < 256) (ht : x * 256 + y ≤ 1500) :
    Calls Tryd.prog 34 #[.slice (some ⟨b, off, none⟩) n cap] w fun e w' => ∃ v, e = .returned (.tuple #[.slice none 0 0, v, .int .i64 0]) ∧ Rd w' v (x :: y :: bs) ∧ Below w.heap.size w w' := by
  have hcells : n ≤ cap ∧ cap ≤ maxLen ∧ w.cell? ⟨b, off, none⟩ = some (.int .u8 x) ∧ w.cell? ⟨b, off + 1, none⟩ = some (.int .u8 y) := by
    rcases hr with ⟨e, _⟩ | ⟨b', off', cap', e, h1, h2, h3⟩
    · cases e
    · injection e with e1 e2 e3
      injection e1 with e1
      injection e1 with e4 e5 _
      subst e4 e5 e3
      exact ⟨by rw [hn]; simpa using h1, h2, h3 0 _ rfl, h3 1 _ rfl⟩
  obtain ⟨hnc, hm, hx, hy⟩ := hcells
  have HR := Lib.hid hr
  have HG := Lib.hid hG
  have H2 : Hid (2 ≤ n) := Lib.hid (by omega)
  have HX := Lib.hid hx
  have HY := Lib.hid hy
  have hf : (decide (x * 256 + y = 34984) || decide (x * 256 + y = 33024)) = false := by simp; omega
  have HL : Hid ((x :: y :: bs).length ≤ 100000) := Lib.hid (by simp; omega)
  clear hr hG hx hy hn hl
  go_enter Tryd.func34, Tryd.ntmps34
  go_wp2_with fail
  go_loopw [0, 2] (fun s l wr => s = .slice (some ⟨b, off, none⟩) n cap ∧ l = .slice none 0 0 ∧ wr = w) (fun _ _ _ => 0)
  case atStart => exact ⟨rfl, rfl, rfl⟩
  case round =>
    obtain ⟨rfl, rfl, rfl⟩ := hrel
    go_wp2_with (first
      | (go_at_call 47; go_loud (refine (begins_0 b off cap n x y _ HG.out H2.out hnc hm HX.out HY.out hx0 hx1 hy0 hy1).mono ?_; rintro e w1 ⟨rfl, hb1⟩; rw [hf]; have HB1 := Lib.hid hb1; clear hb1))
      | (go_at_call 48; go_loud (refine (clone_any _ (x :: y :: bs) _ (HR.out.below HB1.out) HL.out).mono ?_; rintro e w2 ⟨v, rfl, hv, hb2⟩)))
    go_ret3
    exact ⟨v, rfl, hv.rd, HB1.out.trans (hb2.mono HB1.out.size)⟩

/-- The first cells of what is read, and what stands behind. -/
theorem Rd.split {w : World} {b off cap n : Nat} {bs : List Int} (hr : Rd w (.slice (some ⟨b, off, none⟩) n cap) bs) : n = bs.length ∧ n ≤ cap ∧ cap ≤ maxLen ∧ (∀ j u, (bs.map (Value.int .u8))[j]? = some u → w.cell? ⟨b, off + j, none⟩ = some u) := by
  rcases hr with ⟨e, _⟩ | ⟨b', off', cap', e, h1, h2, h3⟩
  · cases e
  · injection e with e1 e2 e3
    injection e1 with e1
    injection e1 with e4 e5 _
    subst e4 e5 e3 e2
    exact ⟨rfl, h1, h2, h3⟩

theorem Rd.drop {w : World} {b off cap n : Nat} {bs : List Int} (hr : Rd w (.slice (some ⟨b, off, none⟩) n cap) bs) (k : Nat) (hk : k ≤ n) : Rd w (.slice (some ⟨b, off + k, none⟩) (n - k) (cap - k)) (bs.drop k) := by
  obtain ⟨h1, h2, h3, h4⟩ := hr.split
  refine .inr ⟨b, off + k, cap - k, by rw [List.length_drop, h1], by rw [List.length_drop]; omega, by omega, fun j u hu => ?_⟩
  rw [Nat.add_assoc]
  exact h4 (k + j) u (by simpa using hu)

theorem Tryd.info52 : (Tryd.prog.info? 52).map (fun i => (i.zero, i.size, i.bytes)) = some (some (.agg #[.int .u16 0, .int .u8 0, .bool false, .int .u16 0]), 4, 6) := by kernel_rfl

theorem info_parts52 {t s by_ : Nat} {z : Value} {P : Program} (h : (P.info? t).map (fun i => (i.zero, i.size, i.bytes)) = some (some z, s, by_)) : ∃ i, P.info? t = some i ∧ i.zero = some z ∧ i.size = s ∧ i.bytes = by_ := by
  cases hi : P.info? t with
  | none => rw [hi] at h; cases h
  | some i => rw [hi] at h; simp at h; exact ⟨i, rfl, h.1, h.2.1, h.2.2⟩

set_option maxRecDepth 100000 in
set_option maxHeartbeats 1000000 in
/-- One tag stands there. -/
theorem read_one (b off cap n : Nat) (p q x y : Int) (bs : List Int) (w : World) (hG : Gk w) (hr : Rd w (.slice (some ⟨b, off, none⟩) n cap) (129 :: 0 :: p :: q :: x :: y :: bs)) (hl : bs.length ≤ 3000) (hp0 : 0 ≤ p) (hp1 : p < 256) (hq0 : 0 ≤ q) (hq1 : q < 256) (hpq : p * 256 + q ≤ 4095)
    (hx0 : 0 ≤ x) (hx1 : x < 256) (hy0 : 0 ≤ y) (hy1 : y < 256) (ht : x * 256 + y ≤ 1500) :
    Calls Tryd.prog 34 #[.slice (some ⟨b, off, none⟩) n cap] w fun e w' => ∃ v t c, e = .returned (.tuple #[.slice (some ⟨t, 0, none⟩) 1 c, v, .int .i64 0]) ∧ Rd w' v (x :: y :: bs) ∧ Below w.heap.size w w' := by
  obtain ⟨hn, hnc, hm, hc⟩ := hr.split
  have hlen : 6 ≤ n := by rw [hn]; simp
  have HC := Lib.hid hc
  have HR := Lib.hid hr
  have HG := Lib.hid hG
  have hni : ¬ (n : Int) < 4 := by omega
  have hci : (4 : Int) ≤ cap := by omega
  have hc4 : ¬ cap = 4 := by omega
  have hc2 : ¬ cap = 2 := by omega
  have HN : Hid (n = bs.length + 6) := Lib.hid (by rw [hn]; simp)
  have HL : Hid ((x :: y :: bs).length ≤ 100000) := Lib.hid (by simp; omega)
  clear hr hG hc hn hl
  go_enter Tryd.func34, Tryd.ntmps34
  go_wp2_with fail
  go_loopw [0, 2] (fun s l wr => (s = .slice (some ⟨b, off, none⟩) n cap ∧ l = .slice none 0 0 ∧ wr = w) ∨ (s = .slice (some ⟨b, off + 4, none⟩) (n - 4) (cap - 4) ∧ (∃ t c, l = .slice (some ⟨t, 0, none⟩) 1 c) ∧ Below w.heap.size w wr))
    (fun _ l _ => match l with | .slice none _ _ => 1 | _ => 0)
  case atStart => exact .inl ⟨rfl, rfl, rfl⟩
  case round =>
    rcases hrel with ⟨rfl, rfl, rfl⟩ | ⟨rfl, ⟨t, c, rfl⟩, hb⟩
    · go_wp2_with (go_at_call 47; go_loud (refine (begins_0 b off cap n 129 0 _ HG.out (by omega) hnc hm (HC.out 0 _ rfl) (HC.out 1 _ rfl) (by decide) (by decide) (by decide) (by decide)).mono ?_; rintro e w1 ⟨rfl, hb1⟩; rw [show (decide ((129 : Int) * 256 + 0 = 34984) || decide ((129 : Int) * 256 + 0 = 33024)) = true by decide, show (129 : Int) * 256 + 0 = 33024 by decide]; have HB1 := Lib.hid hb1; clear hb1))
      have hpq : p * 256 + q < 65536 := by omega
      have HPQ : Hid (Rd w1.drew (.slice (some ⟨b, off + 2, none⟩) 2 (cap - 2)) [p, q]) :=
        Lib.hid (Rd.below (rd_two (HC.out 2 _ rfl) (HC.out 3 _ rfl) (by omega) (by omega)) HB1.out.drew)
      have HS0 : RowKit.Below wr.heap.size wr w1.drew := HB1.out.drew
      obtain ⟨i0, hi, hz0, hz1, hz2⟩ := info_parts52 Tryd.info52
      have HI := Lib.hid hi
      have HZ0 := Lib.hid hz0
      clear hi hz0
      go_region_held3 (fun w' => RowKit.Below wr.heap.size wr w') (first
          | exact HS0
          | exact RowKit.Below.trans HS0 (RowKit.Below.mono k1 HS0.size)
          | exact RowKit.Below.trans (by assumption) (RowKit.Below.mono m1 (Nat.le_trans HS0.size k2))
          | exact RowKit.Below.trans (by assumption) (RowKit.Below.mono hb4 (RowKit.Below.size (by assumption)))
          | exact RowKit.Below.alloc (by assumption) (RowKit.Below.size (by assumption)) _
          | exact RowKit.Below.grown (by assumption) hgrow (RowKit.Below.size (by assumption)) (fun _ h => by cases h)
          | go_keep)
        (first
          | (go_at_call 50; go_loud (refine (cnew_two _ p q _ HPQ.out).mono ?_; rintro e w2 ⟨g, bb, cc, rfl, k1, k2, k3, k4, k5, k6, k7, k8, k9, k10, k11, k12⟩))
          | (go_at_call 51; go_loud (refine (ctwo_any g bb cc p q _ k3 k4 k5 k6 k7 k8 k9 k10 k11 k12 hp0 hp1 hq0 hq1).mono ?_; rintro e w3 ⟨rfl, m1, m2⟩))
          | (go_at_call 49; go_loud (refine (tof_agg (p * 256 + q) _ (by omega) (by omega)).mono ?_; rintro e w4 ⟨rfl, hb4⟩))
          | (go_loud (refine step_append_lies _ rfl (.tmp 22) (.tmp 29) 29 rfl wr.heap.size 52 i0 _ 4 6 Tryd.underlying29 HI.out HZ0.out hz1 hz2 rfl (by decide) (.slice none 0 0) 0 [] rfl (World.ownsRow_nil _ _ _ _) ⟨_, 0, none⟩ 1 1 [.int .u16 33024, .int .u8 0, .bool false, .int .u16 (p * 256 + q)] rfl rfl (World.news_of_block (heap_alloc_new _ _)) (by intro u hu; simp at hu; rcases hu with rfl | rfl | rfl | rfl <;> rfl) (by decide) (by decide) (by decide) (RowKit.Below.size (by assumption)) _ rfl ?_; intro g' cap' w6 hown hgrow hat hlt)))
      have HB6 : Hid (RowKit.Below wr.heap.size wr w6) := Lib.hid (by assumption)
      clear hown hgrow hat hlt k1 k2 k3 k4 k5 k6 k7 k8 k9 k10 k11 k12 m1 m2 hb4
      go_wp2_with fail
      exact ⟨.inr ⟨rfl, ⟨g', cap', rfl⟩, HB6.out⟩, by simp⟩
    · have HB := Lib.hid hb
      clear hb
      have HR4 := Lib.hid ((HR.out.drop 4 (by omega)).below HB.out)
      have HX := Lib.hid (Below.cell_some HB.out (HC.out 4 _ rfl))
      have HY : Hid (wr.cell? ⟨b, off + 4 + 1, none⟩ = some (.int .u8 y)) := Lib.hid (Below.cell_some HB.out (HC.out 5 _ rfl))
      have HG4 := Lib.hid (HG.out.below HB.out)
      have H42 : Hid (2 ≤ n - 4 ∧ n - 4 ≤ cap - 4 ∧ cap - 4 ≤ maxLen) := Lib.hid ⟨by omega, by omega, by omega⟩
      have hf : decide (x * 256 + y = 33024) = false := by simp; omega
      clear hni hci hc4 hc2 hlen hnc hm HN
      generalize n - 4 = n4 at *
      generalize cap - 4 = c4 at *
      go_wp2_with (first
        | (go_at_call 47; go_loud (refine (begins_1 b (off + 4) c4 n4 x y _ HG4.out H42.out.1 H42.out.2.1 H42.out.2.2 HX.out HY.out hx0 hx1 hy0 hy1).mono ?_; rintro e w1 ⟨rfl, hb1⟩; rw [hf]; have HB1 := Lib.hid hb1; clear hb1))
        | (go_at_call 48; go_loud (refine (clone_any _ (x :: y :: bs) _ (HR4.out.below HB1.out) HL.out).mono ?_; rintro e w2 ⟨v, rfl, hv, hb2⟩)))
      go_ret3
      exact ⟨v, t, c, rfl, hv.rd, HB.out.trans ((HB1.out.trans (hb2.mono HB1.out.size)).mono HB.out.size)⟩
end Go.Proofs.YtcahlponmbnkcaaDoor
