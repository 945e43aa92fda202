/- cut: a cutter of two bytes, and the number that they are. -/
import Derived.Test.YtcahlponmbnkcaaDoorS2
import Derived.Test.YtcahlponmbnkcaaDoorA2
import Derived.Laws.BitsLemmas
import Derived.Lib.EndianBits
namespace Go.Proofs.YtcahlponmbnkcaaDoor
open Go Go.RowKit

set_option maxRecDepth 100000 in
set_option maxHeartbeats 1000000 in
theorem cnone_any (g : Nat) (w : World) (hc : w.cell? ⟨g, 3, none⟩ = some (.bool true)) :
    Calls Tryd.prog 65 #[.pointer (some ⟨g, 0, none⟩)] w fun e w' => e = .returned (.bool false) ∧ w' = w := by
  go_enter Tryd.func65, Tryd.ntmps65
  go_wp2_with fail
  go_ret
  exact ⟨rfl, rfl⟩

set_option maxRecDepth 100000 in
set_option maxHeartbeats 1000000 in
theorem cerr_any (g : Nat) (e : Int) (w : World) (hc : w.cell? ⟨g, 3, none⟩ = some (.bool true)) (he : w.cell? ⟨g, 2, none⟩ = some (.int .i64 e)) :
    Calls Tryd.prog 62 #[.pointer (some ⟨g, 0, none⟩)] w fun r w' => r = .returned (.int .i64 e) ∧ w' = w := by
  go_enter Tryd.func62, Tryd.ntmps62
  go_wp2_with (go_at_call 65; refine (cnone_any _ _ hc).mono ?_; rintro r w1 ⟨rfl, rfl⟩)
  go_ret
  exact ⟨rfl, rfl⟩

set_option maxRecDepth 100000 in
set_option maxHeartbeats 1000000 in
theorem cleft_any (g : Nat) (a : Option Addr) (n c : Nat) (w : World) (hn : n ≤ 1000000) (hc : w.cell? ⟨g, 3, none⟩ = some (.bool true)) (he : w.cell? ⟨g, 2, none⟩ = some (.int .i64 0)) (hb : w.cell? ⟨g, 0, none⟩ = some (.slice a n c)) (ha : w.cell? ⟨g, 1, none⟩ = some (.int .i64 0)) :
    Calls Tryd.prog 64 #[.pointer (some ⟨g, 0, none⟩)] w fun r w' => r = .returned (.int .i64 n) ∧ ∃ m, w' = w.drewN m := by
  have hn1 : (n : Int) ≤ 1000000 := by omega
  go_enter Tryd.func64, Tryd.ntmps64
  go_wp2_with (go_at_call 62; refine (cerr_any _ 0 _ hc he).mono ?_; rintro r w1 ⟨rfl, rfl⟩)
  go_quiet (fail)
  go_wp2_with fail
  go_ret
  exact ⟨rfl, _, rfl⟩

theorem rd_two {w : World} {b off cap : Nat} {x y : Int} (h1 : w.cell? ⟨b, off, none⟩ = some (.int .u8 x)) (h2 : w.cell? ⟨b, off + 1, none⟩ = some (.int .u8 y)) (hc : 2 ≤ cap) (hm : cap ≤ maxLen) : Rd w (.slice (some ⟨b, off, none⟩) 2 cap) [x, y] :=
  .inr ⟨b, off, cap, rfl, hc, hm, fun j u hu => by
    match j, hu with
    | 0, hu => simp at hu; subst hu; exact h1
    | 1, hu => simp at hu; subst hu; exact h2
    | j + 2, hu => simp at hu⟩

set_option maxRecDepth 100000 in
set_option maxHeartbeats 1000000 in
/-- Both bytes are taken. -/
theorem ctake_two (g b cap : Nat) (x y : Int) (w : World) (hgb : g ≠ b) (hcap : 2 ≤ cap) (hmax : cap ≤ maxLen) (hc : w.cell? ⟨g, 3, none⟩ = some (.bool true)) (he : w.cell? ⟨g, 2, none⟩ = some (.int .i64 0))
    (hb : w.cell? ⟨g, 0, none⟩ = some (.slice (some ⟨b, 0, none⟩) 2 cap)) (ha : w.cell? ⟨g, 1, none⟩ = some (.int .i64 0)) (hf : w.frozen? ⟨g, 1, none⟩ = false)
    (hx : w.cell? ⟨b, 0, none⟩ = some (.int .u8 x)) (hy : w.cell? ⟨b, 1, none⟩ = some (.int .u8 y)) :
    Calls Tryd.prog 61 #[.pointer (some ⟨g, 0, none⟩), .int .i64 2] w fun r w' => ∃ v, r = .returned v ∧ Rd w' v [x, y] ∧ Below g w w' ∧ w.heap.size ≤ w'.heap.size := by
  have HMX := Lib.hid hmax
  have HX := Lib.hid hx
  have HY := Lib.hid hy
  have HGB := Lib.hid hgb
  have HLT : Hid (g < w.heap.size) := lt_of_cell hc
  have hcap2 : (2 : Int) ≤ cap := by omega
  have hw0 : IntKind.i64.wrap 0 = 0 := by decide
  have hw2 : IntKind.i64.wrap (2 - 2) = 0 := by decide
  clear hmax hx hy hgb
  go_enter Tryd.func61, Tryd.ntmps61
  go_wp2_with (first
    | (go_at_call 62; refine (cerr_any _ 0 _ hc he).mono ?_; rintro r w1 ⟨rfl, hw⟩; rw [hw]; clear hw w1)
    | (go_at_call 64; refine (cleft_any _ _ 2 _ _ (by simp) hc he hb ha).mono ?_; rintro r w1 ⟨rfl, m, rfl⟩))
  refine still_tail_drew 15 (by kernel_rfl) (by kernel_rfl) ?_
  simp only [List.take_succ_cons, List.take_zero, List.drop_succ_cons, List.drop_zero]
  iterate 15 still_step
  refine wpStill_nil ?_
  have hB : Below g w (((w.drewN m).setCell ⟨g, 1, none⟩ (.int .i64 2)).drew) := (((bd (Below.refl _ _))).setCell (by simp) _).drew
  have HR : Rd (((w.drewN m).setCell ⟨g, 1, none⟩ (.int .i64 2)).drew) (.slice (some ⟨b, 0, none⟩) 2 cap) [x, y] := by
    have h1 := HX.out
    have h2 := HY.out
    have h3 := HGB.out
    refine rd_two ?_ ?_ hcap HMX.out
    · rw [World.cell?_drew]; exact (World.cell?_setCell_other (a := ⟨g, 1, none⟩) (h := fun e => h3 (congrArg Addr.block e)) ..).trans h1
    · rw [World.cell?_drew]; exact (World.cell?_setCell_other (a := ⟨g, 1, none⟩) (h := fun e => h3 (congrArg Addr.block e)) ..).trans h2
  have HB := Lib.hid hB
  have HSZ : w.heap.size ≤ (((w.drewN m).setCell ⟨g, 1, none⟩ (.int .i64 2)).drew).heap.size := by simp [World.setCell]
  clear hB hc he hb ha hf
  generalize ((w.drewN m).setCell ⟨g, 1, none⟩ (.int .i64 2)).drew = W at *
  go_wp2_with (go_at_call 48; refine (clone_any _ [x, y] _ HR (by simp)).mono ?_; rintro r w1 ⟨v, rfl, h1, h2⟩)
  go_ret
  exact ⟨v, rfl, h1.rd, HB.out.trans (h2.mono (by have := HLT.out; omega)), Nat.le_trans HSZ h2.size⟩


theorem Rd.two {w : World} {v : Value} {x y : Int} (h : Rd w v [x, y]) : ∃ b off cap, v = .slice (some ⟨b, off, none⟩) 2 cap ∧ w.cell? ⟨b, off, none⟩ = some (.int .u8 x) ∧ w.cell? ⟨b, off + 1, none⟩ = some (.int .u8 y) := by
  rcases h with ⟨_, h⟩ | ⟨b, off, cap, rfl, _, _, h3⟩
  · cases h
  · exact ⟨b, off, cap, rfl, h3 0 _ rfl, h3 1 _ rfl⟩

set_option maxRecDepth 100000 in
set_option maxHeartbeats 1000000 in
theorem cnumber_two (g b cap : Nat) (x y : Int) (w : World) (hgb : g ≠ b) (hcap : 2 ≤ cap) (hmax : cap ≤ maxLen) (hc : w.cell? ⟨g, 3, none⟩ = some (.bool true)) (he : w.cell? ⟨g, 2, none⟩ = some (.int .i64 0))
    (hb : w.cell? ⟨g, 0, none⟩ = some (.slice (some ⟨b, 0, none⟩) 2 cap)) (ha : w.cell? ⟨g, 1, none⟩ = some (.int .i64 0)) (hf : w.frozen? ⟨g, 1, none⟩ = false)
    (hx : w.cell? ⟨b, 0, none⟩ = some (.int .u8 x)) (hy : w.cell? ⟨b, 1, none⟩ = some (.int .u8 y)) (hx0 : 0 ≤ x) (hx1 : x < 256) (hy0 : 0 ≤ y) (hy1 : y < 256) :
    Calls Tryd.prog 58 #[.pointer (some ⟨g, 0, none⟩), .int .i64 2] w fun r w' => r = .returned (.int .u16 (x * 256 + y)) ∧ Below g w w' ∧ w.heap.size ≤ w'.heap.size := by
  go_enter Tryd.func58, Tryd.ntmps58
  go_wp2_with (go_at_call 61; refine (ctake_two g b cap x y _ hgb hcap hmax hc he hb ha hf hx hy).mono ?_; rintro r w1 ⟨v, rfl, h1, h2, h3⟩; obtain ⟨b', off, cap', rfl, hx', hy'⟩ := Rd.two h1)
  have HB := Lib.hid h2
  have HS := Lib.hid h3
  clear h2 h3 hc he hb ha hf hx hy h1
  go_wp2_with fail
  go_loop [5, 12] (fun s i => (i = .int .i64 0 ∧ s = .int .u32 0) ∨ (i = .int .i64 1 ∧ s = .int .u32 x) ∨ (i = .int .i64 2 ∧ s = .int .u32 (x * 256 + y))) (fun _ i => 2 - (intOf i).toNat)
  case atStart => exact .inl ⟨rfl, rfl⟩
  case round =>
    rcases hrel with ⟨rfl, rfl⟩ | ⟨rfl, rfl⟩ | ⟨rfl, rfl⟩
    · have hz : bits BinOp.or IntKind.u32 0 x = x := by
        have := bits_join .u32 32 (by decide) wraps_u32 8 0 x (by omega) (by omega) (by omega) hx0 (by omega) (by omega)
        simpa using this
      go_wp2_with fail
      go_round
      case rel => exact .inr (.inl ⟨rfl, rfl⟩)
      case measure => simp [intOf]
    · have hz : bits BinOp.or IntKind.u32 (x * 256) y = x * 256 + y :=
        bits_join .u32 32 (by decide) wraps_u32 8 (x * 256) y (by omega) (by omega) (by omega) hy0 (by omega) (by omega)
      go_wp2_with fail
      go_round
      case rel => exact .inr (.inr ⟨rfl, rfl⟩)
      case measure => simp [intOf]
    · go_wp2_with fail
      go_ret
      exact ⟨rfl, HB.out, HS.out⟩

set_option maxRecDepth 100000 in
set_option maxHeartbeats 1000000 in
theorem ctwo_any (g b cap : Nat) (x y : Int) (w : World) (hgb : g ≠ b) (hcap : 2 ≤ cap) (hmax : cap ≤ maxLen) (hc : w.cell? ⟨g, 3, none⟩ = some (.bool true)) (he : w.cell? ⟨g, 2, none⟩ = some (.int .i64 0))
    (hb : w.cell? ⟨g, 0, none⟩ = some (.slice (some ⟨b, 0, none⟩) 2 cap)) (ha : w.cell? ⟨g, 1, none⟩ = some (.int .i64 0)) (hf : w.frozen? ⟨g, 1, none⟩ = false)
    (hx : w.cell? ⟨b, 0, none⟩ = some (.int .u8 x)) (hy : w.cell? ⟨b, 1, none⟩ = some (.int .u8 y)) (hx0 : 0 ≤ x) (hx1 : x < 256) (hy0 : 0 ≤ y) (hy1 : y < 256) :
    Calls Tryd.prog 51 #[.pointer (some ⟨g, 0, none⟩)] w fun r w' => r = .returned (.int .u16 (x * 256 + y)) ∧ Below g w w' ∧ w.heap.size ≤ w'.heap.size := by
  go_enter Tryd.func51, Tryd.ntmps51
  go_wp2_with (go_at_call 58; refine (cnumber_two g b cap x y _ hgb hcap hmax hc he hb ha hf hx hy hx0 hx1 hy0 hy1).mono ?_; rintro r w1 ⟨rfl, h2, h3⟩)
  go_ret
  exact ⟨rfl, h2, h3⟩

theorem cell_new (w : World) (cs : Array Value) (t k : Nat) (u : Value) (h : cs[k]? = some u) : (w.alloc (.cells cs t)).cell? ⟨w.heap.size, k, none⟩ = some u := by
  rw [World.cell?_alloc_at _ _ _ _ rfl]; exact h
theorem cell_alloc_lt (w : World) (o : Obj) (a : Addr) (h : a.block < w.heap.size) : (w.alloc o).cell? a = w.cell? a :=
  World.cell?_of_block (Below.heap_alloc w o a.block h)

theorem bytes_two {B : Nat} {w : World} {v : Value} {x y : Int} (h : Bytes B w v [x, y]) : ∃ b cap, v = .slice (some ⟨b, 0, none⟩) 2 cap ∧ b < w.heap.size ∧ 2 ≤ cap ∧ cap ≤ maxLen ∧ w.cell? ⟨b, 0, none⟩ = some (.int .u8 x) ∧ w.cell? ⟨b, 1, none⟩ = some (.int .u8 y) := by
  rcases h.2 with ⟨_, h0⟩ | ⟨b, cap, cur, rfl, hB, hg, hn, hc, hs, ht⟩
  · cases h0
  have hlt : b < w.heap.size := by
    by_cases h : b < w.heap.size
    · exact h
    · rw [Array.getElem?_eq_none (by omega)] at hg; cases hg
  have h3 := World.ownsRow.cells h rfl 0 (.int .u8 x) rfl
  have h4 := World.ownsRow.cells h rfl 1 (.int .u8 y) rfl
  rw [Addr.add_lit] at h3 h4
  exact ⟨b, cap, rfl, hlt, hn, hc, by simpa using h3, by simpa using h4⟩

set_option maxRecDepth 100000 in
set_option maxHeartbeats 1000000 in
theorem cnew_two (v : Value) (x y : Int) (w : World) (hr : Rd w v [x, y]) :
    Calls Tryd.prog 50 #[v] w fun r w' => ∃ g b cap, r = .returned (.pointer (some ⟨g, 0, none⟩)) ∧ Below w.heap.size w w' ∧ w.heap.size ≤ g ∧ g ≠ b ∧ 2 ≤ cap ∧ cap ≤ maxLen ∧ w'.cell? ⟨g, 3, none⟩ = some (.bool true) ∧ w'.cell? ⟨g, 2, none⟩ = some (.int .i64 0) ∧
      w'.cell? ⟨g, 0, none⟩ = some (.slice (some ⟨b, 0, none⟩) 2 cap) ∧ w'.cell? ⟨g, 1, none⟩ = some (.int .i64 0) ∧ w'.frozen? ⟨g, 1, none⟩ = false ∧ w'.cell? ⟨b, 0, none⟩ = some (.int .u8 x) ∧ w'.cell? ⟨b, 1, none⟩ = some (.int .u8 y) := by
  have HR := Lib.hid hr
  clear hr
  go_enter Tryd.func50, Tryd.ntmps50
  go_wp2_with (go_at_call 48; refine (clone_any v [x, y] _ HR.out (by simp)).mono ?_; rintro r w1 ⟨v', rfl, h1, h2⟩; obtain ⟨b, cap, rfl, hlt, hn, hc, h3, h4⟩ := bytes_two h1)
  have h5 := h2.size
  go_ret
  refine ⟨w1.heap.size, b, cap, rfl, h2.alloc h5 _, h5, by omega, hn, hc, ?_, ?_, ?_, ?_, ?_, ?_, ?_⟩
  · exact cell_new _ _ 110 3 _ rfl
  · exact cell_new _ _ 110 2 _ rfl
  · exact cell_new _ _ 110 0 _ rfl
  · exact cell_new _ _ 110 1 _ rfl
  · exact World.frozen?_alloc_at _ _ _ _ rfl
  · rw [cell_alloc_lt _ _ _ hlt]; exact h3
  · rw [cell_alloc_lt _ _ _ hlt]; exact h4
end Go.Proofs.YtcahlponmbnkcaaDoor
