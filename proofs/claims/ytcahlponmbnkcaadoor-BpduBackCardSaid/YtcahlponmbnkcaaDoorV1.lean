/- tag: what kinds there are, and whether tags may be. -/
import Derived.Test.YtcahlponmbnkcaaDoorU1
import Derived.Test.YtcahlponmbnkcaaDoorF1
namespace Go.Proofs.YtcahlponmbnkcaaDoor
open Go Go.RowKit Go.Sort

set_option maxRecDepth 100000 in
set_option maxHeartbeats 1000000 in
theorem index_any (b o c n : Nat) (ks : List Int) (x : Int) (w : World) (hn : n = ks.length) (hl : n ≤ 100000) (h : ∀ j, j < n → w.cell? ⟨b, o + j, none⟩ = some (.int .u16 (ks.getD j 0))) :
    Calls Tryd.prog 53 #[.slice (some ⟨b, o, none⟩) n c, .int .u16 x] w fun e w' => w' = w ∧ ∃ r : Int, e = .returned (.int .i64 r) ∧ decide (0 ≤ r) = decide (x ∈ ks) := by
  have HN := Lib.hid hn
  have H := Lib.hid h
  clear hn h
  go_enter Tryd.func53, Tryd.ntmps53
  go_wp2_with fail
  go_loop [8] (fun i => ∃ k : Nat, k ≤ n ∧ i = .int .i64 k ∧ ∀ j, j < k → ks.getD j 0 ≠ x) (fun i => n - (intOf i).toNat)
  case atStart => exact ⟨0, Nat.zero_le _, rfl, fun j hj => absurd hj (Nat.not_lt_zero _)⟩
  case round =>
    obtain ⟨k, hk, rfl, hb⟩ := hrel
    have HB := Lib.hid hb
    clear hb
    by_cases hlt : k < n
    · have hc := H.out k hlt
      obtain ⟨y, hy⟩ : ∃ y, y = ks.getD k 0 := ⟨_, rfl⟩
      rw [← hy] at hc
      have HY := Lib.hid hy
      clear hy
      by_cases he : x = y
      · have HE := Lib.hid he
        have he' : (x == y) = true := by simpa using he
        clear he
        go_wp2_with fail
        go_ret
        refine ⟨rfl, _, rfl, ?_⟩
        have : x ∈ ks := by
          have h1 : k < ks.length := HN.out ▸ hlt
          rw [HE.out, HY.out, List.getD, List.getElem?_eq_getElem h1]
          exact List.getElem_mem h1
        simp [this]
      · have HE := Lib.hid he
        have he' : (x == y) = false := by simpa using he
        clear he
        go_wp2_with fail
        refine ⟨⟨k + 1, by omega, by go_num, fun j hj => ?_⟩, by simp [intOf]; omega⟩
        rcases Nat.lt_succ_iff_lt_or_eq.1 hj with h1 | rfl
        · exact HB.out j h1
        · exact fun e => HE.out (e.symm.trans HY.out.symm)
    · obtain rfl : k = n := by omega
      go_wp2_with fail
      go_ret
      refine ⟨rfl, _, rfl, ?_⟩
      have : ¬ x ∈ ks := fun hm => by
        obtain ⟨j, hj, e⟩ := List.mem_iff_getElem.1 hm
        exact HB.out j (HN.out ▸ hj) (by rw [List.getD, List.getElem?_eq_getElem hj]; exact e)
      simp [this]

/-- Cells that hold these. -/
def Kc (w : World) (b o n : Nat) (ks : List Int) : Prop := ∀ j, j < n → w.cell? ⟨b, o + j, none⟩ = some (.int .u16 (ks.getD j 0))

theorem Kc.below {w w' : World} {b o n : Nat} {ks : List Int} (h : Kc w b o n ks) (hb : Below w.heap.size w w') : Kc w' b o n ks := fun j hj => by
  have := h j hj
  rw [hb.cell (World.block_lt_of_cell? w _ this)]; exact this

set_option maxRecDepth 100000 in
set_option maxHeartbeats 1000000 in
theorem contains_any (b o c n : Nat) (ks : List Int) (x : Int) (w : World) (hn : n = ks.length) (hl : n ≤ 100000) (h : Kc w b o n ks) :
    Calls Tryd.prog 43 #[.slice (some ⟨b, o, none⟩) n c, .int .u16 x] w fun e w' => e = .returned (.bool (decide (x ∈ ks))) ∧ w' = w := by
  have HN := Lib.hid hn
  have H := Lib.hid h
  clear hn h
  go_enter Tryd.func43, Tryd.ntmps43
  go_wp2_with (go_at_call 53; refine (index_any b o c n ks x _ HN.out hl H.out).mono ?_; rintro e w1 ⟨hw, r, rfl, h1⟩; rw [hw]; clear hw w1)
  go_ret
  exact ⟨rfl, rfl⟩

/-- What the tag's and the frame's variables hold. -/
structure Gk (w : World) : Prop where
  ks : ∃ b0 o0 c0 b1 o1 c1, w.cell? ⟨2, 0, none⟩ = some (.slice (some ⟨b0, o0, none⟩) 2 c0) ∧ w.cell? ⟨2, 1, none⟩ = some (.slice (some ⟨b1, o1, none⟩) 1 c1) ∧
    w.cell? ⟨b0, o0, none⟩ = some (.int .u16 34984) ∧ w.cell? ⟨b0, o0 + 1, none⟩ = some (.int .u16 33024) ∧ w.cell? ⟨b1, o1, none⟩ = some (.int .u16 33024)
  s0 : w.cell? ⟨3, 0, none⟩ = some (.int .u8 170)
  s1 : w.cell? ⟨3, 1, none⟩ = some (.int .u8 170)
  s2 : w.cell? ⟨3, 2, none⟩ = some (.int .u8 3)

theorem Below.cell_some {w w' : World} (h : Below w.heap.size w w') {p : Addr} {v : Value} (hp : w.cell? p = some v) : w'.cell? p = some v :=
  (h.cell (lt_of_cell hp)).trans hp

theorem Gk.below {w w' : World} (g : Gk w) (hb : Below w.heap.size w w') : Gk w' := by
  obtain ⟨b0, o0, c0, b1, o1, c1, h0, h1, h2, h3, h4⟩ := g.ks
  exact ⟨⟨b0, o0, c0, b1, o1, c1, Below.cell_some hb h0, Below.cell_some hb h1, Below.cell_some hb h2, Below.cell_some hb h3, Below.cell_some hb h4⟩, Below.cell_some hb g.s0, Below.cell_some hb g.s1, Below.cell_some hb g.s2⟩

theorem two_cells {w : World} {b o : Nat} {x y : Int} (h1 : w.cell? ⟨b, o, none⟩ = some (.int .u16 x)) (h2 : w.cell? ⟨b, o + 1, none⟩ = some (.int .u16 y)) : Kc w b o 2 [x, y] := by
  intro j hj
  match j, hj with
  | 0, _ => exact h1
  | 1, _ => exact h2
theorem one_cell' {w : World} {b o : Nat} {x : Int} (h1 : w.cell? ⟨b, o, none⟩ = some (.int .u16 x)) : Kc w b o 1 [x] := by
  intro j hj
  match j, hj with
  | 0, _ => exact h1

def tagV (n : Int) : Value := .agg #[.int .u16 33024, .int .u8 0, .bool false, .int .u16 n]

set_option maxRecDepth 100000 in
set_option maxHeartbeats 1000000 in
theorem tmay_any (n : Int) (w : World) (hG : Gk w) (hn : n ≤ 4095) :
    Calls Tryd.prog 42 #[tagV n] w fun e w' => e = .returned (.bool true) ∧ Below w.heap.size w w' := by
  obtain ⟨b0, o0, c0, b1, o1, c1, h0, h1, h2, h3, h4⟩ := hG.ks
  have HC := Lib.hid (two_cells h2 h3)
  have hz : 2 < w.heap.size := lt_of_cell h0
  clear hG h1 h2 h3 h4
  unfold tagV
  go_enter Tryd.func42, Tryd.ntmps42
  go_wp2_with (go_at_call 43; refine (contains_any b0 o0 c0 2 [34984, 33024] 33024 _ rfl (by omega) (HC.out.below ((Below.refl _ _).alloc (Nat.le_refl _) _))).mono ?_; rintro e w1 ⟨rfl, hw⟩; rw [hw]; clear hw w1; rw [show decide ((33024 : Int) ∈ [34984, 33024]) = true by decide])
  go_ret
  exact ⟨rfl, (Below.refl _ _).alloc (Nat.le_refl _) _⟩

set_option maxRecDepth 100000 in
set_option maxHeartbeats 1000000 in
theorem tagsMay_nil (w : World) :
    Calls Tryd.prog 28 #[.slice none 0 0] w fun e w' => e = .returned (.bool true) ∧ w' = w := by
  go_enter Tryd.func28, Tryd.ntmps28
  go_wp2_with fail
  go_loop [7] (fun i => i = .int .i64 0) (fun _ => 0)
  case atStart => rfl
  case round =>
    obtain rfl := hrel
    go_wp2_with fail
    go_ret
    exact ⟨rfl, rfl⟩

/-- A row of one tag. -/
structure Tg (w : World) (b : Nat) (n : Int) : Prop where
  t0 : w.cell? ⟨b, 0, none⟩ = some (.int .u16 33024)
  t1 : w.cell? ⟨b, 1, none⟩ = some (.int .u8 0)
  t2 : w.cell? ⟨b, 2, none⟩ = some (.bool false)
  t3 : w.cell? ⟨b, 3, none⟩ = some (.int .u16 n)

theorem Tg.below {w w' : World} {b : Nat} {n : Int} (h : Tg w b n) (hb : Below w.heap.size w w') : Tg w' b n :=
  ⟨Below.cell_some hb h.t0, Below.cell_some hb h.t1, Below.cell_some hb h.t2, Below.cell_some hb h.t3⟩

set_option maxRecDepth 100000 in
set_option maxHeartbeats 1000000 in
theorem tagsMay_one (b : Nat) (n : Int) (w : World) (hG : Gk w) (hT : Tg w b n) (hn : n ≤ 4095) :
    Calls Tryd.prog 28 #[.slice (some ⟨b, 0, none⟩) 1 1] w fun e w' => e = .returned (.bool true) ∧ Below w.heap.size w w' := by
  have HG := Lib.hid hG
  have HZ := Lib.hid (lt_of_cell hT.t0)
  obtain ⟨t0, t1, t2, t3⟩ := hT
  clear hG
  go_enter Tryd.func28, Tryd.ntmps28
  go_wp2_with fail
  go_loopw [7] (fun i wr => (i = .int .i64 0 ∧ wr = w) ∨ (i = .int .i64 1 ∧ Below w.heap.size w wr)) (fun i _ => 1 - (intOf i).toNat)
  case atStart => exact .inl ⟨rfl, rfl⟩
  case round =>
    rcases hrel with ⟨rfl, rfl⟩ | ⟨rfl, hb⟩
    · go_wp2_with fail
      have HT2 : Hid ((wr.alloc (.cells #[.int .u16 33024, .int .u8 0, .bool false, .int .u16 n] 52)).heap[wr.heap.size]? = some (.cells #[.int .u16 33024, .int .u8 0, .bool false, .int .u16 n] 52 (0, 0))) := heap_alloc_new _ _
      have HB2 : Hid (Below wr.heap.size wr (wr.alloc (.cells #[.int .u16 33024, .int .u8 0, .bool false, .int .u16 n] 52))) := (Below.refl _ _).alloc (Nat.le_refl _) _
      have HG2 : Hid (Gk (wr.alloc (.cells #[.int .u16 33024, .int .u8 0, .bool false, .int .u16 n] 52))) := HG.out.below HB2.out
      have ht := cell_new wr #[.int .u16 33024, .int .u8 0, .bool false, .int .u16 n] 52 0 (.int .u16 33024) rfl
      have hlt := lt_of_cell ht
      clear t0 t1 t2 t3
      generalize wr.alloc (.cells #[.int .u16 33024, .int .u8 0, .bool false, .int .u16 n] 52) = W at *
      obtain ⟨b0, o0, c0, b1, o1, c1, h0, h1, h2, h3, h4⟩ := HG2.out.ks
      have HC := Lib.hid (two_cells h2 h3)
      have ht' : ∀ q : Regrown, (grow (redrawn W q.d) q.os).cell? ⟨wr.heap.size, 0, none⟩ = some (.int .u16 33024) := fun q => cell_regrown ht q.d q.os
      have hk' : ∀ q : Regrown, (grow (redrawn W q.d) q.os).cell? ⟨2, 0, none⟩ = some (.slice (some ⟨b0, o0, none⟩) 2 c0) := fun q => cell_regrown h0 q.d q.os
      have hq : decide ((33024 : Int) ∈ [34984, 33024]) = true := by decide
      clear h0 h1 h2 h3 h4 ht
      refine wp_region_quiet_below (by kernel_rfl) (by kernel_rfl) ?_
      iterate 3 quiet_step (fail)
      refine wpQuiet_step (fun K hK => ?_)
      rw [if_pos (by rfl)]
      refine quiet_load_row 52 (.tmp 4) rfl (wr.heap.size) rfl 52 #[.int .u16 33024, .int .u8 0, .bool false, .int .u16 n] (0, 0) _ (fun w' hw' => by obtain ⟨q, rfl⟩ := hw'; exact ((below_regrown W q.d q.os).block _ (hlt)).trans HT2.out) Tryd.underlying52 rfl (by kernel_rfl) (hK _ ?_)
      clear hK K
      go_frame
      quiet_step (exact Calls.regrown_of (tmay_any n _ (HG2.out.below (below_regrown W _ _)) hn))
      iterate 8 quiet_step (fail)
      quiet_step (exact Calls.regrown_same (contains_any b0 o0 c0 2 [34984, 33024] 33024 _ rfl (by omega) (HC.out.below (below_regrown W _ _))))
      iterate 2 quiet_step (fail)
      refine wpQuiet_nil ?_
      rintro w3 ⟨q, rfl⟩
      go_wp2_with fail
      refine ⟨.inr ⟨rfl, ?_⟩, by simp [intOf]⟩
      exact HB2.out.trans ((below_regrown W q.d q.os).mono (Nat.le_of_lt hlt))
    · go_wp2_with fail
      go_ret
      exact ⟨rfl, hb⟩
end Go.Proofs.YtcahlponmbnkcaaDoor
