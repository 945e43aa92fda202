/- BpduIs: the frame and its copies. -/
import Derived.Test.YtcahlponmbnkcaaDoorX5
namespace Go.Proofs.YtcahlponmbnkcaaDoor
open Go Go.RowKit

theorem bx_below {bx B : Nat} {o : Obj} {w w1 w2 : World} (h : w1.heap[bx]? = some o ∧ Below B w w1) (hb : Below w1.heap.size w1 w2) (hB : B ≤ w1.heap.size := by exact Nat.le_of_lt (lt_of_block (And.left (by assumption)))) : w2.heap[bx]? = some o ∧ Below B w w2 :=
  ⟨(hb.block _ (lt_of_block h.1)).trans h.1, h.2.trans (hb.mono hB)⟩
theorem bx_set {bx g : Nat} {cs : Array Value} {o : Obj} {w w1 : World} (h : w1.heap[bx]? = some o ∧ Below bx w w1) (hne : bx ≠ g) (hle : bx ≤ g := by omega) : (w1.setRow g cs).heap[bx]? = some o ∧ Below bx w (w1.setRow g cs) :=
  ⟨(setRow_other _ _ _ _ hne).trans h.1, below_setRow h.2 hle _⟩
theorem tg_new (v : World) (k : Int) : Tg (v.alloc (.cells #[.int .u16 33024, .int .u8 0, .bool false, .int .u16 k] 52)) v.heap.size k :=
  ⟨cell_new _ _ _ 0 _ rfl, cell_new _ _ _ 1 _ rfl, cell_new _ _ _ 2 _ rfl, cell_new _ _ _ 3 _ rfl⟩
theorem Tg.set {w : World} {t g : Nat} {k : Int} {cs : Array Value} (h : Tg w t k) (hne : t ≠ g) : Tg (w.setRow g cs) t k :=
  ⟨(cell_setRow_other w g cs _ hne).trans h.t0, (cell_setRow_other w g cs _ hne).trans h.t1, (cell_setRow_other w g cs _ hne).trans h.t2, (cell_setRow_other w g cs _ hne).trans h.t3⟩
theorem oneLlc (s0 s1 s2 s3 s4 s5 : Int) (t : Nat) (ba : Option Addr) (m bc : Nat) : (llcF 1 128 194 0 0 0 s0 s1 s2 s3 s4 s5 (.slice (some ⟨t, 0, none⟩) 1 1) 66 66 3 (.slice ba m bc)).all (·.oneCell') = true := by
  simp [Value.oneCell']
theorem fin1 {X w : World} {g t : Nat} {k : Int} {cs : Array Value} (hz : X.heap[g]? = some (.cells cs 33 (0, 0))) (hT : Tg X t k) (hB : Below w.heap.size w X) (hg : w.heap.size ≤ g) (hne : t ≠ g) (row : Array Value) :
    (X.setRow g row).heap[g]? = some (.cells row 33 (0, 0)) ∧ Tg (X.setRow g row) t k ∧ Below w.heap.size w (X.setRow g row) ∧ w.heap.size ≤ g :=
  ⟨setRow_heap _ _ _ _ _ _ hz, hT.set hne, below_setRow hB hg _, hg⟩

theorem bx_set2 {bx g B : Nat} {cs : Array Value} {o : Obj} {w w1 : World} (h : w1.heap[bx]? = some o ∧ Below B w w1) (hne : bx ≠ g) (hle : B ≤ g) : (w1.setRow g cs).heap[bx]? = some o ∧ Below B w (w1.setRow g cs) :=
  ⟨(setRow_other _ _ _ _ hne).trans h.1, below_setRow h.2 hle _⟩
theorem fin2 {X W : World} {a b c : Nat} {cs row : Array Value} (hB : Below W.heap.size W X) (h1 : X.heap[a]? = some (.cells cs 33 (0, 0))) (h2 : X.heap[b]? = some (.cells cs 33 (0, 0))) (h3 : X.heap[c]? = some (.cells cs 33 (0, 0)))
    (l1 : W.heap.size ≤ a) (l2 : W.heap.size ≤ b) (l3 : W.heap.size ≤ c) (n12 : a ≠ b) (n13 : a ≠ c) (n23 : b ≠ c) :
    (((X.setRow a row).setRow b row).setRow c row).heap[a]? = some (.cells row 33 (0, 0)) ∧ (((X.setRow a row).setRow b row).setRow c row).heap[b]? = some (.cells row 33 (0, 0)) ∧ (((X.setRow a row).setRow b row).setRow c row).heap[c]? = some (.cells row 33 (0, 0)) ∧
    Below W.heap.size W (((X.setRow a row).setRow b row).setRow c row) ∧ W.heap.size ≤ a ∧ W.heap.size ≤ b ∧ W.heap.size ≤ c ∧ a ≠ b ∧ a ≠ c ∧ b ≠ c :=
  ⟨(setRow_other _ _ _ _ n13).trans ((setRow_other _ _ _ _ n12).trans (setRow_heap _ _ _ _ _ _ h1)),
   (setRow_other _ _ _ _ n23).trans (setRow_heap _ _ _ _ _ _ ((setRow_other _ _ _ _ (Ne.symm n12)).trans h2)),
   setRow_heap _ _ _ _ _ _ ((setRow_other _ _ _ _ (Ne.symm n23)).trans ((setRow_other _ _ _ _ (Ne.symm n13)).trans h3)),
   below_setRow (below_setRow (below_setRow hB l1 _) l2 _) l3 _, l1, l2, l3, n12, n13, n23⟩

set_option maxRecDepth 100000 in
set_option maxHeartbeats 2000000 in
theorem is_walk (s0 s1 s2 s3 s4 s5 number pt : Int) (ba : Option Addr) (n bc : Nat) (bs0 : List Int) (w : World) (hGl : Gl w) (hGk : Gk w) (hr : Rd w (.slice ba n bc) bs0) (hz3 : 3 < w.heap.size)
    (hn0 : 0 ≤ number) (_hn1 : number < 65536) (ha0 : 0 ≤ pt) (ha1 : pt < 256) :
    Calls Tryd.prog 4 #[.agg #[.int .u8 s0, .int .u8 s1, .int .u8 s2, .int .u8 s3, .int .u8 s4, .int .u8 s5], .slice ba n bc, .int .u16 number, .int .u8 pt] w fun e w' => e = .returned (.bool true) ∧ Below w.heap.size w w' := by
  obtain ⟨m, hmin, hmn, hm100⟩ : ∃ m : Nat, (if (100 : Int) < n then (100 : Int) else n) = (m : Int) ∧ m ≤ n ∧ m ≤ 100 := by
    by_cases h : (100 : Int) < n
    · exact ⟨100, by rw [if_pos h]; rfl, by omega, Nat.le_refl _⟩
    · exact ⟨n, by rw [if_neg h], Nat.le_refl _, by omega⟩
  have hmb : (m : Int) ≤ bc := by
    rcases hr with ⟨e, _⟩ | ⟨b, off, cap, e, h1, h2, h3⟩
    · injection e with e1 e2 e3; omega
    · injection e with e1 e2 e3; omega
  have HM := Lib.hid (show m ≤ n ∧ m ≤ 100 from ⟨hmn, hm100⟩)
  have HRM := Lib.hid (hr.take m hmn)
  have HLB : Hid ((bs0.take m).length = m) := Lib.hid (by
    rcases hr with ⟨e, rfl⟩ | ⟨b, off, cap, e, h1, h2, h3⟩
    · injection e with e1 e2 e3; simp; omega
    · injection e with e1 e2 e3; simp; omega)
  clear hmn hm100
  generalize bs0.take m = bs at *
  obtain ⟨k, hk⟩ : ∃ k, number.tmod 4096 = k := ⟨_, rfl⟩
  have HL := Lib.hid hGl
  have HK := Lib.hid hGk
  clear hGl hGk hr
  go_enter Tryd.func4, Tryd.ntmps4
  go_wp2_with fail
  have HB0 : Hid (Below w.heap.size w (w.alloc (.cells #[.int .u8 s0, .int .u8 s1, .int .u8 s2, .int .u8 s3, .int .u8 s4, .int .u8 s5] 27))) := Lib.hid ((Below.refl _ _).alloc (Nat.le_refl _) _)
  have hbox : (w.alloc (.cells #[.int .u8 s0, .int .u8 s1, .int .u8 s2, .int .u8 s3, .int .u8 s4, .int .u8 s5] 27)).heap[w.heap.size]? = some (.cells #[.int .u8 s0, .int .u8 s1, .int .u8 s2, .int .u8 s3, .int .u8 s4, .int .u8 s5] 27 (0, 0)) := heap_alloc_new _ _

  refine Code.wp_mono (Q := fun e a' w' => ∃ (g t : Nat) (v17 v18 v19 v20 v21 v22 v23 v24 v25 v26 v27 v28 v29 : Value), e = .normal ∧ a' = { tmps := #[.agg #[.int .u8 s0, .int .u8 s1, .int .u8 s2, .int .u8 s3, .int .u8 s4, .int .u8 s5], .slice ba n bc, .int .u16 number, .int .u8 pt, .pointer (some ⟨w.heap.size, 0, none⟩), undef, undef, undef, .bool false, .pointer (some ⟨g, 0, none⟩), undef, undef, undef, undef, undef, undef, undef, v17, v18, v19, v20, v21, v22, v23, v24, v25, v26, v27, v28, v29, undef, undef, undef, undef, undef, undef, undef, undef, undef, undef, undef, undef, undef, undef, undef, undef, undef, undef, undef, undef, undef, undef, undef, undef, undef, undef, undef, undef, undef, undef, undef, undef, undef, undef, undef, undef, undef, undef, undef, undef, undef, undef, undef, undef, undef, undef, undef, undef, undef, undef, undef, undef, undef, undef, undef, undef, undef, undef, undef, undef, undef, undef, undef, undef, undef, undef, undef, undef, undef], defers := [] } ∧ (w'.heap[g]? = some (.cells (llcF 1 128 194 0 0 0 s0 s1 s2 s3 s4 s5 (.slice (some ⟨t, 0, none⟩) 1 1) 66 66 3 (.slice ba m bc)) 33 (0, 0)) ∧ Tg w' t k ∧ Below w.heap.size w w' ∧ w.heap.size ≤ g)) ?_ ?_
  · rintro e a' W ⟨g, t, v17, v18, v19, v20, v21, v22, v23, v24, v25, v26, v27, v28, v29, rfl, rfl, hrow, hT, hB, hgs⟩
    clear hbox HB0
    have HROW := Lib.hid hrow
    have hgW := Lib.hid (lt_of_block hrow)
    clear hrow
    go_wp2_with fail
    refine Code.wp_mono (Q := fun e a' w' => ∃ (g1 g2 g3 : Nat) (v30 v31 v32 : Value), e = .normal ∧ a' = { tmps := #[.agg #[.int .u8 s0, .int .u8 s1, .int .u8 s2, .int .u8 s3, .int .u8 s4, .int .u8 s5], .slice ba n bc, .int .u16 number, .int .u8 pt, .pointer (some ⟨w.heap.size, 0, none⟩), undef, undef, undef, .bool false, .pointer (some ⟨g, 0, none⟩), .pointer (some ⟨g1, 0, none⟩), .pointer (some ⟨g2, 0, none⟩), .pointer (some ⟨g3, 0, none⟩), undef, undef, undef, undef, v17, v18, v19, v20, v21, v22, v23, v24, v25, v26, v27, v28, v29, v30, v31, v32, undef, undef, undef, undef, undef, undef, undef, undef, undef, undef, undef, undef, undef, undef, undef, undef, undef, undef, undef, undef, undef, undef, undef, undef, undef, undef, undef, undef, undef, undef, undef, undef, undef, undef, undef, undef, undef, undef, undef, undef, undef, undef, undef, undef, undef, undef, undef, undef, undef, undef, undef, undef, undef, undef, undef, undef, undef, undef, undef, undef, undef, undef, undef, undef, undef, undef], defers := [] } ∧ (w'.heap[g1]? = some (.cells (llcF 1 128 194 0 0 0 s0 s1 s2 s3 s4 s5 (.slice (some ⟨t, 0, none⟩) 1 1) 66 66 3 (.slice ba m bc)) 33 (0, 0)) ∧ w'.heap[g2]? = some (.cells (llcF 1 128 194 0 0 0 s0 s1 s2 s3 s4 s5 (.slice (some ⟨t, 0, none⟩) 1 1) 66 66 3 (.slice ba m bc)) 33 (0, 0)) ∧ w'.heap[g3]? = some (.cells (llcF 1 128 194 0 0 0 s0 s1 s2 s3 s4 s5 (.slice (some ⟨t, 0, none⟩) 1 1) 66 66 3 (.slice ba m bc)) 33 (0, 0)) ∧ Below W.heap.size W w' ∧ W.heap.size ≤ g1 ∧ W.heap.size ≤ g2 ∧ W.heap.size ≤ g3 ∧ g1 ≠ g2 ∧ g1 ≠ g3 ∧ g2 ≠ g3)) ?_ ?_
    · rintro e a' V ⟨g1, g2, g3, v30, v31, v32, rfl, rfl, hr1, hr2, hr3', hBV, l1', l2', l3', n12, n13, n23⟩
      have HF : Hid (V.heap[g]? = some (.cells (llcF 1 128 194 0 0 0 s0 s1 s2 s3 s4 s5 (.slice (some ⟨t, 0, none⟩) 1 1) 66 66 3 (.slice ba m bc)) 33 (0, 0))) := Lib.hid ((hBV.block _ hgW.out).trans HROW.out)
      have hne : g ≠ g1 ∧ g ≠ g2 ∧ g ≠ g3 := by have := hgW.out; omega
      have HNE := Lib.hid hne
      have HB1 := Lib.hid (hB.trans (hBV.mono hB.size))
      have HT := Lib.hid (hT.below hBV)
      obtain ⟨q, hq, hq6⟩ : ∃ q : Nat, pt.tmod 6 = (q : Int) ∧ q < 6 := ⟨(pt.tmod 6).toNat, by rw [Int.tmod_eq_emod_of_nonneg ha0]; omega, by rw [Int.tmod_eq_emod_of_nonneg ha0]; omega⟩
      obtain ⟨r, hr, hr3⟩ : ∃ r : Nat, pt.tmod 3 = (r : Int) ∧ r < 3 := ⟨(pt.tmod 3).toNat, by rw [Int.tmod_eq_emod_of_nonneg ha0]; omega, by rw [Int.tmod_eq_emod_of_nonneg ha0]; omega⟩
      obtain ⟨y, hy, hy0, hy1⟩ : ∃ y : Nat, pt.tdiv 6 = (y : Int) ∧ 0 ≤ y ∧ y ≤ 42 := ⟨(pt.tdiv 6).toNat, by rw [Int.tdiv_eq_ediv_of_nonneg ha0]; omega, by omega, by rw [Int.tdiv_eq_ediv_of_nonneg ha0]; omega⟩
      have hw : IntKind.u8.wrap (1 + (y : Int)) = 1 + (y : Int) := by rw [wraps_u8] <;> omega
      obtain ⟨dq, hdq, d0, d1, d2, d3, d4, d5, hset1, his1⟩ := row_dst q y hq6 hy1 s0 s1 s2 s3 s4 s5 (.slice (some ⟨t, 0, none⟩) 1 1) (.slice ba m bc)
      obtain ⟨lr, hlr, l0, l1, l2, hset2, his2⟩ := row_llc r y hr3 hy1 s0 s1 s2 s3 s4 s5 (.slice (some ⟨t, 0, none⟩) 1 1) (.slice ba m bc)
      generalize hu1 : bits BinOp.xor IntKind.u8 dq (1 + (y : Int)) = u1 at *
      generalize hu2 : bits BinOp.xor IntKind.u8 lr (1 + (y : Int)) = u2 at *
      have c1 : V.cell? ⟨g1, q, none⟩ = some (.int .u8 dq) := info_cells hr1 hdq
      have c2 : V.cell? ⟨g2, 15 + r, none⟩ = some (.int .u8 lr) := info_cells hr2 hlr
      have c3 : V.cell? ⟨g3, 13, none⟩ = some (.int .i64 2) := info_cells hr3' rfl
      have c4 : V.cell? ⟨g3, 14, none⟩ = some (.int .i64 0) := info_cells hr3' rfl
      have f1 : ∀ j, V.frozen? ⟨g1, j, none⟩ = false := fun j => by simp [World.frozen?, hr1]
      have f2 : ∀ j, V.frozen? ⟨g2, j, none⟩ = false := fun j => by simp [World.frozen?, hr2]
      have f3 : ∀ j, V.frozen? ⟨g3, j, none⟩ = false := fun j => by simp [World.frozen?, hr3']
      have hqi : (q : Int) < 6 := by omega
      have hri : (r : Int) < 3 := by omega
      have HS1 := Lib.hid hset1
      have HS2 := Lib.hid hset2
      have H1 := Lib.hid hr1
      have H2 := Lib.hid hr2
      have H3 := Lib.hid hr3'
      have HL3 := Lib.hid (show W.heap.size ≤ g1 ∧ W.heap.size ≤ g2 ∧ W.heap.size ≤ g3 from ⟨l1', l2', l3'⟩)
      have HN3 := Lib.hid (show g1 ≠ g2 ∧ g1 ≠ g3 ∧ g2 ≠ g3 from ⟨n12, n13, n23⟩)
      clear hset1 hset2 hr1 hr2 hr3' hdq hlr hne l1' l2' l3'
      go_upto_region 6 with fail
      have hX1 := (heap_setCell_other _ ⟨g3, 14, none⟩ _ (Value.int IntKind.i64 2048) HN3.out.2.1).trans ((heap_setCell_other _ ⟨g3, 13, none⟩ _ (Value.int IntKind.i64 1) HN3.out.2.1).trans ((heap_setCell_other _ ⟨g2, 15 + r, none⟩ _ (Value.int IntKind.u8 u2) HN3.out.1).trans (heap_setCell_same V g1 q _ _ (.int .u8 u1) H1.out)))
      rw [HS1.out] at hX1
      have hX2 := (heap_setCell_other _ ⟨g3, 14, none⟩ _ (Value.int IntKind.i64 2048) HN3.out.2.2).trans ((heap_setCell_other _ ⟨g3, 13, none⟩ _ (Value.int IntKind.i64 1) HN3.out.2.2).trans (heap_setCell_same (V.setCell ⟨g1, q, none⟩ (.int .u8 u1)) g2 (15 + r) _ _ (.int .u8 u2) ((heap_setCell_other _ _ _ _ (Ne.symm HN3.out.1)).trans H2.out)))
      rw [HS2.out] at hX2
      have hX3 : ((((V.setCell ⟨g1, q, none⟩ (.int .u8 u1)).setCell ⟨g2, 15 + r, none⟩ (.int .u8 u2)).setCell ⟨g3, 13, none⟩ (.int .i64 1)).setCell ⟨g3, 14, none⟩ (.int .i64 2048)).heap[g3]? = some (.cells #[.int .u8 1, .int .u8 128, .int .u8 194, .int .u8 0, .int .u8 0, .int .u8 0, .int .u8 s0, .int .u8 s1, .int .u8 s2, .int .u8 s3, .int .u8 s4, .int .u8 s5, .slice (some ⟨t, 0, none⟩) 1 1, .int .i64 1, .int .i64 2048, .int .u8 66, .int .u8 66, .int .u8 3, .int .u8 0, .int .u8 0, .int .u8 0, .slice ba m bc, .slice none 0 0] 33 (0, 0)) := heap_setCell_same _ g3 14 _ _ _ (heap_setCell_same _ g3 13 _ _ _ ((heap_setCell_other _ _ _ _ (Ne.symm HN3.out.2.2)).trans ((heap_setCell_other _ _ _ _ (Ne.symm HN3.out.2.1)).trans H3.out)))
      have hX0 := (heap_setCell_other _ ⟨g3, 14, none⟩ _ (Value.int IntKind.i64 2048) HNE.out.2.2).trans ((heap_setCell_other _ ⟨g3, 13, none⟩ _ (Value.int IntKind.i64 1) HNE.out.2.2).trans ((heap_setCell_other _ ⟨g2, 15 + r, none⟩ _ (Value.int IntKind.u8 u2) HNE.out.2.1).trans ((heap_setCell_other _ ⟨g1, q, none⟩ _ (Value.int IntKind.u8 u1) HNE.out.1).trans HF.out)))
      have HBX0 := Lib.hid ((((hBV.setCell (p := ⟨g1, q, none⟩) HL3.out.1 (.int .u8 u1)).setCell (p := ⟨g2, 15 + r, none⟩) HL3.out.2.1 (.int .u8 u2)).setCell (p := ⟨g3, 13, none⟩) HL3.out.2.2 (.int .i64 1)).setCell (p := ⟨g3, 14, none⟩) HL3.out.2.2 (.int .i64 2048))
      have HBX := Lib.hid (hB.trans (HBX0.out.mono hB.size))
      have HTX := Lib.hid (hT.below HBX0.out)
      have HX0 := Lib.hid hX0
      have HX1 := Lib.hid hX1
      have HX2 := Lib.hid hX2
      have HX3 := Lib.hid hX3
      clear hX0 hX1 hX2 hX3 HBX0 HT HF H1 H2 H3 HS1 HS2 HB1 HROW c1 c2 c3 c4 f1 f2 f3 hw hu1 hu2 hBV hB hT
      generalize ((((V.setCell ⟨g1, q, none⟩ (.int .u8 u1)).setCell ⟨g2, 15 + r, none⟩ (.int .u8 u2)).setCell ⟨g3, 13, none⟩ (.int .i64 1)).setCell ⟨g3, 14, none⟩ (.int .i64 2048)) = X at *
      have HKK : Hid (0 ≤ k ∧ k ≤ 4095) := Lib.hid (by rw [Int.tmod_eq_emod_of_nonneg hn0] at hk; omega)
      have HKP : Hid (0 ≤ k / 256 ∧ k / 256 < 256 ∧ 0 ≤ k % 256 ∧ k % 256 < 256 ∧ k / 256 * 256 + k % 256 ≤ 4095) := Lib.hid (by have := HKK.out; omega)
      have HLP : Hid (bs.length ≤ 1000 ∧ 0 ≤ (bs.length + 3 : Int) / 256 ∧ (bs.length + 3 : Int) / 256 < 256 ∧ 0 ≤ (bs.length + 3 : Int) % 256 ∧ (bs.length + 3 : Int) % 256 < 256 ∧ (bs.length + 3 : Int) / 256 * 256 + (bs.length + 3 : Int) % 256 ≤ 1500) := Lib.hid (by have := HM.out; have := HLB.out; omega)
      have HI0 : Hid (isB 1 128 194 0 0 0 2 66 66 3 = true) := Lib.hid (by decide)
      have HI1 := Lib.hid his1
      have HI2 := Lib.hid his2
      have HI3 : Hid (isB 1 128 194 0 0 0 1 66 66 3 = false) := Lib.hid (by decide)
      clear hk his1 his2 hq hr hy hqi hri hmin hmb
      go_upto_region 8 with (first
        | ((with_reducible show wpList _ _ _ (Oper.mk _ (.load 33 _) _ _ _ _ :: _) _ _); go_loud (refine wpList_load_row rfl 33 (.tmp 9) rfl g rfl 33 (llcF 1 128 194 0 0 0 s0 s1 s2 s3 s4 s5 (.slice (some ⟨t, 0, none⟩) 1 1) 66 66 3 (.slice ba m bc)) (0, 0) _ HX0.out Tryd.underlying33 rfl (by kernel_rfl) ?_); go_frame)
        | (go_at_call 16; go_loud (refine (eput_any 1 128 194 0 0 0 s0 s1 s2 s3 s4 s5 66 66 3 (some ⟨t, 0, none⟩) 1 1 (.slice ba m bc) [129, 0, k / 256, k % 256] bs X (HK.out.below HBX.out) (HRM.out.below HBX.out) HLP.out.1 (by decide) (by simp) (fun W' h => tagsMay_one t k W' ((HK.out.below HBX.out).below h) (HTX.out.below h) HKK.out.2) (fun W' h => tbytes_one t k W' ((HK.out.below HBX.out).below h) (HTX.out.below h) HKK.out.1 HKK.out.2)).mono ?_); rintro e w6 ⟨v6, rfl, hv6, hb6⟩; obtain ⟨b6, o6, c6, rfl, hlt6⟩ := Rd.cons hv6; have HV6 := Lib.hid hv6; have HB6 := Lib.hid hb6; clear hv6 hb6)
        | (go_at_call 17; go_loud (refine (get_any b6 o6 c6 _ 1 128 194 0 0 0 s0 s1 s2 s3 s4 s5 66 66 3 [129, 0, k / 256, k % 256] bs 1 w6 ((HK.out.below HBX.out).below HB6.out) (Nat.lt_of_lt_of_le hz3 (Nat.le_trans HBX.out.size HB6.out.size)) HV6.out HLP.out.1 (by simp) (by decide) (fun W' o c m' h h2 => (read_one b6 o c m' (k / 256) (k % 256) _ _ (66 :: 66 :: 3 :: bs) W' (((HK.out.below HBX.out).below HB6.out).below h) h2 (by have := HLP.out.1; simp; omega) HKP.out.1 HKP.out.2.1 HKP.out.2.2.1 HKP.out.2.2.2.1 HKP.out.2.2.2.2 HLP.out.2.1 HLP.out.2.2.1 HLP.out.2.2.2.1 HLP.out.2.2.2.2.1 HLP.out.2.2.2.2.2).mono (by rintro e' w' ⟨v', t', c', rfl, h3, h4⟩; exact ⟨v', some ⟨t', 0, none⟩, c', rfl, h3, h4⟩))).mono ?_); rintro e w7 ⟨ta, tc, body, rest, rfl, hbody, hrest, hb7⟩; obtain ⟨ya, yc, rfl⟩ := hbody.rd.form; obtain ⟨za, zc, rfl⟩ := hrest.rd.form; have HB7 := Lib.hid hb7; clear hbody hrest hb7)
        | ((with_reducible show wpList _ _ _ (Oper.mk _ (.alloc _) _ _ _ _ :: _) _ _); refine wpList_allocV rfl 33 rfl _ al33 ?_; go_frame)
        | ((with_reducible show wpList _ _ _ (Oper.mk _ (.store 33 _ _) _ _ _ _ :: _) _ _); go_loud (refine wpList_store_row rfl 33 (.tmp 15) (.tmp 65) rfl w7.heap.size (rawF 1 128 194 0 0 0 s0 s1 s2 s3 s4 s5 (.slice ta 1 tc) 2 66 66 3 (.slice ya bs.length yc) (.slice za ([] : List Int).length zc)) rfl rfl 33 zeros33 (heap_alloc_new _ _) (by kernel_rfl) rfl (oneRaw 1 128 194 0 0 0 s0 s1 s2 s3 s4 s5 2 66 66 3 ta ya za 1 tc bs.length yc ([] : List Int).length zc) ?_); go_frame))
      have hYN := setRow_heap _ w7.heap.size _ (rawF 1 128 194 0 0 0 s0 s1 s2 s3 s4 s5 (.slice ta 1 tc) 2 66 66 3 (.slice ya bs.length yc) (.slice za ([] : List Int).length zc)) _ _ (heap_alloc_new w7 (.cells zeros33 33))
      have hBY7 : Below w7.heap.size w7 ((w7.alloc (.cells zeros33 33)).setRow w7.heap.size (rawF 1 128 194 0 0 0 s0 s1 s2 s3 s4 s5 (.slice ta 1 tc) 2 66 66 3 (.slice ya bs.length yc) (.slice za ([] : List Int).length zc))) := below_setRow ((Below.refl _ _).alloc (Nat.le_refl _) _) (Nat.le_refl _) _
      have HBXY := Lib.hid (HB6.out.trans ((HB7.out.mono HB6.out.size).trans (hBY7.mono (Nat.le_trans HB6.out.size HB7.out.size))))
      have HYN := Lib.hid hYN
      clear hYN hBY7 HB6 HB7 HV6
      generalize ((w7.alloc (.cells zeros33 33)).setRow w7.heap.size (rawF 1 128 194 0 0 0 s0 s1 s2 s3 s4 s5 (.slice ta 1 tc) 2 66 66 3 (.slice ya bs.length yc) (.slice za ([] : List Int).length zc))) = Y at *
      have HY0 := Lib.hid ((HBXY.out.block _ (lt_of_block HX0.out)).trans HX0.out)
      have HY1 := Lib.hid ((HBXY.out.block _ (lt_of_block HX1.out)).trans HX1.out)
      have HY2 := Lib.hid ((HBXY.out.block _ (lt_of_block HX2.out)).trans HX2.out)
      have HY3 := Lib.hid ((HBXY.out.block _ (lt_of_block HX3.out)).trans HX3.out)
      have HBY := Lib.hid (HBX.out.trans (HBXY.out.mono HBX.out.size))
      have HCY := Lib.hid (Below.refl Y.heap.size Y)
      clear HX0 HX1 HX2 HX3 HBXY HTX HKP HLP HKK HBX
      generalize w7.heap.size = g7 at *
      go_wp2_with (first
        | ((with_reducible show wpList _ _ _ (Oper.mk _ (.load 33 (.tmp 9)) _ _ _ _ :: _) _ _); go_loud (refine wpList_load_rowG rfl 33 (.tmp 9) rfl g rfl 33 _ (0, 0) _ ((HCY.out.block _ (lt_of_block HY0.out)).trans HY0.out) Tryd.underlying33 rfl (by kernel_rfl) ?_); go_frame)
        | ((with_reducible show wpList _ _ _ (Oper.mk _ (.load 33 (.tmp 10)) _ _ _ _ :: _) _ _); go_loud (refine wpList_load_rowG rfl 33 (.tmp 10) rfl g1 rfl 33 _ (0, 0) _ ((HCY.out.block _ (lt_of_block HY1.out)).trans HY1.out) Tryd.underlying33 rfl (by kernel_rfl) ?_); go_frame)
        | ((with_reducible show wpList _ _ _ (Oper.mk _ (.load 33 (.tmp 11)) _ _ _ _ :: _) _ _); go_loud (refine wpList_load_rowG rfl 33 (.tmp 11) rfl g2 rfl 33 _ (0, 0) _ ((HCY.out.block _ (lt_of_block HY2.out)).trans HY2.out) Tryd.underlying33 rfl (by kernel_rfl) ?_); go_frame)
        | ((with_reducible show wpList _ _ _ (Oper.mk _ (.load 33 (.tmp 12)) _ _ _ _ :: _) _ _); go_loud (refine wpList_load_rowG rfl 33 (.tmp 12) rfl g3 rfl 33 _ (0, 0) _ ((HCY.out.block _ (lt_of_block HY3.out)).trans HY3.out) Tryd.underlying33 rfl (by kernel_rfl) ?_); go_frame)
        | ((with_reducible show wpList _ _ _ (Oper.mk _ (.load 33 (.tmp 15)) _ _ _ _ :: _) _ _); go_loud (refine wpList_load_rowG rfl 33 (.tmp 15) rfl g7 rfl 33 _ (0, 0) _ ((HCY.out.block _ (lt_of_block HYN.out)).trans HYN.out) Tryd.underlying33 rfl (by kernel_rfl) ?_); go_frame)
        | (go_at_call 11; go_loud (refine (is_any _ _ _ _ _ _ _ _ _ _ _ _ _ _ _ _ _ _ _ _ _ _ _ _ (HL.out.below HBY.out)).mono ?_; rintro e z ⟨rfl, hby⟩; first | rw [HI0.out] | rw [HI1.out] | rw [HI2.out] | rw [HI3.out]); have HBY := Lib.hid (HBY.out.trans (hby.mono HBY.out.size)); have HCY := Lib.hid (HCY.out.trans (hby.mono HCY.out.size)); clear hby)
        | (go_at_call 14; refine (tells_any _).mono ?_; rintro e z ⟨rfl, hby⟩; have HBY := Lib.hid (HBY.out.trans (hby.mono HBY.out.size))))
      go_ret
      exact ⟨rfl, HBY.out⟩
    refine wp_region_noPanic ?_
    refine wp_region_held_drew (S := fun w' => w'.heap[g]? = some (.cells (llcF 1 128 194 0 0 0 s0 s1 s2 s3 s4 s5 (.slice (some ⟨t, 0, none⟩) 1 1) 66 66 3 (.slice ba m bc)) 33 (0, 0)) ∧ Below W.heap.size W w') (by kernel_rfl) ⟨HROW.out, bd (n := 1) (Below.refl _ _)⟩ (fun hHeld => ?_)
    refine wpAnyH_take (i := 0) (oi := { dst := some 30, op := Op.load 33 (Operand.tmp 9), type := 33, pos := "outright.go:63", after := #[], guard := none }) (v := _) rfl (by kernel_rfl) (by kernel_rfl) (by kernel_rfl) (fun _ _ _ h => h) (yields_load_row 33 (.tmp 9) rfl _ rfl 33 (llcF 1 128 194 0 0 0 s0 s1 s2 s3 s4 s5 (.slice (some ⟨t, 0, none⟩) 1 1) 66 66 3 (.slice ba m bc)) (0, 0) _ (fun w hw => hw.1) Tryd.underlying33 rfl (by kernel_rfl) (by rfl)) (by assumption) ?_
    try simp only [Act.put, List.setIfInBounds_toArray, List.set_cons_zero, List.set_cons_succ]
    refine wpAnyH_take (i := 1) (oi := { dst := some 31, op := Op.load 33 (Operand.tmp 9), type := 33, pos := "outright.go:63", after := #[{ on := 6, ground := Ground.gcOnly Departure.lateStores }], guard := none }) (v := _) rfl (by kernel_rfl) (by kernel_rfl) (by kernel_rfl) (fun _ _ _ h => h) (yields_load_row 33 (.tmp 9) rfl _ rfl 33 (llcF 1 128 194 0 0 0 s0 s1 s2 s3 s4 s5 (.slice (some ⟨t, 0, none⟩) 1 1) 66 66 3 (.slice ba m bc)) (0, 0) _ (fun w hw => hw.1) Tryd.underlying33 rfl (by kernel_rfl) (by rfl)) (by assumption) ?_
    try simp only [Act.put, List.setIfInBounds_toArray, List.set_cons_zero, List.set_cons_succ]
    refine wpAnyH_take (i := 2) (oi := { dst := some 32, op := Op.load 33 (Operand.tmp 9), type := 33, pos := "outright.go:63", after := #[{ on := 7, ground := Ground.gcOnly Departure.lateStores }], guard := none }) (v := _) rfl (by kernel_rfl) (by kernel_rfl) (by kernel_rfl) (fun _ _ _ h => h) (yields_load_row 33 (.tmp 9) rfl _ rfl 33 (llcF 1 128 194 0 0 0 s0 s1 s2 s3 s4 s5 (.slice (some ⟨t, 0, none⟩) 1 1) 66 66 3 (.slice ba m bc)) (0, 0) _ (fun w hw => hw.1) Tryd.underlying33 rfl (by kernel_rfl) (by rfl)) (by assumption) ?_
    try simp only [Act.put, List.setIfInBounds_toArray, List.set_cons_zero, List.set_cons_succ]
    refine wpAnyH_ready (rs := [3, 4, 5]) (by kernel_rfl) (by simp) ?_
    refine (AllReadyH.cons (o := { dst := some 10, op := Op.alloc 33, type := 0, pos := "outright.go:63", after := #[], guard := none }) rfl (fun K hK => ?_) (AllReadyH.cons (o := { dst := some 11, op := Op.alloc 33, type := 0, pos := "outright.go:63", after := #[], guard := none }) rfl (fun K hK => ?_) (AllReadyH.cons (o := { dst := some 12, op := Op.alloc 33, type := 0, pos := "outright.go:63", after := #[], guard := none }) rfl (fun K hK => ?_) AllReadyH.nil)))
    · rw [if_pos (by rfl)]
      refine wp_allocV 33 rfl zeros33 al33 ?_
      refine hK.out _ _ (bx_below hHeld ((Below.refl _ _).alloc (Nat.le_refl _) _) hHeld.2.size) (fun hHeldu1 => ?_)
      have HZ3 : Hid ((W.drew.alloc (.cells zeros33 33)).heap[W.drew.heap.size]? = some (.cells zeros33 33 (0, 0))) := Lib.hid (heap_alloc_new _ _)
      have HBa0 : Hid (Below W.drew.heap.size W.drew (W.drew.alloc (.cells zeros33 33))) := Lib.hid ((Below.refl _ _).alloc (Nat.le_refl _) _)
      clear hK K
      try simp only [Act.put, List.setIfInBounds_toArray, List.set_cons_zero, List.set_cons_succ]
      generalize (W.drew.alloc (.cells zeros33 33)) = u1 at *
      refine wpAnyH_ready (rs := [4, 5]) (by kernel_rfl) (by simp) ?_
      refine (AllReadyH.cons (o := { dst := some 11, op := Op.alloc 33, type := 0, pos := "outright.go:63", after := #[], guard := none }) rfl (fun K hK => ?_) (AllReadyH.cons (o := { dst := some 12, op := Op.alloc 33, type := 0, pos := "outright.go:63", after := #[], guard := none }) rfl (fun K hK => ?_) AllReadyH.nil))
      · rw [if_pos (by rfl)]
        refine wp_allocV 33 rfl zeros33 al33 ?_
        refine hK.out _ _ (bx_below hHeldu1 ((Below.refl _ _).alloc (Nat.le_refl _) _) hHeldu1.2.size) (fun hHeldu2 => ?_)
        have HZ4 : Hid ((u1.alloc (.cells zeros33 33)).heap[u1.heap.size]? = some (.cells zeros33 33 (0, 0))) := Lib.hid (heap_alloc_new _ _)
        have HBa1 : Hid (Below u1.heap.size u1 (u1.alloc (.cells zeros33 33))) := Lib.hid ((Below.refl _ _).alloc (Nat.le_refl _) _)
        clear hK K
        try simp only [Act.put, List.setIfInBounds_toArray, List.set_cons_zero, List.set_cons_succ]
        generalize (u1.alloc (.cells zeros33 33)) = u2 at *
        refine wpAnyH_ready (rs := [5]) (by kernel_rfl) (by simp) ?_
        refine (AllReadyH.cons (o := { dst := some 12, op := Op.alloc 33, type := 0, pos := "outright.go:63", after := #[], guard := none }) rfl (fun K hK => ?_) AllReadyH.nil)
        · rw [if_pos (by rfl)]
          refine wp_allocV 33 rfl zeros33 al33 ?_
          refine hK.out _ _ (bx_below hHeldu2 ((Below.refl _ _).alloc (Nat.le_refl _) _) hHeldu2.2.size) (fun hHeldu3 => ?_)
          have HZ5 : Hid ((u2.alloc (.cells zeros33 33)).heap[u2.heap.size]? = some (.cells zeros33 33 (0, 0))) := Lib.hid (heap_alloc_new _ _)
          have HBa2 : Hid (Below u2.heap.size u2 (u2.alloc (.cells zeros33 33))) := Lib.hid ((Below.refl _ _).alloc (Nat.le_refl _) _)
          clear hK K
          try simp only [Act.put, List.setIfInBounds_toArray, List.set_cons_zero, List.set_cons_succ]
          generalize (u2.alloc (.cells zeros33 33)) = u3 at *
          have z3 : u3.heap[W.drew.heap.size]? = some (.cells zeros33 33 (0, 0)) := ((HBa2.out.block _ (lt_of_block (((HBa1.out.block _ (lt_of_block (HZ3.out))).trans (HZ3.out))))).trans (((HBa1.out.block _ (lt_of_block (HZ3.out))).trans (HZ3.out))))
          have z4 : u3.heap[u1.heap.size]? = some (.cells zeros33 33 (0, 0)) := ((HBa2.out.block _ (lt_of_block (HZ4.out))).trans (HZ4.out))
          have z5 : u3.heap[u2.heap.size]? = some (.cells zeros33 33 (0, 0)) := HZ5.out
          have e1 : W.drew.heap.size < u1.heap.size := lt_of_block HZ3.out
          have e2 : u1.heap.size < u2.heap.size := lt_of_block HZ4.out
          have e0 : W.heap.size = W.drew.heap.size := rfl
          have hfin := fin2 (W := W) (row := (llcF 1 128 194 0 0 0 s0 s1 s2 s3 s4 s5 (.slice (some ⟨t, 0, none⟩) 1 1) 66 66 3 (.slice ba m bc))) hHeldu3.2 z3 z4 z5 (by omega) (by omega) (by omega) (by omega) (by omega) (by omega)
          have hgd : g < W.drew.heap.size := hgW.out
          refine wpAnyH_ready (rs := [6]) (by kernel_rfl) (by simp) ?_
          refine AllReadyH.cons (o := { dst := none, op := Op.store 33 (Operand.tmp 10) (Operand.tmp 30), type := 0, pos := "outright.go:63", after := #[{ on := 3, ground := Ground.data }, { on := 0, ground := Ground.data }, { on := 0, ground := Ground.phase }, { on := 1, ground := Ground.textOnly Departure.lateStores }, { on := 2, ground := Ground.textOnly Departure.lateStores }, { on := 3, ground := Ground.phase }, { on := 4, ground := Ground.phase }, { on := 5, ground := Ground.phase }], guard := none }) rfl (fun K hK => ?_) AllReadyH.nil
          rw [if_pos (by rfl)]
          refine wp_store_row 33 (.tmp 10) (.tmp 30) rfl W.drew.heap.size (llcF 1 128 194 0 0 0 s0 s1 s2 s3 s4 s5 (.slice (some ⟨t, 0, none⟩) 1 1) 66 66 3 (.slice ba m bc)) rfl rfl 33 zeros33 z3 (by kernel_rfl) rfl (oneLlc s0 s1 s2 s3 s4 s5 t ba m bc) ?_
          refine hK.out _ _ (bx_set2 hHeldu3 (by omega) (by omega)) (fun hHeldY0 => ?_)
          clear hK K
          try simp only [Act.put]
          refine wpAnyH_ready (rs := [7]) (by kernel_rfl) (by simp) ?_
          refine AllReadyH.cons (o := { dst := none, op := Op.store 33 (Operand.tmp 11) (Operand.tmp 31), type := 0, pos := "outright.go:63", after := #[{ on := 4, ground := Ground.data }, { on := 1, ground := Ground.data }, { on := 6, ground := Ground.chain }, { on := 0, ground := Ground.phase }, { on := 1, ground := Ground.phase }, { on := 2, ground := Ground.textOnly Departure.lateStores }, { on := 3, ground := Ground.phase }, { on := 4, ground := Ground.phase }, { on := 5, ground := Ground.phase }, { on := 6, ground := Ground.phase }], guard := none }) rfl (fun K hK => ?_) AllReadyH.nil
          rw [if_pos (by rfl)]
          refine wp_store_row 33 (.tmp 11) (.tmp 31) rfl u1.heap.size (llcF 1 128 194 0 0 0 s0 s1 s2 s3 s4 s5 (.slice (some ⟨t, 0, none⟩) 1 1) 66 66 3 (.slice ba m bc)) rfl rfl 33 zeros33 ((setRow_other _ _ _ _ (by omega)).trans z4) (by kernel_rfl) rfl (oneLlc s0 s1 s2 s3 s4 s5 t ba m bc) ?_
          refine hK.out _ _ (bx_set2 hHeldY0 (by omega) (by omega)) (fun hHeldY1 => ?_)
          clear hK K
          try simp only [Act.put]
          refine wpAnyH_ready (rs := [8]) (by kernel_rfl) (by simp) ?_
          refine AllReadyH.cons (o := { dst := none, op := Op.store 33 (Operand.tmp 12) (Operand.tmp 32), type := 0, pos := "outright.go:63", after := #[{ on := 5, ground := Ground.data }, { on := 2, ground := Ground.data }, { on := 7, ground := Ground.chain }, { on := 0, ground := Ground.phase }, { on := 1, ground := Ground.phase }, { on := 2, ground := Ground.phase }, { on := 3, ground := Ground.phase }, { on := 4, ground := Ground.phase }, { on := 5, ground := Ground.phase }, { on := 6, ground := Ground.phase }, { on := 7, ground := Ground.phase }], guard := none }) rfl (fun K hK => ?_) AllReadyH.nil
          rw [if_pos (by rfl)]
          refine wp_store_row 33 (.tmp 12) (.tmp 32) rfl u2.heap.size (llcF 1 128 194 0 0 0 s0 s1 s2 s3 s4 s5 (.slice (some ⟨t, 0, none⟩) 1 1) 66 66 3 (.slice ba m bc)) rfl rfl 33 zeros33 ((setRow_other _ _ _ _ (by omega)).trans ((setRow_other _ _ _ _ (by omega)).trans z5)) (by kernel_rfl) rfl (oneLlc s0 s1 s2 s3 s4 s5 t ba m bc) ?_
          refine hK.out _ _ (bx_set2 hHeldY1 (by omega) (by omega)) (fun hHeldY2 => ?_)
          clear hK K
          try simp only [Act.put]
          refine wpAnyH_done (by kernel_rfl) ?_ _
          exact NoPanic.normal ⟨W.drew.heap.size, u1.heap.size, u2.heap.size, _, _, _, rfl, rfl, hfin⟩
      · rw [if_pos (by rfl)]
        refine wp_allocV 33 rfl zeros33 al33 ?_
        refine hK.out _ _ (bx_below hHeldu1 ((Below.refl _ _).alloc (Nat.le_refl _) _) hHeldu1.2.size) (fun hHeldu2 => ?_)
        have HZ5 : Hid ((u1.alloc (.cells zeros33 33)).heap[u1.heap.size]? = some (.cells zeros33 33 (0, 0))) := Lib.hid (heap_alloc_new _ _)
        have HBa1 : Hid (Below u1.heap.size u1 (u1.alloc (.cells zeros33 33))) := Lib.hid ((Below.refl _ _).alloc (Nat.le_refl _) _)
        clear hK K
        try simp only [Act.put, List.setIfInBounds_toArray, List.set_cons_zero, List.set_cons_succ]
        generalize (u1.alloc (.cells zeros33 33)) = u2 at *
        refine wpAnyH_ready (rs := [4]) (by kernel_rfl) (by simp) ?_
        refine (AllReadyH.cons (o := { dst := some 11, op := Op.alloc 33, type := 0, pos := "outright.go:63", after := #[], guard := none }) rfl (fun K hK => ?_) AllReadyH.nil)
        · rw [if_pos (by rfl)]
          refine wp_allocV 33 rfl zeros33 al33 ?_
          refine hK.out _ _ (bx_below hHeldu2 ((Below.refl _ _).alloc (Nat.le_refl _) _) hHeldu2.2.size) (fun hHeldu3 => ?_)
          have HZ4 : Hid ((u2.alloc (.cells zeros33 33)).heap[u2.heap.size]? = some (.cells zeros33 33 (0, 0))) := Lib.hid (heap_alloc_new _ _)
          have HBa2 : Hid (Below u2.heap.size u2 (u2.alloc (.cells zeros33 33))) := Lib.hid ((Below.refl _ _).alloc (Nat.le_refl _) _)
          clear hK K
          try simp only [Act.put, List.setIfInBounds_toArray, List.set_cons_zero, List.set_cons_succ]
          generalize (u2.alloc (.cells zeros33 33)) = u3 at *
          have z3 : u3.heap[W.drew.heap.size]? = some (.cells zeros33 33 (0, 0)) := ((HBa2.out.block _ (lt_of_block (((HBa1.out.block _ (lt_of_block (HZ3.out))).trans (HZ3.out))))).trans (((HBa1.out.block _ (lt_of_block (HZ3.out))).trans (HZ3.out))))
          have z4 : u3.heap[u2.heap.size]? = some (.cells zeros33 33 (0, 0)) := HZ4.out
          have z5 : u3.heap[u1.heap.size]? = some (.cells zeros33 33 (0, 0)) := ((HBa2.out.block _ (lt_of_block (HZ5.out))).trans (HZ5.out))
          have e1 : W.drew.heap.size < u1.heap.size := lt_of_block HZ3.out
          have e2 : u1.heap.size < u2.heap.size := lt_of_block HZ5.out
          have e0 : W.heap.size = W.drew.heap.size := rfl
          have hfin := fin2 (W := W) (row := (llcF 1 128 194 0 0 0 s0 s1 s2 s3 s4 s5 (.slice (some ⟨t, 0, none⟩) 1 1) 66 66 3 (.slice ba m bc))) hHeldu3.2 z3 z4 z5 (by omega) (by omega) (by omega) (by omega) (by omega) (by omega)
          have hgd : g < W.drew.heap.size := hgW.out
          refine wpAnyH_ready (rs := [6]) (by kernel_rfl) (by simp) ?_
          refine AllReadyH.cons (o := { dst := none, op := Op.store 33 (Operand.tmp 10) (Operand.tmp 30), type := 0, pos := "outright.go:63", after := #[{ on := 3, ground := Ground.data }, { on := 0, ground := Ground.data }, { on := 0, ground := Ground.phase }, { on := 1, ground := Ground.textOnly Departure.lateStores }, { on := 2, ground := Ground.textOnly Departure.lateStores }, { on := 3, ground := Ground.phase }, { on := 4, ground := Ground.phase }, { on := 5, ground := Ground.phase }], guard := none }) rfl (fun K hK => ?_) AllReadyH.nil
          rw [if_pos (by rfl)]
          refine wp_store_row 33 (.tmp 10) (.tmp 30) rfl W.drew.heap.size (llcF 1 128 194 0 0 0 s0 s1 s2 s3 s4 s5 (.slice (some ⟨t, 0, none⟩) 1 1) 66 66 3 (.slice ba m bc)) rfl rfl 33 zeros33 z3 (by kernel_rfl) rfl (oneLlc s0 s1 s2 s3 s4 s5 t ba m bc) ?_
          refine hK.out _ _ (bx_set2 hHeldu3 (by omega) (by omega)) (fun hHeldY0 => ?_)
          clear hK K
          try simp only [Act.put]
          refine wpAnyH_ready (rs := [7]) (by kernel_rfl) (by simp) ?_
          refine AllReadyH.cons (o := { dst := none, op := Op.store 33 (Operand.tmp 11) (Operand.tmp 31), type := 0, pos := "outright.go:63", after := #[{ on := 4, ground := Ground.data }, { on := 1, ground := Ground.data }, { on := 6, ground := Ground.chain }, { on := 0, ground := Ground.phase }, { on := 1, ground := Ground.phase }, { on := 2, ground := Ground.textOnly Departure.lateStores }, { on := 3, ground := Ground.phase }, { on := 4, ground := Ground.phase }, { on := 5, ground := Ground.phase }, { on := 6, ground := Ground.phase }], guard := none }) rfl (fun K hK => ?_) AllReadyH.nil
          rw [if_pos (by rfl)]
          refine wp_store_row 33 (.tmp 11) (.tmp 31) rfl u2.heap.size (llcF 1 128 194 0 0 0 s0 s1 s2 s3 s4 s5 (.slice (some ⟨t, 0, none⟩) 1 1) 66 66 3 (.slice ba m bc)) rfl rfl 33 zeros33 ((setRow_other _ _ _ _ (by omega)).trans z4) (by kernel_rfl) rfl (oneLlc s0 s1 s2 s3 s4 s5 t ba m bc) ?_
          refine hK.out _ _ (bx_set2 hHeldY0 (by omega) (by omega)) (fun hHeldY1 => ?_)
          clear hK K
          try simp only [Act.put]
          refine wpAnyH_ready (rs := [8]) (by kernel_rfl) (by simp) ?_
          refine AllReadyH.cons (o := { dst := none, op := Op.store 33 (Operand.tmp 12) (Operand.tmp 32), type := 0, pos := "outright.go:63", after := #[{ on := 5, ground := Ground.data }, { on := 2, ground := Ground.data }, { on := 7, ground := Ground.chain }, { on := 0, ground := Ground.phase }, { on := 1, ground := Ground.phase }, { on := 2, ground := Ground.phase }, { on := 3, ground := Ground.phase }, { on := 4, ground := Ground.phase }, { on := 5, ground := Ground.phase }, { on := 6, ground := Ground.phase }, { on := 7, ground := Ground.phase }], guard := none }) rfl (fun K hK => ?_) AllReadyH.nil
          rw [if_pos (by rfl)]
          refine wp_store_row 33 (.tmp 12) (.tmp 32) rfl u1.heap.size (llcF 1 128 194 0 0 0 s0 s1 s2 s3 s4 s5 (.slice (some ⟨t, 0, none⟩) 1 1) 66 66 3 (.slice ba m bc)) rfl rfl 33 zeros33 ((setRow_other _ _ _ _ (by omega)).trans ((setRow_other _ _ _ _ (by omega)).trans z5)) (by kernel_rfl) rfl (oneLlc s0 s1 s2 s3 s4 s5 t ba m bc) ?_
          refine hK.out _ _ (bx_set2 hHeldY1 (by omega) (by omega)) (fun hHeldY2 => ?_)
          clear hK K
          try simp only [Act.put]
          refine wpAnyH_done (by kernel_rfl) ?_ _
          exact NoPanic.normal ⟨W.drew.heap.size, u2.heap.size, u1.heap.size, _, _, _, rfl, rfl, hfin⟩
    · rw [if_pos (by rfl)]
      refine wp_allocV 33 rfl zeros33 al33 ?_
      refine hK.out _ _ (bx_below hHeld ((Below.refl _ _).alloc (Nat.le_refl _) _) hHeld.2.size) (fun hHeldu1 => ?_)
      have HZ4 : Hid ((W.drew.alloc (.cells zeros33 33)).heap[W.drew.heap.size]? = some (.cells zeros33 33 (0, 0))) := Lib.hid (heap_alloc_new _ _)
      have HBa0 : Hid (Below W.drew.heap.size W.drew (W.drew.alloc (.cells zeros33 33))) := Lib.hid ((Below.refl _ _).alloc (Nat.le_refl _) _)
      clear hK K
      try simp only [Act.put, List.setIfInBounds_toArray, List.set_cons_zero, List.set_cons_succ]
      generalize (W.drew.alloc (.cells zeros33 33)) = u1 at *
      refine wpAnyH_ready (rs := [3, 5]) (by kernel_rfl) (by simp) ?_
      refine (AllReadyH.cons (o := { dst := some 10, op := Op.alloc 33, type := 0, pos := "outright.go:63", after := #[], guard := none }) rfl (fun K hK => ?_) (AllReadyH.cons (o := { dst := some 12, op := Op.alloc 33, type := 0, pos := "outright.go:63", after := #[], guard := none }) rfl (fun K hK => ?_) AllReadyH.nil))
      · rw [if_pos (by rfl)]
        refine wp_allocV 33 rfl zeros33 al33 ?_
        refine hK.out _ _ (bx_below hHeldu1 ((Below.refl _ _).alloc (Nat.le_refl _) _) hHeldu1.2.size) (fun hHeldu2 => ?_)
        have HZ3 : Hid ((u1.alloc (.cells zeros33 33)).heap[u1.heap.size]? = some (.cells zeros33 33 (0, 0))) := Lib.hid (heap_alloc_new _ _)
        have HBa1 : Hid (Below u1.heap.size u1 (u1.alloc (.cells zeros33 33))) := Lib.hid ((Below.refl _ _).alloc (Nat.le_refl _) _)
        clear hK K
        try simp only [Act.put, List.setIfInBounds_toArray, List.set_cons_zero, List.set_cons_succ]
        generalize (u1.alloc (.cells zeros33 33)) = u2 at *
        refine wpAnyH_ready (rs := [5]) (by kernel_rfl) (by simp) ?_
        refine (AllReadyH.cons (o := { dst := some 12, op := Op.alloc 33, type := 0, pos := "outright.go:63", after := #[], guard := none }) rfl (fun K hK => ?_) AllReadyH.nil)
        · rw [if_pos (by rfl)]
          refine wp_allocV 33 rfl zeros33 al33 ?_
          refine hK.out _ _ (bx_below hHeldu2 ((Below.refl _ _).alloc (Nat.le_refl _) _) hHeldu2.2.size) (fun hHeldu3 => ?_)
          have HZ5 : Hid ((u2.alloc (.cells zeros33 33)).heap[u2.heap.size]? = some (.cells zeros33 33 (0, 0))) := Lib.hid (heap_alloc_new _ _)
          have HBa2 : Hid (Below u2.heap.size u2 (u2.alloc (.cells zeros33 33))) := Lib.hid ((Below.refl _ _).alloc (Nat.le_refl _) _)
          clear hK K
          try simp only [Act.put, List.setIfInBounds_toArray, List.set_cons_zero, List.set_cons_succ]
          generalize (u2.alloc (.cells zeros33 33)) = u3 at *
          have z3 : u3.heap[u1.heap.size]? = some (.cells zeros33 33 (0, 0)) := ((HBa2.out.block _ (lt_of_block (HZ3.out))).trans (HZ3.out))
          have z4 : u3.heap[W.drew.heap.size]? = some (.cells zeros33 33 (0, 0)) := ((HBa2.out.block _ (lt_of_block (((HBa1.out.block _ (lt_of_block (HZ4.out))).trans (HZ4.out))))).trans (((HBa1.out.block _ (lt_of_block (HZ4.out))).trans (HZ4.out))))
          have z5 : u3.heap[u2.heap.size]? = some (.cells zeros33 33 (0, 0)) := HZ5.out
          have e1 : W.drew.heap.size < u1.heap.size := lt_of_block HZ4.out
          have e2 : u1.heap.size < u2.heap.size := lt_of_block HZ3.out
          have e0 : W.heap.size = W.drew.heap.size := rfl
          have hfin := fin2 (W := W) (row := (llcF 1 128 194 0 0 0 s0 s1 s2 s3 s4 s5 (.slice (some ⟨t, 0, none⟩) 1 1) 66 66 3 (.slice ba m bc))) hHeldu3.2 z3 z4 z5 (by omega) (by omega) (by omega) (by omega) (by omega) (by omega)
          have hgd : g < W.drew.heap.size := hgW.out
          refine wpAnyH_ready (rs := [6]) (by kernel_rfl) (by simp) ?_
          refine AllReadyH.cons (o := { dst := none, op := Op.store 33 (Operand.tmp 10) (Operand.tmp 30), type := 0, pos := "outright.go:63", after := #[{ on := 3, ground := Ground.data }, { on := 0, ground := Ground.data }, { on := 0, ground := Ground.phase }, { on := 1, ground := Ground.textOnly Departure.lateStores }, { on := 2, ground := Ground.textOnly Departure.lateStores }, { on := 3, ground := Ground.phase }, { on := 4, ground := Ground.phase }, { on := 5, ground := Ground.phase }], guard := none }) rfl (fun K hK => ?_) AllReadyH.nil
          rw [if_pos (by rfl)]
          refine wp_store_row 33 (.tmp 10) (.tmp 30) rfl u1.heap.size (llcF 1 128 194 0 0 0 s0 s1 s2 s3 s4 s5 (.slice (some ⟨t, 0, none⟩) 1 1) 66 66 3 (.slice ba m bc)) rfl rfl 33 zeros33 z3 (by kernel_rfl) rfl (oneLlc s0 s1 s2 s3 s4 s5 t ba m bc) ?_
          refine hK.out _ _ (bx_set2 hHeldu3 (by omega) (by omega)) (fun hHeldY0 => ?_)
          clear hK K
          try simp only [Act.put]
          refine wpAnyH_ready (rs := [7]) (by kernel_rfl) (by simp) ?_
          refine AllReadyH.cons (o := { dst := none, op := Op.store 33 (Operand.tmp 11) (Operand.tmp 31), type := 0, pos := "outright.go:63", after := #[{ on := 4, ground := Ground.data }, { on := 1, ground := Ground.data }, { on := 6, ground := Ground.chain }, { on := 0, ground := Ground.phase }, { on := 1, ground := Ground.phase }, { on := 2, ground := Ground.textOnly Departure.lateStores }, { on := 3, ground := Ground.phase }, { on := 4, ground := Ground.phase }, { on := 5, ground := Ground.phase }, { on := 6, ground := Ground.phase }], guard := none }) rfl (fun K hK => ?_) AllReadyH.nil
          rw [if_pos (by rfl)]
          refine wp_store_row 33 (.tmp 11) (.tmp 31) rfl W.drew.heap.size (llcF 1 128 194 0 0 0 s0 s1 s2 s3 s4 s5 (.slice (some ⟨t, 0, none⟩) 1 1) 66 66 3 (.slice ba m bc)) rfl rfl 33 zeros33 ((setRow_other _ _ _ _ (by omega)).trans z4) (by kernel_rfl) rfl (oneLlc s0 s1 s2 s3 s4 s5 t ba m bc) ?_
          refine hK.out _ _ (bx_set2 hHeldY0 (by omega) (by omega)) (fun hHeldY1 => ?_)
          clear hK K
          try simp only [Act.put]
          refine wpAnyH_ready (rs := [8]) (by kernel_rfl) (by simp) ?_
          refine AllReadyH.cons (o := { dst := none, op := Op.store 33 (Operand.tmp 12) (Operand.tmp 32), type := 0, pos := "outright.go:63", after := #[{ on := 5, ground := Ground.data }, { on := 2, ground := Ground.data }, { on := 7, ground := Ground.chain }, { on := 0, ground := Ground.phase }, { on := 1, ground := Ground.phase }, { on := 2, ground := Ground.phase }, { on := 3, ground := Ground.phase }, { on := 4, ground := Ground.phase }, { on := 5, ground := Ground.phase }, { on := 6, ground := Ground.phase }, { on := 7, ground := Ground.phase }], guard := none }) rfl (fun K hK => ?_) AllReadyH.nil
          rw [if_pos (by rfl)]
          refine wp_store_row 33 (.tmp 12) (.tmp 32) rfl u2.heap.size (llcF 1 128 194 0 0 0 s0 s1 s2 s3 s4 s5 (.slice (some ⟨t, 0, none⟩) 1 1) 66 66 3 (.slice ba m bc)) rfl rfl 33 zeros33 ((setRow_other _ _ _ _ (by omega)).trans ((setRow_other _ _ _ _ (by omega)).trans z5)) (by kernel_rfl) rfl (oneLlc s0 s1 s2 s3 s4 s5 t ba m bc) ?_
          refine hK.out _ _ (bx_set2 hHeldY1 (by omega) (by omega)) (fun hHeldY2 => ?_)
          clear hK K
          try simp only [Act.put]
          refine wpAnyH_done (by kernel_rfl) ?_ _
          exact NoPanic.normal ⟨u1.heap.size, W.drew.heap.size, u2.heap.size, _, _, _, rfl, rfl, hfin⟩
      · rw [if_pos (by rfl)]
        refine wp_allocV 33 rfl zeros33 al33 ?_
        refine hK.out _ _ (bx_below hHeldu1 ((Below.refl _ _).alloc (Nat.le_refl _) _) hHeldu1.2.size) (fun hHeldu2 => ?_)
        have HZ5 : Hid ((u1.alloc (.cells zeros33 33)).heap[u1.heap.size]? = some (.cells zeros33 33 (0, 0))) := Lib.hid (heap_alloc_new _ _)
        have HBa1 : Hid (Below u1.heap.size u1 (u1.alloc (.cells zeros33 33))) := Lib.hid ((Below.refl _ _).alloc (Nat.le_refl _) _)
        clear hK K
        try simp only [Act.put, List.setIfInBounds_toArray, List.set_cons_zero, List.set_cons_succ]
        generalize (u1.alloc (.cells zeros33 33)) = u2 at *
        refine wpAnyH_ready (rs := [3]) (by kernel_rfl) (by simp) ?_
        refine (AllReadyH.cons (o := { dst := some 10, op := Op.alloc 33, type := 0, pos := "outright.go:63", after := #[], guard := none }) rfl (fun K hK => ?_) AllReadyH.nil)
        · rw [if_pos (by rfl)]
          refine wp_allocV 33 rfl zeros33 al33 ?_
          refine hK.out _ _ (bx_below hHeldu2 ((Below.refl _ _).alloc (Nat.le_refl _) _) hHeldu2.2.size) (fun hHeldu3 => ?_)
          have HZ3 : Hid ((u2.alloc (.cells zeros33 33)).heap[u2.heap.size]? = some (.cells zeros33 33 (0, 0))) := Lib.hid (heap_alloc_new _ _)
          have HBa2 : Hid (Below u2.heap.size u2 (u2.alloc (.cells zeros33 33))) := Lib.hid ((Below.refl _ _).alloc (Nat.le_refl _) _)
          clear hK K
          try simp only [Act.put, List.setIfInBounds_toArray, List.set_cons_zero, List.set_cons_succ]
          generalize (u2.alloc (.cells zeros33 33)) = u3 at *
          have z3 : u3.heap[u2.heap.size]? = some (.cells zeros33 33 (0, 0)) := HZ3.out
          have z4 : u3.heap[W.drew.heap.size]? = some (.cells zeros33 33 (0, 0)) := ((HBa2.out.block _ (lt_of_block (((HBa1.out.block _ (lt_of_block (HZ4.out))).trans (HZ4.out))))).trans (((HBa1.out.block _ (lt_of_block (HZ4.out))).trans (HZ4.out))))
          have z5 : u3.heap[u1.heap.size]? = some (.cells zeros33 33 (0, 0)) := ((HBa2.out.block _ (lt_of_block (HZ5.out))).trans (HZ5.out))
          have e1 : W.drew.heap.size < u1.heap.size := lt_of_block HZ4.out
          have e2 : u1.heap.size < u2.heap.size := lt_of_block HZ5.out
          have e0 : W.heap.size = W.drew.heap.size := rfl
          have hfin := fin2 (W := W) (row := (llcF 1 128 194 0 0 0 s0 s1 s2 s3 s4 s5 (.slice (some ⟨t, 0, none⟩) 1 1) 66 66 3 (.slice ba m bc))) hHeldu3.2 z3 z4 z5 (by omega) (by omega) (by omega) (by omega) (by omega) (by omega)
          have hgd : g < W.drew.heap.size := hgW.out
          refine wpAnyH_ready (rs := [6]) (by kernel_rfl) (by simp) ?_
          refine AllReadyH.cons (o := { dst := none, op := Op.store 33 (Operand.tmp 10) (Operand.tmp 30), type := 0, pos := "outright.go:63", after := #[{ on := 3, ground := Ground.data }, { on := 0, ground := Ground.data }, { on := 0, ground := Ground.phase }, { on := 1, ground := Ground.textOnly Departure.lateStores }, { on := 2, ground := Ground.textOnly Departure.lateStores }, { on := 3, ground := Ground.phase }, { on := 4, ground := Ground.phase }, { on := 5, ground := Ground.phase }], guard := none }) rfl (fun K hK => ?_) AllReadyH.nil
          rw [if_pos (by rfl)]
          refine wp_store_row 33 (.tmp 10) (.tmp 30) rfl u2.heap.size (llcF 1 128 194 0 0 0 s0 s1 s2 s3 s4 s5 (.slice (some ⟨t, 0, none⟩) 1 1) 66 66 3 (.slice ba m bc)) rfl rfl 33 zeros33 z3 (by kernel_rfl) rfl (oneLlc s0 s1 s2 s3 s4 s5 t ba m bc) ?_
          refine hK.out _ _ (bx_set2 hHeldu3 (by omega) (by omega)) (fun hHeldY0 => ?_)
          clear hK K
          try simp only [Act.put]
          refine wpAnyH_ready (rs := [7]) (by kernel_rfl) (by simp) ?_
          refine AllReadyH.cons (o := { dst := none, op := Op.store 33 (Operand.tmp 11) (Operand.tmp 31), type := 0, pos := "outright.go:63", after := #[{ on := 4, ground := Ground.data }, { on := 1, ground := Ground.data }, { on := 6, ground := Ground.chain }, { on := 0, ground := Ground.phase }, { on := 1, ground := Ground.phase }, { on := 2, ground := Ground.textOnly Departure.lateStores }, { on := 3, ground := Ground.phase }, { on := 4, ground := Ground.phase }, { on := 5, ground := Ground.phase }, { on := 6, ground := Ground.phase }], guard := none }) rfl (fun K hK => ?_) AllReadyH.nil
          rw [if_pos (by rfl)]
          refine wp_store_row 33 (.tmp 11) (.tmp 31) rfl W.drew.heap.size (llcF 1 128 194 0 0 0 s0 s1 s2 s3 s4 s5 (.slice (some ⟨t, 0, none⟩) 1 1) 66 66 3 (.slice ba m bc)) rfl rfl 33 zeros33 ((setRow_other _ _ _ _ (by omega)).trans z4) (by kernel_rfl) rfl (oneLlc s0 s1 s2 s3 s4 s5 t ba m bc) ?_
          refine hK.out _ _ (bx_set2 hHeldY0 (by omega) (by omega)) (fun hHeldY1 => ?_)
          clear hK K
          try simp only [Act.put]
          refine wpAnyH_ready (rs := [8]) (by kernel_rfl) (by simp) ?_
          refine AllReadyH.cons (o := { dst := none, op := Op.store 33 (Operand.tmp 12) (Operand.tmp 32), type := 0, pos := "outright.go:63", after := #[{ on := 5, ground := Ground.data }, { on := 2, ground := Ground.data }, { on := 7, ground := Ground.chain }, { on := 0, ground := Ground.phase }, { on := 1, ground := Ground.phase }, { on := 2, ground := Ground.phase }, { on := 3, ground := Ground.phase }, { on := 4, ground := Ground.phase }, { on := 5, ground := Ground.phase }, { on := 6, ground := Ground.phase }, { on := 7, ground := Ground.phase }], guard := none }) rfl (fun K hK => ?_) AllReadyH.nil
          rw [if_pos (by rfl)]
          refine wp_store_row 33 (.tmp 12) (.tmp 32) rfl u1.heap.size (llcF 1 128 194 0 0 0 s0 s1 s2 s3 s4 s5 (.slice (some ⟨t, 0, none⟩) 1 1) 66 66 3 (.slice ba m bc)) rfl rfl 33 zeros33 ((setRow_other _ _ _ _ (by omega)).trans ((setRow_other _ _ _ _ (by omega)).trans z5)) (by kernel_rfl) rfl (oneLlc s0 s1 s2 s3 s4 s5 t ba m bc) ?_
          refine hK.out _ _ (bx_set2 hHeldY1 (by omega) (by omega)) (fun hHeldY2 => ?_)
          clear hK K
          try simp only [Act.put]
          refine wpAnyH_done (by kernel_rfl) ?_ _
          exact NoPanic.normal ⟨u2.heap.size, W.drew.heap.size, u1.heap.size, _, _, _, rfl, rfl, hfin⟩
    · rw [if_pos (by rfl)]
      refine wp_allocV 33 rfl zeros33 al33 ?_
      refine hK.out _ _ (bx_below hHeld ((Below.refl _ _).alloc (Nat.le_refl _) _) hHeld.2.size) (fun hHeldu1 => ?_)
      have HZ5 : Hid ((W.drew.alloc (.cells zeros33 33)).heap[W.drew.heap.size]? = some (.cells zeros33 33 (0, 0))) := Lib.hid (heap_alloc_new _ _)
      have HBa0 : Hid (Below W.drew.heap.size W.drew (W.drew.alloc (.cells zeros33 33))) := Lib.hid ((Below.refl _ _).alloc (Nat.le_refl _) _)
      clear hK K
      try simp only [Act.put, List.setIfInBounds_toArray, List.set_cons_zero, List.set_cons_succ]
      generalize (W.drew.alloc (.cells zeros33 33)) = u1 at *
      refine wpAnyH_ready (rs := [3, 4]) (by kernel_rfl) (by simp) ?_
      refine (AllReadyH.cons (o := { dst := some 10, op := Op.alloc 33, type := 0, pos := "outright.go:63", after := #[], guard := none }) rfl (fun K hK => ?_) (AllReadyH.cons (o := { dst := some 11, op := Op.alloc 33, type := 0, pos := "outright.go:63", after := #[], guard := none }) rfl (fun K hK => ?_) AllReadyH.nil))
      · rw [if_pos (by rfl)]
        refine wp_allocV 33 rfl zeros33 al33 ?_
        refine hK.out _ _ (bx_below hHeldu1 ((Below.refl _ _).alloc (Nat.le_refl _) _) hHeldu1.2.size) (fun hHeldu2 => ?_)
        have HZ3 : Hid ((u1.alloc (.cells zeros33 33)).heap[u1.heap.size]? = some (.cells zeros33 33 (0, 0))) := Lib.hid (heap_alloc_new _ _)
        have HBa1 : Hid (Below u1.heap.size u1 (u1.alloc (.cells zeros33 33))) := Lib.hid ((Below.refl _ _).alloc (Nat.le_refl _) _)
        clear hK K
        try simp only [Act.put, List.setIfInBounds_toArray, List.set_cons_zero, List.set_cons_succ]
        generalize (u1.alloc (.cells zeros33 33)) = u2 at *
        refine wpAnyH_ready (rs := [4]) (by kernel_rfl) (by simp) ?_
        refine (AllReadyH.cons (o := { dst := some 11, op := Op.alloc 33, type := 0, pos := "outright.go:63", after := #[], guard := none }) rfl (fun K hK => ?_) AllReadyH.nil)
        · rw [if_pos (by rfl)]
          refine wp_allocV 33 rfl zeros33 al33 ?_
          refine hK.out _ _ (bx_below hHeldu2 ((Below.refl _ _).alloc (Nat.le_refl _) _) hHeldu2.2.size) (fun hHeldu3 => ?_)
          have HZ4 : Hid ((u2.alloc (.cells zeros33 33)).heap[u2.heap.size]? = some (.cells zeros33 33 (0, 0))) := Lib.hid (heap_alloc_new _ _)
          have HBa2 : Hid (Below u2.heap.size u2 (u2.alloc (.cells zeros33 33))) := Lib.hid ((Below.refl _ _).alloc (Nat.le_refl _) _)
          clear hK K
          try simp only [Act.put, List.setIfInBounds_toArray, List.set_cons_zero, List.set_cons_succ]
          generalize (u2.alloc (.cells zeros33 33)) = u3 at *
          have z3 : u3.heap[u1.heap.size]? = some (.cells zeros33 33 (0, 0)) := ((HBa2.out.block _ (lt_of_block (HZ3.out))).trans (HZ3.out))
          have z4 : u3.heap[u2.heap.size]? = some (.cells zeros33 33 (0, 0)) := HZ4.out
          have z5 : u3.heap[W.drew.heap.size]? = some (.cells zeros33 33 (0, 0)) := ((HBa2.out.block _ (lt_of_block (((HBa1.out.block _ (lt_of_block (HZ5.out))).trans (HZ5.out))))).trans (((HBa1.out.block _ (lt_of_block (HZ5.out))).trans (HZ5.out))))
          have e1 : W.drew.heap.size < u1.heap.size := lt_of_block HZ5.out
          have e2 : u1.heap.size < u2.heap.size := lt_of_block HZ3.out
          have e0 : W.heap.size = W.drew.heap.size := rfl
          have hfin := fin2 (W := W) (row := (llcF 1 128 194 0 0 0 s0 s1 s2 s3 s4 s5 (.slice (some ⟨t, 0, none⟩) 1 1) 66 66 3 (.slice ba m bc))) hHeldu3.2 z3 z4 z5 (by omega) (by omega) (by omega) (by omega) (by omega) (by omega)
          have hgd : g < W.drew.heap.size := hgW.out
          refine wpAnyH_ready (rs := [6]) (by kernel_rfl) (by simp) ?_
          refine AllReadyH.cons (o := { dst := none, op := Op.store 33 (Operand.tmp 10) (Operand.tmp 30), type := 0, pos := "outright.go:63", after := #[{ on := 3, ground := Ground.data }, { on := 0, ground := Ground.data }, { on := 0, ground := Ground.phase }, { on := 1, ground := Ground.textOnly Departure.lateStores }, { on := 2, ground := Ground.textOnly Departure.lateStores }, { on := 3, ground := Ground.phase }, { on := 4, ground := Ground.phase }, { on := 5, ground := Ground.phase }], guard := none }) rfl (fun K hK => ?_) AllReadyH.nil
          rw [if_pos (by rfl)]
          refine wp_store_row 33 (.tmp 10) (.tmp 30) rfl u1.heap.size (llcF 1 128 194 0 0 0 s0 s1 s2 s3 s4 s5 (.slice (some ⟨t, 0, none⟩) 1 1) 66 66 3 (.slice ba m bc)) rfl rfl 33 zeros33 z3 (by kernel_rfl) rfl (oneLlc s0 s1 s2 s3 s4 s5 t ba m bc) ?_
          refine hK.out _ _ (bx_set2 hHeldu3 (by omega) (by omega)) (fun hHeldY0 => ?_)
          clear hK K
          try simp only [Act.put]
          refine wpAnyH_ready (rs := [7]) (by kernel_rfl) (by simp) ?_
          refine AllReadyH.cons (o := { dst := none, op := Op.store 33 (Operand.tmp 11) (Operand.tmp 31), type := 0, pos := "outright.go:63", after := #[{ on := 4, ground := Ground.data }, { on := 1, ground := Ground.data }, { on := 6, ground := Ground.chain }, { on := 0, ground := Ground.phase }, { on := 1, ground := Ground.phase }, { on := 2, ground := Ground.textOnly Departure.lateStores }, { on := 3, ground := Ground.phase }, { on := 4, ground := Ground.phase }, { on := 5, ground := Ground.phase }, { on := 6, ground := Ground.phase }], guard := none }) rfl (fun K hK => ?_) AllReadyH.nil
          rw [if_pos (by rfl)]
          refine wp_store_row 33 (.tmp 11) (.tmp 31) rfl u2.heap.size (llcF 1 128 194 0 0 0 s0 s1 s2 s3 s4 s5 (.slice (some ⟨t, 0, none⟩) 1 1) 66 66 3 (.slice ba m bc)) rfl rfl 33 zeros33 ((setRow_other _ _ _ _ (by omega)).trans z4) (by kernel_rfl) rfl (oneLlc s0 s1 s2 s3 s4 s5 t ba m bc) ?_
          refine hK.out _ _ (bx_set2 hHeldY0 (by omega) (by omega)) (fun hHeldY1 => ?_)
          clear hK K
          try simp only [Act.put]
          refine wpAnyH_ready (rs := [8]) (by kernel_rfl) (by simp) ?_
          refine AllReadyH.cons (o := { dst := none, op := Op.store 33 (Operand.tmp 12) (Operand.tmp 32), type := 0, pos := "outright.go:63", after := #[{ on := 5, ground := Ground.data }, { on := 2, ground := Ground.data }, { on := 7, ground := Ground.chain }, { on := 0, ground := Ground.phase }, { on := 1, ground := Ground.phase }, { on := 2, ground := Ground.phase }, { on := 3, ground := Ground.phase }, { on := 4, ground := Ground.phase }, { on := 5, ground := Ground.phase }, { on := 6, ground := Ground.phase }, { on := 7, ground := Ground.phase }], guard := none }) rfl (fun K hK => ?_) AllReadyH.nil
          rw [if_pos (by rfl)]
          refine wp_store_row 33 (.tmp 12) (.tmp 32) rfl W.drew.heap.size (llcF 1 128 194 0 0 0 s0 s1 s2 s3 s4 s5 (.slice (some ⟨t, 0, none⟩) 1 1) 66 66 3 (.slice ba m bc)) rfl rfl 33 zeros33 ((setRow_other _ _ _ _ (by omega)).trans ((setRow_other _ _ _ _ (by omega)).trans z5)) (by kernel_rfl) rfl (oneLlc s0 s1 s2 s3 s4 s5 t ba m bc) ?_
          refine hK.out _ _ (bx_set2 hHeldY1 (by omega) (by omega)) (fun hHeldY2 => ?_)
          clear hK K
          try simp only [Act.put]
          refine wpAnyH_done (by kernel_rfl) ?_ _
          exact NoPanic.normal ⟨u1.heap.size, u2.heap.size, W.drew.heap.size, _, _, _, rfl, rfl, hfin⟩
      · rw [if_pos (by rfl)]
        refine wp_allocV 33 rfl zeros33 al33 ?_
        refine hK.out _ _ (bx_below hHeldu1 ((Below.refl _ _).alloc (Nat.le_refl _) _) hHeldu1.2.size) (fun hHeldu2 => ?_)
        have HZ4 : Hid ((u1.alloc (.cells zeros33 33)).heap[u1.heap.size]? = some (.cells zeros33 33 (0, 0))) := Lib.hid (heap_alloc_new _ _)
        have HBa1 : Hid (Below u1.heap.size u1 (u1.alloc (.cells zeros33 33))) := Lib.hid ((Below.refl _ _).alloc (Nat.le_refl _) _)
        clear hK K
        try simp only [Act.put, List.setIfInBounds_toArray, List.set_cons_zero, List.set_cons_succ]
        generalize (u1.alloc (.cells zeros33 33)) = u2 at *
        refine wpAnyH_ready (rs := [3]) (by kernel_rfl) (by simp) ?_
        refine (AllReadyH.cons (o := { dst := some 10, op := Op.alloc 33, type := 0, pos := "outright.go:63", after := #[], guard := none }) rfl (fun K hK => ?_) AllReadyH.nil)
        · rw [if_pos (by rfl)]
          refine wp_allocV 33 rfl zeros33 al33 ?_
          refine hK.out _ _ (bx_below hHeldu2 ((Below.refl _ _).alloc (Nat.le_refl _) _) hHeldu2.2.size) (fun hHeldu3 => ?_)
          have HZ3 : Hid ((u2.alloc (.cells zeros33 33)).heap[u2.heap.size]? = some (.cells zeros33 33 (0, 0))) := Lib.hid (heap_alloc_new _ _)
          have HBa2 : Hid (Below u2.heap.size u2 (u2.alloc (.cells zeros33 33))) := Lib.hid ((Below.refl _ _).alloc (Nat.le_refl _) _)
          clear hK K
          try simp only [Act.put, List.setIfInBounds_toArray, List.set_cons_zero, List.set_cons_succ]
          generalize (u2.alloc (.cells zeros33 33)) = u3 at *
          have z3 : u3.heap[u2.heap.size]? = some (.cells zeros33 33 (0, 0)) := HZ3.out
          have z4 : u3.heap[u1.heap.size]? = some (.cells zeros33 33 (0, 0)) := ((HBa2.out.block _ (lt_of_block (HZ4.out))).trans (HZ4.out))
          have z5 : u3.heap[W.drew.heap.size]? = some (.cells zeros33 33 (0, 0)) := ((HBa2.out.block _ (lt_of_block (((HBa1.out.block _ (lt_of_block (HZ5.out))).trans (HZ5.out))))).trans (((HBa1.out.block _ (lt_of_block (HZ5.out))).trans (HZ5.out))))
          have e1 : W.drew.heap.size < u1.heap.size := lt_of_block HZ5.out
          have e2 : u1.heap.size < u2.heap.size := lt_of_block HZ4.out
          have e0 : W.heap.size = W.drew.heap.size := rfl
          have hfin := fin2 (W := W) (row := (llcF 1 128 194 0 0 0 s0 s1 s2 s3 s4 s5 (.slice (some ⟨t, 0, none⟩) 1 1) 66 66 3 (.slice ba m bc))) hHeldu3.2 z3 z4 z5 (by omega) (by omega) (by omega) (by omega) (by omega) (by omega)
          have hgd : g < W.drew.heap.size := hgW.out
          refine wpAnyH_ready (rs := [6]) (by kernel_rfl) (by simp) ?_
          refine AllReadyH.cons (o := { dst := none, op := Op.store 33 (Operand.tmp 10) (Operand.tmp 30), type := 0, pos := "outright.go:63", after := #[{ on := 3, ground := Ground.data }, { on := 0, ground := Ground.data }, { on := 0, ground := Ground.phase }, { on := 1, ground := Ground.textOnly Departure.lateStores }, { on := 2, ground := Ground.textOnly Departure.lateStores }, { on := 3, ground := Ground.phase }, { on := 4, ground := Ground.phase }, { on := 5, ground := Ground.phase }], guard := none }) rfl (fun K hK => ?_) AllReadyH.nil
          rw [if_pos (by rfl)]
          refine wp_store_row 33 (.tmp 10) (.tmp 30) rfl u2.heap.size (llcF 1 128 194 0 0 0 s0 s1 s2 s3 s4 s5 (.slice (some ⟨t, 0, none⟩) 1 1) 66 66 3 (.slice ba m bc)) rfl rfl 33 zeros33 z3 (by kernel_rfl) rfl (oneLlc s0 s1 s2 s3 s4 s5 t ba m bc) ?_
          refine hK.out _ _ (bx_set2 hHeldu3 (by omega) (by omega)) (fun hHeldY0 => ?_)
          clear hK K
          try simp only [Act.put]
          refine wpAnyH_ready (rs := [7]) (by kernel_rfl) (by simp) ?_
          refine AllReadyH.cons (o := { dst := none, op := Op.store 33 (Operand.tmp 11) (Operand.tmp 31), type := 0, pos := "outright.go:63", after := #[{ on := 4, ground := Ground.data }, { on := 1, ground := Ground.data }, { on := 6, ground := Ground.chain }, { on := 0, ground := Ground.phase }, { on := 1, ground := Ground.phase }, { on := 2, ground := Ground.textOnly Departure.lateStores }, { on := 3, ground := Ground.phase }, { on := 4, ground := Ground.phase }, { on := 5, ground := Ground.phase }, { on := 6, ground := Ground.phase }], guard := none }) rfl (fun K hK => ?_) AllReadyH.nil
          rw [if_pos (by rfl)]
          refine wp_store_row 33 (.tmp 11) (.tmp 31) rfl u1.heap.size (llcF 1 128 194 0 0 0 s0 s1 s2 s3 s4 s5 (.slice (some ⟨t, 0, none⟩) 1 1) 66 66 3 (.slice ba m bc)) rfl rfl 33 zeros33 ((setRow_other _ _ _ _ (by omega)).trans z4) (by kernel_rfl) rfl (oneLlc s0 s1 s2 s3 s4 s5 t ba m bc) ?_
          refine hK.out _ _ (bx_set2 hHeldY0 (by omega) (by omega)) (fun hHeldY1 => ?_)
          clear hK K
          try simp only [Act.put]
          refine wpAnyH_ready (rs := [8]) (by kernel_rfl) (by simp) ?_
          refine AllReadyH.cons (o := { dst := none, op := Op.store 33 (Operand.tmp 12) (Operand.tmp 32), type := 0, pos := "outright.go:63", after := #[{ on := 5, ground := Ground.data }, { on := 2, ground := Ground.data }, { on := 7, ground := Ground.chain }, { on := 0, ground := Ground.phase }, { on := 1, ground := Ground.phase }, { on := 2, ground := Ground.phase }, { on := 3, ground := Ground.phase }, { on := 4, ground := Ground.phase }, { on := 5, ground := Ground.phase }, { on := 6, ground := Ground.phase }, { on := 7, ground := Ground.phase }], guard := none }) rfl (fun K hK => ?_) AllReadyH.nil
          rw [if_pos (by rfl)]
          refine wp_store_row 33 (.tmp 12) (.tmp 32) rfl W.drew.heap.size (llcF 1 128 194 0 0 0 s0 s1 s2 s3 s4 s5 (.slice (some ⟨t, 0, none⟩) 1 1) 66 66 3 (.slice ba m bc)) rfl rfl 33 zeros33 ((setRow_other _ _ _ _ (by omega)).trans ((setRow_other _ _ _ _ (by omega)).trans z5)) (by kernel_rfl) rfl (oneLlc s0 s1 s2 s3 s4 s5 t ba m bc) ?_
          refine hK.out _ _ (bx_set2 hHeldY1 (by omega) (by omega)) (fun hHeldY2 => ?_)
          clear hK K
          try simp only [Act.put]
          refine wpAnyH_done (by kernel_rfl) ?_ _
          exact NoPanic.normal ⟨u2.heap.size, u1.heap.size, W.drew.heap.size, _, _, _, rfl, rfl, hfin⟩
  refine wp_region_noPanic ?_
  refine wp_region_held_drew (S := fun w' => w'.heap[w.heap.size]? = some (.cells #[.int .u8 s0, .int .u8 s1, .int .u8 s2, .int .u8 s3, .int .u8 s4, .int .u8 s5] 27 (0, 0)) ∧ Below w.heap.size w w') (by kernel_rfl) ⟨hbox, bd (n := 1) HB0.out⟩ (fun hHeld => ?_)
  refine wpAnyH_take (i := 0) (oi := { dst := some 17, op := Op.build 28 #[(0, Operand.const (Value.int IntKind.u8 1)), (1, Operand.const (Value.int IntKind.u8 128)), (2, Operand.const (Value.int IntKind.u8 194))], type := 28, pos := "outright.go:62", after := #[], guard := none }) (v := ?_) rfl (by kernel_rfl) (by kernel_rfl) (by kernel_rfl) (fun _ _ _ h => h) (Or.inl ⟨by rfl, ?_⟩) (by assumption) ?_
  rotate_left
  · intro w hSw; (try dsimp only at hSw); go_simp
    all_goals with_reducible rfl
  try simp only [Act.put, List.setIfInBounds_toArray, List.set_cons_zero, List.set_cons_succ]
  refine wpAnyH_take (i := 1) (oi := { dst := some 18, op := Op.load 27 (Operand.tmp 4), type := 27, pos := "outright.go:62", after := #[], guard := none }) (v := _) rfl (by kernel_rfl) (by kernel_rfl) (by kernel_rfl) (fun _ _ _ h => h) (yields_load_row 27 (.tmp 4) rfl _ rfl 27 #[.int .u8 s0, .int .u8 s1, .int .u8 s2, .int .u8 s3, .int .u8 s4, .int .u8 s5] (0, 0) _ (fun w hw => hw.1) Tryd.underlying27 rfl (by kernel_rfl) (by rfl)) (by assumption) ?_
  try simp only [Act.put, List.setIfInBounds_toArray, List.set_cons_zero, List.set_cons_succ]
  refine wpAnyH_take (i := 2) (oi := { dst := some 19, op := Op.move (Operand.tmp 2), type := 24, pos := "outright.go:62", after := #[], guard := none }) (v := ?_) rfl (by kernel_rfl) (by kernel_rfl) (by kernel_rfl) (fun _ _ _ h => h) (Or.inl ⟨by rfl, ?_⟩) (by assumption) ?_
  rotate_left
  · intro w hSw; (try dsimp only at hSw); go_simp
    all_goals with_reducible rfl
  try simp only [Act.put, List.setIfInBounds_toArray, List.set_cons_zero, List.set_cons_succ]
  refine wpAnyH_take (i := 3) (oi := { dst := some 20, op := Op.binOp BinOp.rem 24 (Operand.tmp 19) (Operand.const (Value.int IntKind.u16 4096)) 24, type := 24, pos := "outright.go:62", after := #[{ on := 2, ground := Ground.data }], guard := none }) (v := ?_) rfl (by kernel_rfl) (by kernel_rfl) (by kernel_rfl) (fun _ _ _ h => h) (Or.inl ⟨by rfl, ?_⟩) (by assumption) ?_
  rotate_left
  · intro w hSw; (try dsimp only at hSw); go_simp
    all_goals with_reducible rfl
  try simp only [Act.put, List.setIfInBounds_toArray, List.set_cons_zero, List.set_cons_succ]
  refine wpAnyH_take (i := 6) (oi := { dst := some 23, op := Op.build 30 #[(0, Operand.const (Value.int IntKind.u8 66)), (1, Operand.const (Value.int IntKind.u8 66)), (2, Operand.const (Value.int IntKind.u8 3))], type := 30, pos := "outright.go:62", after := #[], guard := none }) (v := ?_) rfl (by kernel_rfl) (by kernel_rfl) (by kernel_rfl) (fun _ _ _ h => h) (Or.inl ⟨by rfl, ?_⟩) (by assumption) ?_
  rotate_left
  · intro w hSw; (try dsimp only at hSw); go_simp
    all_goals with_reducible rfl
  try simp only [Act.put, List.setIfInBounds_toArray, List.set_cons_zero, List.set_cons_succ]
  refine wpAnyH_take (i := 7) (oi := { dst := some 24, op := Op.move (Operand.tmp 1), type := 31, pos := "outright.go:62", after := #[], guard := none }) (v := ?_) rfl (by kernel_rfl) (by kernel_rfl) (by kernel_rfl) (fun _ _ _ h => h) (Or.inl ⟨by rfl, ?_⟩) (by assumption) ?_
  rotate_left
  · intro w hSw; (try dsimp only at hSw); go_simp
    all_goals with_reducible rfl
  try simp only [Act.put, List.setIfInBounds_toArray, List.set_cons_zero, List.set_cons_succ]
  refine wpAnyH_take (i := 8) (oi := { dst := some 25, op := Op.move (Operand.tmp 1), type := 31, pos := "outright.go:62", after := #[], guard := none }) (v := ?_) rfl (by kernel_rfl) (by kernel_rfl) (by kernel_rfl) (fun _ _ _ h => h) (Or.inl ⟨by rfl, ?_⟩) (by assumption) ?_
  rotate_left
  · intro w hSw; (try dsimp only at hSw); go_simp
    all_goals with_reducible rfl
  try simp only [Act.put, List.setIfInBounds_toArray, List.set_cons_zero, List.set_cons_succ]
  refine wpAnyH_take (i := 9) (oi := { dst := some 26, op := Op.call { callee := Callee.builtin Builtin.len, args := #[Operand.tmp 25], argTypes := #[31] }, type := 3, pos := "outright.go:62", after := #[{ on := 8, ground := Ground.data }], guard := none }) (v := ?_) rfl (by kernel_rfl) (by kernel_rfl) (by kernel_rfl) (fun _ _ _ h => h) (Or.inl ⟨by rfl, ?_⟩) (by assumption) ?_
  rotate_left
  · intro w hSw; (try dsimp only at hSw); go_simp
    all_goals with_reducible rfl
  try simp only [Act.put, List.setIfInBounds_toArray, List.set_cons_zero, List.set_cons_succ]
  refine wpAnyH_take (i := 10) (oi := { dst := some 27, op := Op.call { callee := Callee.builtin Builtin.min, args := #[Operand.tmp 26, Operand.const (Value.int IntKind.i64 100)], argTypes := #[3, 3] }, type := 3, pos := "outright.go:62", after := #[{ on := 9, ground := Ground.data }], guard := none }) (v := ?_) rfl (by kernel_rfl) (by kernel_rfl) (by kernel_rfl) (fun _ _ _ h => h) (Or.inl ⟨by rfl, ?_⟩) (by assumption) ?_
  rotate_left
  · intro w hSw; (try dsimp only at hSw); go_simp
    all_goals with_reducible rfl
  try simp only [Act.put, List.setIfInBounds_toArray, List.set_cons_zero, List.set_cons_succ]
  refine wpAnyH_take (i := 11) (oi := { dst := some 28, op := Op.slice 31 (Operand.tmp 24) none (some (Operand.tmp 27)) none, type := 31, pos := "outright.go:62", after := #[{ on := 7, ground := Ground.data }, { on := 10, ground := Ground.data }], guard := none }) (v := ?_) rfl (by kernel_rfl) (by kernel_rfl) (by kernel_rfl) (fun _ _ _ h => h) (Or.inl ⟨by rfl, ?_⟩) (by assumption) ?_
  rotate_left
  · intro w hSw; (try dsimp only at hSw); go_simp
    all_goals with_reducible rfl
  try simp only [Act.put, List.setIfInBounds_toArray, List.set_cons_zero, List.set_cons_succ]
  clear hbox HB0
  generalize (w.alloc (.cells #[.int .u8 s0, .int .u8 s1, .int .u8 s2, .int .u8 s3, .int .u8 s4, .int .u8 s5] 27)).drew = W0 at *
  refine wpAnyH_ready (rs := [4, 13]) (by kernel_rfl) (by simp) ?_
  refine AllReadyH.cons (o := { dst := some 21, op := Op.call { callee := Callee.value (Operand.func 15), args := #[Operand.tmp 20], argTypes := #[24] }, type := 52, pos := "outright.go:62", after := #[{ on := 3, ground := Ground.data }], guard := none }) rfl (fun K hK => ?_) (AllReadyH.cons (o := { dst := some 9, op := Op.alloc 33, type := 0, pos := "outright.go:62", after := #[], guard := none }) rfl (fun K hK => ?_) AllReadyH.nil)
  · go_simp
    refine (plain_any _ _).mono ?_
    rintro e w1 ⟨rfl, hbc⟩
    dsimp only
    refine hK.out _ _ (bx_below (by assumption) hbc) (fun hHeldw1 => ?_)
    clear hK K
    try simp only [Act.put, List.setIfInBounds_toArray, List.set_cons_zero, List.set_cons_succ]
    refine wpAnyH_ready (rs := [5, 13]) (by kernel_rfl) (by simp) ?_
    refine AllReadyH.cons (o := { dst := some 22, op := Op.buildSlice 29 1 #[(0, Operand.tmp 21)], type := 29, pos := "outright.go:62", after := #[{ on := 4, ground := Ground.data }], guard := none }) rfl (fun K hK => ?_) (AllReadyH.cons (o := { dst := some 9, op := Op.alloc 33, type := 0, pos := "outright.go:62", after := #[], guard := none }) rfl (fun K hK => ?_) AllReadyH.nil)
    · go_simp
      refine hK.out _ _ (bx_below (by assumption) ((Below.refl _ _).alloc (Nat.le_refl _) _)) (fun hHeldw2 => ?_)
      have HT : Tg (w1.alloc (.cells #[.int .u16 33024, .int .u8 0, .bool false, .int .u16 k] 52)) w1.heap.size k := tg_new w1 k
      have HBb : Hid (Below w1.heap.size w1 (w1.alloc (.cells #[.int .u16 33024, .int .u8 0, .bool false, .int .u16 k] 52))) := Lib.hid ((Below.refl _ _).alloc (Nat.le_refl _) _)
      have HT := Lib.hid HT
      clear hK K
      try simp only [Act.put, List.setIfInBounds_toArray, List.set_cons_zero, List.set_cons_succ]
      generalize (w1.alloc (.cells #[.int .u16 33024, .int .u8 0, .bool false, .int .u16 k] 52)) = w2 at *
      refine wpAnyH_take (i := 12) (oi := { dst := some 29, op := Op.build 33 #[(0, Operand.tmp 17), (1, Operand.tmp 18), (2, Operand.tmp 22), (3, Operand.const (Value.int IntKind.i64 2)), (5, Operand.tmp 23), (7, Operand.tmp 28)], type := 33, pos := "outright.go:62", after := #[{ on := 0, ground := Ground.data }, { on := 1, ground := Ground.data }, { on := 5, ground := Ground.data }, { on := 6, ground := Ground.data }, { on := 11, ground := Ground.data }], guard := none }) (v := ?_) rfl (by kernel_rfl) (by kernel_rfl) (by kernel_rfl) (fun _ _ _ h => h) (Or.inl ⟨by rfl, ?_⟩) (by assumption) ?_
      rotate_left
      · intro w hSw; (try dsimp only at hSw); go_simp
        all_goals with_reducible rfl
      try simp only [Act.put, List.setIfInBounds_toArray, List.set_cons_zero, List.set_cons_succ]
      refine wpAnyH_ready (rs := [13]) (by kernel_rfl) (by simp) ?_
      refine AllReadyH.cons (o := { dst := some 9, op := Op.alloc 33, type := 0, pos := "outright.go:62", after := #[], guard := none }) rfl (fun K hK => ?_) AllReadyH.nil
      rw [if_pos (by rfl)]
      refine wp_allocV 33 rfl zeros33 al33 ?_
      refine hK.out _ _ (bx_below (by assumption) ((Below.refl _ _).alloc (Nat.le_refl _) _)) (fun hHeldw3 => ?_)
      have HZ : Hid ((w2.alloc (.cells zeros33 33)).heap[w2.heap.size]? = some (.cells zeros33 33 (0, 0))) := Lib.hid (heap_alloc_new _ _)
      have HBa : Hid (Below w2.heap.size w2 (w2.alloc (.cells zeros33 33))) := Lib.hid ((Below.refl _ _).alloc (Nat.le_refl _) _)
      clear hK K
      try simp only [Act.put, List.setIfInBounds_toArray, List.set_cons_zero, List.set_cons_succ]
      generalize (w2.alloc (.cells zeros33 33)) = w3 at *
      refine wpAnyH_ready (rs := [14]) (by kernel_rfl) (by simp) ?_
      refine AllReadyH.cons (o := { dst := none, op := Op.store 33 (Operand.tmp 9) (Operand.tmp 29), type := 0, pos := "outright.go:62", after := #[{ on := 13, ground := Ground.data }, { on := 12, ground := Ground.data }, { on := 4, ground := Ground.chain }, { on := 0, ground := Ground.phase }, { on := 1, ground := Ground.phase }, { on := 2, ground := Ground.phase }, { on := 3, ground := Ground.phase }, { on := 4, ground := Ground.phase }, { on := 5, ground := Ground.phase }, { on := 6, ground := Ground.phase }, { on := 7, ground := Ground.phase }, { on := 8, ground := Ground.phase }, { on := 9, ground := Ground.phase }, { on := 10, ground := Ground.phase }, { on := 11, ground := Ground.phase }, { on := 12, ground := Ground.phase }, { on := 13, ground := Ground.phase }], guard := none }) rfl (fun K hK => ?_) AllReadyH.nil
      rw [if_pos (by rfl)]
      refine wp_store_row 33 (.tmp 9) (.tmp 29) rfl w2.heap.size (llcF 1 128 194 0 0 0 s0 s1 s2 s3 s4 s5 (.slice (some ⟨w1.heap.size, 0, none⟩) 1 1) 66 66 3 (.slice ba m bc)) rfl rfl 33 zeros33 HZ.out (by kernel_rfl) rfl (oneLlc s0 s1 s2 s3 s4 s5 w1.heap.size ba m bc) ?_
      have hfin := fin1 HZ.out (HT.out.below HBa.out) (show _ ∧ _ by assumption).2 (Nat.le_trans hHeldw1.2.size HBb.out.size) (Nat.ne_of_lt (lt_of_cell HT.out.t0)) (llcF 1 128 194 0 0 0 s0 s1 s2 s3 s4 s5 (.slice (some ⟨w1.heap.size, 0, none⟩) 1 1) 66 66 3 (.slice ba m bc))
      refine hK.out _ _ (bx_set (show _ ∧ _ by assumption) (Nat.ne_of_lt (Nat.lt_of_lt_of_le (lt_of_block hHeldw1.1) HBb.out.size))) (fun _ => ?_)
      clear hK K
      try simp only [Act.put]
      refine wpAnyH_done (by kernel_rfl) ?_ _
      exact NoPanic.normal ⟨w2.heap.size, w1.heap.size, _, _, _, _, _, _, _, _, _, _, _, _, _, rfl, rfl, hfin⟩
    · rw [if_pos (by rfl)]
      refine wp_allocV 33 rfl zeros33 al33 ?_
      refine hK.out _ _ (bx_below (by assumption) ((Below.refl _ _).alloc (Nat.le_refl _) _)) (fun hHeldw2 => ?_)
      have HZ : Hid ((w1.alloc (.cells zeros33 33)).heap[w1.heap.size]? = some (.cells zeros33 33 (0, 0))) := Lib.hid (heap_alloc_new _ _)
      have HBa : Hid (Below w1.heap.size w1 (w1.alloc (.cells zeros33 33))) := Lib.hid ((Below.refl _ _).alloc (Nat.le_refl _) _)
      clear hK K
      try simp only [Act.put, List.setIfInBounds_toArray, List.set_cons_zero, List.set_cons_succ]
      generalize (w1.alloc (.cells zeros33 33)) = w2 at *
      refine wpAnyH_ready (rs := [5]) (by kernel_rfl) (by simp) ?_
      refine AllReadyH.cons (o := { dst := some 22, op := Op.buildSlice 29 1 #[(0, Operand.tmp 21)], type := 29, pos := "outright.go:62", after := #[{ on := 4, ground := Ground.data }], guard := none }) rfl (fun K hK => ?_) AllReadyH.nil
      go_simp
      refine hK.out _ _ (bx_below (by assumption) ((Below.refl _ _).alloc (Nat.le_refl _) _)) (fun hHeldw3 => ?_)
      have HT : Tg (w2.alloc (.cells #[.int .u16 33024, .int .u8 0, .bool false, .int .u16 k] 52)) w2.heap.size k := tg_new w2 k
      have HBb : Hid (Below w2.heap.size w2 (w2.alloc (.cells #[.int .u16 33024, .int .u8 0, .bool false, .int .u16 k] 52))) := Lib.hid ((Below.refl _ _).alloc (Nat.le_refl _) _)
      have HT := Lib.hid HT
      clear hK K
      try simp only [Act.put, List.setIfInBounds_toArray, List.set_cons_zero, List.set_cons_succ]
      generalize (w2.alloc (.cells #[.int .u16 33024, .int .u8 0, .bool false, .int .u16 k] 52)) = w3 at *
      refine wpAnyH_take (i := 12) (oi := { dst := some 29, op := Op.build 33 #[(0, Operand.tmp 17), (1, Operand.tmp 18), (2, Operand.tmp 22), (3, Operand.const (Value.int IntKind.i64 2)), (5, Operand.tmp 23), (7, Operand.tmp 28)], type := 33, pos := "outright.go:62", after := #[{ on := 0, ground := Ground.data }, { on := 1, ground := Ground.data }, { on := 5, ground := Ground.data }, { on := 6, ground := Ground.data }, { on := 11, ground := Ground.data }], guard := none }) (v := ?_) rfl (by kernel_rfl) (by kernel_rfl) (by kernel_rfl) (fun _ _ _ h => h) (Or.inl ⟨by rfl, ?_⟩) (by assumption) ?_
      rotate_left
      · intro w hSw; (try dsimp only at hSw); go_simp
        all_goals with_reducible rfl
      try simp only [Act.put, List.setIfInBounds_toArray, List.set_cons_zero, List.set_cons_succ]
      refine wpAnyH_ready (rs := [14]) (by kernel_rfl) (by simp) ?_
      refine AllReadyH.cons (o := { dst := none, op := Op.store 33 (Operand.tmp 9) (Operand.tmp 29), type := 0, pos := "outright.go:62", after := #[{ on := 13, ground := Ground.data }, { on := 12, ground := Ground.data }, { on := 4, ground := Ground.chain }, { on := 0, ground := Ground.phase }, { on := 1, ground := Ground.phase }, { on := 2, ground := Ground.phase }, { on := 3, ground := Ground.phase }, { on := 4, ground := Ground.phase }, { on := 5, ground := Ground.phase }, { on := 6, ground := Ground.phase }, { on := 7, ground := Ground.phase }, { on := 8, ground := Ground.phase }, { on := 9, ground := Ground.phase }, { on := 10, ground := Ground.phase }, { on := 11, ground := Ground.phase }, { on := 12, ground := Ground.phase }, { on := 13, ground := Ground.phase }], guard := none }) rfl (fun K hK => ?_) AllReadyH.nil
      rw [if_pos (by rfl)]
      refine wp_store_row 33 (.tmp 9) (.tmp 29) rfl w1.heap.size (llcF 1 128 194 0 0 0 s0 s1 s2 s3 s4 s5 (.slice (some ⟨w2.heap.size, 0, none⟩) 1 1) 66 66 3 (.slice ba m bc)) rfl rfl 33 zeros33 ((HBb.out.block _ (lt_of_block HZ.out)).trans HZ.out) (by kernel_rfl) rfl (oneLlc s0 s1 s2 s3 s4 s5 w2.heap.size ba m bc) ?_
      have hfin := fin1 ((HBb.out.block _ (lt_of_block HZ.out)).trans HZ.out) HT.out (show _ ∧ _ by assumption).2 hHeldw1.2.size (Nat.ne_of_gt (lt_of_block HZ.out)) (llcF 1 128 194 0 0 0 s0 s1 s2 s3 s4 s5 (.slice (some ⟨w2.heap.size, 0, none⟩) 1 1) 66 66 3 (.slice ba m bc))
      refine hK.out _ _ (bx_set (show _ ∧ _ by assumption) (Nat.ne_of_lt (lt_of_block hHeldw1.1))) (fun _ => ?_)
      clear hK K
      try simp only [Act.put]
      refine wpAnyH_done (by kernel_rfl) ?_ _
      exact NoPanic.normal ⟨w1.heap.size, w2.heap.size, _, _, _, _, _, _, _, _, _, _, _, _, _, rfl, rfl, hfin⟩
  · rw [if_pos (by rfl)]
    refine wp_allocV 33 rfl zeros33 al33 ?_
    refine hK.out _ _ (bx_below (by assumption) ((Below.refl _ _).alloc (Nat.le_refl _) _)) (fun hHeldw1 => ?_)
    have HZ : Hid ((W0.alloc (.cells zeros33 33)).heap[W0.heap.size]? = some (.cells zeros33 33 (0, 0))) := Lib.hid (heap_alloc_new _ _)
    have HBa : Hid (Below W0.heap.size W0 (W0.alloc (.cells zeros33 33))) := Lib.hid ((Below.refl _ _).alloc (Nat.le_refl _) _)
    clear hK K
    try simp only [Act.put, List.setIfInBounds_toArray, List.set_cons_zero, List.set_cons_succ]
    generalize (W0.alloc (.cells zeros33 33)) = w1 at *
    refine wpAnyH_ready (rs := [4]) (by kernel_rfl) (by simp) ?_
    refine AllReadyH.cons (o := { dst := some 21, op := Op.call { callee := Callee.value (Operand.func 15), args := #[Operand.tmp 20], argTypes := #[24] }, type := 52, pos := "outright.go:62", after := #[{ on := 3, ground := Ground.data }], guard := none }) rfl (fun K hK => ?_) AllReadyH.nil
    go_simp
    refine (plain_any _ _).mono ?_
    rintro e w2 ⟨rfl, hbc⟩
    dsimp only
    refine hK.out _ _ (bx_below (by assumption) hbc) (fun hHeldw2 => ?_)
    clear hK K
    try simp only [Act.put, List.setIfInBounds_toArray, List.set_cons_zero, List.set_cons_succ]
    refine wpAnyH_ready (rs := [5]) (by kernel_rfl) (by simp) ?_
    refine AllReadyH.cons (o := { dst := some 22, op := Op.buildSlice 29 1 #[(0, Operand.tmp 21)], type := 29, pos := "outright.go:62", after := #[{ on := 4, ground := Ground.data }], guard := none }) rfl (fun K hK => ?_) AllReadyH.nil
    go_simp
    refine hK.out _ _ (bx_below (by assumption) ((Below.refl _ _).alloc (Nat.le_refl _) _)) (fun hHeldw3 => ?_)
    have HT : Tg (w2.alloc (.cells #[.int .u16 33024, .int .u8 0, .bool false, .int .u16 k] 52)) w2.heap.size k := tg_new w2 k
    have HBb : Hid (Below w2.heap.size w2 (w2.alloc (.cells #[.int .u16 33024, .int .u8 0, .bool false, .int .u16 k] 52))) := Lib.hid ((Below.refl _ _).alloc (Nat.le_refl _) _)
    have HT := Lib.hid HT
    clear hK K
    try simp only [Act.put, List.setIfInBounds_toArray, List.set_cons_zero, List.set_cons_succ]
    generalize (w2.alloc (.cells #[.int .u16 33024, .int .u8 0, .bool false, .int .u16 k] 52)) = w3 at *
    refine wpAnyH_take (i := 12) (oi := { dst := some 29, op := Op.build 33 #[(0, Operand.tmp 17), (1, Operand.tmp 18), (2, Operand.tmp 22), (3, Operand.const (Value.int IntKind.i64 2)), (5, Operand.tmp 23), (7, Operand.tmp 28)], type := 33, pos := "outright.go:62", after := #[{ on := 0, ground := Ground.data }, { on := 1, ground := Ground.data }, { on := 5, ground := Ground.data }, { on := 6, ground := Ground.data }, { on := 11, ground := Ground.data }], guard := none }) (v := ?_) rfl (by kernel_rfl) (by kernel_rfl) (by kernel_rfl) (fun _ _ _ h => h) (Or.inl ⟨by rfl, ?_⟩) (by assumption) ?_
    rotate_left
    · intro w hSw; (try dsimp only at hSw); go_simp
      all_goals with_reducible rfl
    try simp only [Act.put, List.setIfInBounds_toArray, List.set_cons_zero, List.set_cons_succ]
    refine wpAnyH_ready (rs := [14]) (by kernel_rfl) (by simp) ?_
    refine AllReadyH.cons (o := { dst := none, op := Op.store 33 (Operand.tmp 9) (Operand.tmp 29), type := 0, pos := "outright.go:62", after := #[{ on := 13, ground := Ground.data }, { on := 12, ground := Ground.data }, { on := 4, ground := Ground.chain }, { on := 0, ground := Ground.phase }, { on := 1, ground := Ground.phase }, { on := 2, ground := Ground.phase }, { on := 3, ground := Ground.phase }, { on := 4, ground := Ground.phase }, { on := 5, ground := Ground.phase }, { on := 6, ground := Ground.phase }, { on := 7, ground := Ground.phase }, { on := 8, ground := Ground.phase }, { on := 9, ground := Ground.phase }, { on := 10, ground := Ground.phase }, { on := 11, ground := Ground.phase }, { on := 12, ground := Ground.phase }, { on := 13, ground := Ground.phase }], guard := none }) rfl (fun K hK => ?_) AllReadyH.nil
    rw [if_pos (by rfl)]
    refine wp_store_row 33 (.tmp 9) (.tmp 29) rfl W0.heap.size (llcF 1 128 194 0 0 0 s0 s1 s2 s3 s4 s5 (.slice (some ⟨w2.heap.size, 0, none⟩) 1 1) 66 66 3 (.slice ba m bc)) rfl rfl 33 zeros33 ((HBb.out.block _ (Nat.lt_of_lt_of_le (lt_of_block HZ.out) hbc.size)).trans ((hbc.block _ (lt_of_block HZ.out)).trans HZ.out)) (by kernel_rfl) rfl (oneLlc s0 s1 s2 s3 s4 s5 w2.heap.size ba m bc) ?_
    have hfin := fin1 ((HBb.out.block _ (Nat.lt_of_lt_of_le (lt_of_block HZ.out) hbc.size)).trans ((hbc.block _ (lt_of_block HZ.out)).trans HZ.out)) HT.out (show _ ∧ _ by assumption).2 hHeld.2.size (Nat.ne_of_gt (Nat.lt_of_lt_of_le (lt_of_block HZ.out) hbc.size)) (llcF 1 128 194 0 0 0 s0 s1 s2 s3 s4 s5 (.slice (some ⟨w2.heap.size, 0, none⟩) 1 1) 66 66 3 (.slice ba m bc))
    refine hK.out _ _ (bx_set (show _ ∧ _ by assumption) (Nat.ne_of_lt (lt_of_block hHeld.1))) (fun _ => ?_)
    clear hK K
    try simp only [Act.put]
    refine wpAnyH_done (by kernel_rfl) ?_ _
    exact NoPanic.normal ⟨W0.heap.size, w2.heap.size, _, _, _, _, _, _, _, _, _, _, _, _, _, rfl, rfl, hfin⟩
end Go.Proofs.YtcahlponmbnkcaaDoor
