/- tag: the bytes of a tag. -/
import Derived.Test.YtcahlponmbnkcaaDoorV4
import Derived.Deep.RegionHeld3
namespace Go.Proofs.YtcahlponmbnkcaaDoor
open Go Go.RowKit Go.Sort

set_option maxRecDepth 100000 in
set_option maxHeartbeats 1000000 in
theorem tbytes_nil (w : World) :
    Calls Tryd.prog 46 #[.slice none 0 0] w fun e w' => ∃ v, e = .returned v ∧ Rd w' v [] ∧ Below w.heap.size w w' := by
  go_enter Tryd.func46, Tryd.ntmps46
  go_wp2_with (go_at_call 54; refine (plaid_any _).mono ?_; rintro e w1 ⟨g, rfl, h1, h2⟩)
  have HP := Lib.hid h1
  have HB := Lib.hid h2
  clear h1 h2
  go_loop [9] (fun i => i = .int .i64 0) (fun _ => 0)
  case atStart => rfl
  case round =>
    obtain rfl := hrel
    go_wp2_with (go_at_call 57; refine (pdone_any _ _ _ _ HP.out (by simp)).mono ?_; rintro e w2 ⟨v, rfl, h1, h2⟩)
    go_ret
    exact ⟨v, rfl, h1, HB.out.trans (h2.mono HB.out.size)⟩

theorem tof_agg (n : Int) (w : World) (h0 : 0 ≤ n) (h1 : n ≤ 4095) :
    Calls Tryd.prog 49 #[.int .u16 33024, .int .u16 n] w fun e w' => e = .returned (.agg #[.int .u16 33024, .int .u8 0, .bool false, .int .u16 n]) ∧ Below w.heap.size w w' := tof_any n w h0 h1

theorem tS_of {t : Nat} {n : Int} {w w1 : World} (h : w1.heap[t]? = some (Obj.cells #[.int .u16 33024, .int .u8 0, .bool false, .int .u16 n] 52 (0, 0))) (hb : Below w.heap.size w w1) : w1.cell? ⟨t, 0, none⟩ = some (.int .u16 33024) ∧ w1.cell? ⟨t, 1, none⟩ = some (.int .u8 0) ∧ w1.cell? ⟨t, 2, none⟩ = some (.bool false) ∧ w1.cell? ⟨t, 3, none⟩ = some (.int .u16 n) ∧ w1.heap[t]? = some (Obj.cells #[.int .u16 33024, .int .u8 0, .bool false, .int .u16 n] 52 (0, 0)) ∧ Below w.heap.size w w1 :=
  ⟨info_cells h rfl, info_cells h rfl, info_cells h rfl, info_cells h rfl, h, hb⟩
theorem tS_below {t : Nat} {n : Int} {w w1 w2 : World} (h : w1.cell? ⟨t, 0, none⟩ = some (.int .u16 33024) ∧ w1.cell? ⟨t, 1, none⟩ = some (.int .u8 0) ∧ w1.cell? ⟨t, 2, none⟩ = some (.bool false) ∧ w1.cell? ⟨t, 3, none⟩ = some (.int .u16 n) ∧ w1.heap[t]? = some (Obj.cells #[.int .u16 33024, .int .u8 0, .bool false, .int .u16 n] 52 (0, 0)) ∧ Below w.heap.size w w1) (hb : Below w1.heap.size w1 w2) : w2.cell? ⟨t, 0, none⟩ = some (.int .u16 33024) ∧ w2.cell? ⟨t, 1, none⟩ = some (.int .u8 0) ∧ w2.cell? ⟨t, 2, none⟩ = some (.bool false) ∧ w2.cell? ⟨t, 3, none⟩ = some (.int .u16 n) ∧ w2.heap[t]? = some (Obj.cells #[.int .u16 33024, .int .u8 0, .bool false, .int .u16 n] 52 (0, 0)) ∧ Below w.heap.size w w2 :=
  tS_of ((hb.block _ (lt_of_block h.2.2.2.2.1)).trans h.2.2.2.2.1) (h.2.2.2.2.2.trans (hb.mono h.2.2.2.2.2.size))
theorem tS_two {t : Nat} {n : Int} {w w1 w2 : World} (h : w1.cell? ⟨t, 0, none⟩ = some (.int .u16 33024) ∧ w1.cell? ⟨t, 1, none⟩ = some (.int .u8 0) ∧ w1.cell? ⟨t, 2, none⟩ = some (.bool false) ∧ w1.cell? ⟨t, 3, none⟩ = some (.int .u16 n) ∧ w1.heap[t]? = some (Obj.cells #[.int .u16 33024, .int .u8 0, .bool false, .int .u16 n] 52 (0, 0)) ∧ Below w.heap.size w w1) (hb : Below w.heap.size w1 w2) (hk : Kept24 w1 w2) : w2.cell? ⟨t, 0, none⟩ = some (.int .u16 33024) ∧ w2.cell? ⟨t, 1, none⟩ = some (.int .u8 0) ∧ w2.cell? ⟨t, 2, none⟩ = some (.bool false) ∧ w2.cell? ⟨t, 3, none⟩ = some (.int .u16 n) ∧ w2.heap[t]? = some (Obj.cells #[.int .u16 33024, .int .u8 0, .bool false, .int .u16 n] 52 (0, 0)) ∧ Below w.heap.size w w2 :=
  tS_of (hk t _ 52 (by decide) (by decide) h.2.2.2.2.1) (h.2.2.2.2.2.trans hb)

theorem eqTag (n : Int) (w : World) : (Op.equalIn 10000 52 (tagV n) (tagV n)).run Tryd.prog w = .ok true w := by
  simp [tagV, go_sem]

set_option maxRecDepth 100000 in
set_option maxHeartbeats 1000000 in
theorem tbytes_one (b : Nat) (n : Int) (w : World) (hG : Gk w) (hT : Tg w b n) (h0 : 0 ≤ n) (h1 : n ≤ 4095) :
    Calls Tryd.prog 46 #[.slice (some ⟨b, 0, none⟩) 1 1] w fun e w' => ∃ v, e = .returned v ∧ Rd w' v [129, 0, n / 256, n % 256] ∧ Below w.heap.size w w' := by
  have HG := Lib.hid hG
  have HT := Lib.hid hT
  clear hG hT
  go_enter Tryd.func46, Tryd.ntmps46
  go_wp2_with (go_at_call 54; refine (plaid_any _).mono ?_; rintro e w1 ⟨g, rfl, h1, h2⟩)
  have HP := Lib.hid h1
  have HB := Lib.hid h2
  clear h1 h2
  go_loopw [9] (fun i wr => (i = .int .i64 0 ∧ wr = w1) ∨ (i = .int .i64 1 ∧ PadAt wr w.heap.size g [129, 0, n / 256, n % 256] ∧ Below w.heap.size w wr)) (fun i _ => 1 - (intOf i).toNat)
  case atStart => exact .inl ⟨rfl, rfl⟩
  case round =>
    rcases hrel with ⟨rfl, rfl⟩ | ⟨rfl, hpad, hbel⟩
    · obtain ⟨t0, t1, t2, t3⟩ := HT.out.below HB.out
      go_wp2_with fail
      have HT2 : Hid ((wr.alloc (.cells #[.int .u16 33024, .int .u8 0, .bool false, .int .u16 n] 52)).heap[wr.heap.size]? = some (.cells #[.int .u16 33024, .int .u8 0, .bool false, .int .u16 n] 52 (0, 0))) := heap_alloc_new _ _
      have HB2 : Hid (Below wr.heap.size wr (wr.alloc (.cells #[.int .u16 33024, .int .u8 0, .bool false, .int .u16 n] 52))) := (Below.refl _ _).alloc (Nat.le_refl _) _
      have HG2 : Hid (Gk (wr.alloc (.cells #[.int .u16 33024, .int .u8 0, .bool false, .int .u16 n] 52))) := (HG.out.below HB.out).below HB2.out
      have HPW : Hid (PadAt (wr.alloc (.cells #[.int .u16 33024, .int .u8 0, .bool false, .int .u16 n] 52)) w.heap.size g []) := HP.out.below HB2.out
      have ht := cell_new wr #[.int .u16 33024, .int .u8 0, .bool false, .int .u16 n] 52 0 (.int .u16 33024) rfl
      have hlt := lt_of_cell ht
      clear t0 t1 t2 t3
      generalize wr.alloc (.cells #[.int .u16 33024, .int .u8 0, .bool false, .int .u16 n] 52) = W at *
      have ht' : ∀ q : Regrown, (grow (redrawn W q.d) q.os).cell? ⟨wr.heap.size, 0, none⟩ = some (.int .u16 33024) := fun q => cell_regrown ht q.d q.os
      have he : ∀ w, (Op.equalIn 10000 52 (.agg #[.int .u16 33024, .int .u8 0, .bool false, .int .u16 n]) (.agg #[.int .u16 33024, .int .u8 0, .bool false, .int .u16 n])).run Tryd.prog w = .ok true w := fun w => eqTag n w
      clear ht
      refine wp_region_quiet_below (by kernel_rfl) (by kernel_rfl) ?_
      refine wpQuiet_step (fun K hK => ?_)
      rw [if_pos (by rfl)]
      refine quiet_load_row 52 (.tmp 5) rfl (wr.heap.size) rfl 52 #[.int .u16 33024, .int .u8 0, .bool false, .int .u16 n] (0, 0) _ (fun w' hw' => by obtain ⟨q, rfl⟩ := hw'; exact ((below_regrown W q.d q.os).block _ hlt).trans HT2.out) Tryd.underlying52 rfl (by kernel_rfl) (hK _ ?_)
      clear hK K
      go_frame
      quiet_step (exact Calls.regrown_of (tmay_any n _ (HG2.out.below (below_regrown W _ _)) h1))
      iterate 4 quiet_step (fail)
      refine wpQuiet_step (fun K hK => ?_)
      rw [if_pos (by rfl)]
      refine quiet_load_row 52 (.tmp 5) rfl (wr.heap.size) rfl 52 #[.int .u16 33024, .int .u8 0, .bool false, .int .u16 n] (0, 0) _ (fun w' hw' => by obtain ⟨q, rfl⟩ := hw'; exact ((below_regrown W q.d q.os).block _ hlt).trans HT2.out) Tryd.underlying52 rfl (by kernel_rfl) (hK _ ?_)
      clear hK K
      go_frame
      quiet_step (exact Calls.regrown_of (tword_any n _ h0 h1))
      quiet_step (exact Calls.regrown_of (tof_agg n _ h0 h1))
      refine wpQuiet_step (fun K hK => ?_)
      rw [if_pos (by rfl)]
      refine quiet_load_row 52 (.tmp 5) rfl (wr.heap.size) rfl 52 #[.int .u16 33024, .int .u8 0, .bool false, .int .u16 n] (0, 0) _ (fun w' hw' => by obtain ⟨q, rfl⟩ := hw'; exact ((below_regrown W q.d q.os).block _ hlt).trans HT2.out) Tryd.underlying52 rfl (by kernel_rfl) (hK _ ?_)
      clear hK K
      go_frame
      iterate 2 quiet_step (fail)
      refine wpQuiet_nil ?_
      rintro w3 ⟨q, rfl⟩
      have hS := tS_below (tS_of HT2.out (HB.out.trans (HB2.out.mono HB.out.size))) (below_regrown W q.d q.os)
      have HPV := Lib.hid (HPW.out.below (below_regrown W q.d q.os))
      clear he ht' hlt
      generalize wr.heap.size = t at *
      go_wp2_with fail
      generalize grow (redrawn W q.d) q.os = W3 at *
      obtain ⟨s0, s1, s2, s3, s4, s5⟩ := hS
      go_region_held3 (fun w' => w'.cell? ⟨t, 0, none⟩ = some (.int .u16 33024) ∧ w'.cell? ⟨t, 1, none⟩ = some (.int .u8 0) ∧ w'.cell? ⟨t, 2, none⟩ = some (.bool false) ∧ w'.cell? ⟨t, 3, none⟩ = some (.int .u16 n) ∧ w'.heap[t]? = some (Obj.cells #[.int .u16 33024, .int .u8 0, .bool false, .int .u16 n] 52 (0, 0)) ∧ Below w.heap.size w w') (first | exact tS_two (by assumption) (by assumption) (by assumption) | exact tS_below (by assumption) (by assumption) | exact tS_below (by assumption) ((Below.refl _ _).alloc (Nat.le_refl _) _) | exact tS_below ⟨s0, s1, s2, s3, s4, s5⟩ (bd (n := 1) (Below.refl _ _)) | go_keep)
        (first
          | (go_at_call 55; refine (tword_any n _ h0 h1).mono ?_; rintro e w' ⟨rfl, hb⟩)
          | (go_at_call 56; go_loud (refine (ptwo_any w.heap.size g _ 2 33024 n _ (Nat.le_trans s5.size (Nat.le_trans hb.size (RowKit.Below.alloc (RowKit.Below.refl _ _) (Nat.le_refl _) _).size)) (((HPV.out.below (bd (n := 1) (RowKit.Below.refl _ _))).below hb).below (RowKit.Below.alloc (RowKit.Below.refl _ _) (Nat.le_refl _) _)) (heap_alloc_new _ _) (by decide) (by decide) h0 (by omega)).mono ?_; rintro e w'' ⟨rfl, hp2, hb2, hk2⟩)))
      have HBF := Lib.hid (show w''.cell? ⟨t, 0, none⟩ = some (.int .u16 33024) ∧ w''.cell? ⟨t, 1, none⟩ = some (.int .u8 0) ∧ w''.cell? ⟨t, 2, none⟩ = some (.bool false) ∧ w''.cell? ⟨t, 3, none⟩ = some (.int .u16 n) ∧ w''.heap[t]? = some (Obj.cells #[.int .u16 33024, .int .u8 0, .bool false, .int .u16 n] 52 (0, 0)) ∧ RowKit.Below w.heap.size w w'' by assumption).2.2.2.2.2
      have HPF : Hid (PadAt w'' w.heap.size g [129, 0, n / 256, n % 256]) := hp2
      clear hb2 hk2 hp2 hb
      go_wp2_with fail
      exact ⟨.inr ⟨rfl, HPF.out, HBF.out⟩, by simp [intOf]⟩
    · have HPD := Lib.hid hpad
      have HBL := Lib.hid hbel
      clear hpad hbel
      go_wp2_with (go_at_call 57; refine (pdone_any _ _ _ _ HPD.out (by simp)).mono ?_; rintro e w2 ⟨v, rfl, h1, h2⟩)
      go_ret
      exact ⟨v, rfl, h1, HBL.out.trans (h2.mono HBL.out.size)⟩
end Go.Proofs.YtcahlponmbnkcaaDoor
