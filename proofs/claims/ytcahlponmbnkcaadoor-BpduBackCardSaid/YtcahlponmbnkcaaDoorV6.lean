/- ether: a frame of LLC is laid. -/
import Derived.Test.YtcahlponmbnkcaaDoorV5
namespace Go.Proofs.YtcahlponmbnkcaaDoor
open Go Go.RowKit Go.Sort

theorem parts4 {w : World} {t : Nat} {v0 v1 v2 v3 : Value} {y0 y1 y2 y3 : List Int} (h0 : Rd w v0 y0) (h1 : Rd w v1 y1) (h2 : Rd w v2 y2) (h3 : Rd w v3 y3) :
    Parts (w.alloc (.cells #[v0, v1, v2, v3] t)) w.heap.size [v0, v1, v2, v3] [y0, y1, y2, y3] := by
  have hb : RowKit.Below w.heap.size w (w.alloc (.cells #[v0, v1, v2, v3] t)) := RowKit.Below.alloc (RowKit.Below.refl _ _) (Nat.le_refl _) _
  refine ⟨rfl, fun j hj => ?_, fun j hj => ?_⟩
  · match j, hj with
    | 0, _ => exact cell_new _ _ _ 0 _ rfl
    | 1, _ => exact cell_new _ _ _ 1 _ rfl
    | 2, _ => exact cell_new _ _ _ 2 _ rfl
    | 3, _ => exact cell_new _ _ _ 3 _ rfl
  · match j, hj with
    | 0, _ => exact h0.below hb
    | 1, _ => exact h1.below hb
    | 2, _ => exact h2.below hb
    | 3, _ => exact h3.below hb

theorem parts3 {w : World} {t : Nat} {v0 v1 v2 : Value} {y0 y1 y2 : List Int} (h0 : Rd w v0 y0) (h1 : Rd w v1 y1) (h2 : Rd w v2 y2) :
    Parts (w.alloc (.cells #[v0, v1, v2] t)) w.heap.size [v0, v1, v2] [y0, y1, y2] := by
  have hb : RowKit.Below w.heap.size w (w.alloc (.cells #[v0, v1, v2] t)) := RowKit.Below.alloc (RowKit.Below.refl _ _) (Nat.le_refl _) _
  refine ⟨rfl, fun j hj => ?_, fun j hj => ?_⟩
  · match j, hj with
    | 0, _ => exact cell_new _ _ _ 0 _ rfl
    | 1, _ => exact cell_new _ _ _ 1 _ rfl
    | 2, _ => exact cell_new _ _ _ 2 _ rfl
  · match j, hj with
    | 0, _ => exact h0.below hb
    | 1, _ => exact h1.below hb
    | 2, _ => exact h2.below hb

/-- A row of bytes that was laid just now. -/
theorem rd_row {w : World} {g n t : Nat} {bs : List Int} (h : w.heap[g]? = some (.cells (bs.map (Value.int .u8)).toArray t (0, 0))) (hn : n = bs.length) (hm : n ≤ maxLen) : Rd w (.slice (some ⟨g, 0, none⟩) n n) bs := by
  subst hn
  refine .inr ⟨g, 0, bs.length, rfl, Nat.le_refl _, hm, fun j u hu => ?_⟩
  rw [Nat.zero_add]
  exact info_cells h (by simpa using hu)

theorem Bytes.lower {B B' : Nat} {w : World} {v : Value} {bs : List Int} (h : Bytes B w v bs) (hb : B' ≤ B) : Bytes B' w v bs := by
  rcases h.2 with ⟨rfl, h0⟩ | ⟨b, cap, cur, rfl, hB, hh, hn, hc, hs, ht⟩
  · exact ⟨h.1, .inl ⟨rfl, h0⟩⟩
  · exact ⟨h.1, .inr ⟨b, cap, cur, rfl, Nat.le_trans hb hB, hh, hn, hc, hs, ht⟩⟩

theorem wS_below {w w1 w2 : World} {v0 v1 v3 : Value} {y0 y1 y3 : List Int} (h : Rd w1 v0 y0 ∧ Rd w1 v1 y1 ∧ Rd w1 v3 y3 ∧ RowKit.Below w.heap.size w w1) (hb : RowKit.Below w1.heap.size w1 w2) : Rd w2 v0 y0 ∧ Rd w2 v1 y1 ∧ Rd w2 v3 y3 ∧ RowKit.Below w.heap.size w w2 :=
  ⟨h.1.below hb, h.2.1.below hb, h.2.2.1.below hb, h.2.2.2.trans (hb.mono h.2.2.2.size)⟩

set_option maxRecDepth 100000 in
set_option maxHeartbeats 2000000 in
theorem with_any (d0 d1 d2 d3 d4 d5 s0 s1 s2 s3 s4 s5 : Int) (tags behind : Value) (tb bs : List Int) (w : World) (hb : Rd w behind bs) (hl : bs.length ≤ 2000) (htl : tb.length ≤ 100)
    (ht : ∀ W, RowKit.Below w.heap.size w W → Calls Tryd.prog 46 #[tags] W fun e w' => ∃ v, e = .returned v ∧ Rd w' v tb ∧ RowKit.Below W.heap.size W w') :
    Calls Tryd.prog 33 #[.agg #[.int .u8 d0, .int .u8 d1, .int .u8 d2, .int .u8 d3, .int .u8 d4, .int .u8 d5], .agg #[.int .u8 s0, .int .u8 s1, .int .u8 s2, .int .u8 s3, .int .u8 s4, .int .u8 s5], tags, behind] w
      fun e w' => ∃ v, e = .returned v ∧ Bytes w.heap.size w' v ([d0, d1, d2, d3, d4, d5] ++ ([s0, s1, s2, s3, s4, s5] ++ (tb ++ bs))) ∧ RowKit.Below w.heap.size w w' := by
  have HT := Lib.hid ht
  obtain ⟨ab, cb, rfl⟩ := hb.form
  have HB := Lib.hid hb
  clear ht hb
  go_enter Tryd.func33, Tryd.ntmps33
  go_wp2_with fail
  have hA1 : RowKit.Below w.heap.size w (w.alloc (.cells #[.int .u8 d0, .int .u8 d1, .int .u8 d2, .int .u8 d3, .int .u8 d4, .int .u8 d5] 28)) := RowKit.Below.alloc (RowKit.Below.refl _ _) (Nat.le_refl _) _
  have hsz : (w.alloc (.cells #[.int .u8 d0, .int .u8 d1, .int .u8 d2, .int .u8 d3, .int .u8 d4, .int .u8 d5] 28)).heap.size = w.heap.size + 1 := by simp
  have hA2 : RowKit.Below (w.alloc (.cells #[.int .u8 d0, .int .u8 d1, .int .u8 d2, .int .u8 d3, .int .u8 d4, .int .u8 d5] 28)).heap.size (w.alloc (.cells #[.int .u8 d0, .int .u8 d1, .int .u8 d2, .int .u8 d3, .int .u8 d4, .int .u8 d5] 28)) ((w.alloc (.cells #[.int .u8 d0, .int .u8 d1, .int .u8 d2, .int .u8 d3, .int .u8 d4, .int .u8 d5] 28)).alloc (.cells #[.int .u8 s0, .int .u8 s1, .int .u8 s2, .int .u8 s3, .int .u8 s4, .int .u8 s5] 28)) := RowKit.Below.alloc (RowKit.Below.refl _ _) (Nat.le_refl _) _
  have hR0 : Rd (w.alloc (.cells #[.int .u8 d0, .int .u8 d1, .int .u8 d2, .int .u8 d3, .int .u8 d4, .int .u8 d5] 28)) (.slice (some ⟨w.heap.size, 0, none⟩) 6 6) [d0, d1, d2, d3, d4, d5] := rd_row (bs := [d0, d1, d2, d3, d4, d5]) (heap_alloc_new _ _) rfl (by decide)
  have hR1 : Rd ((w.alloc (.cells #[.int .u8 d0, .int .u8 d1, .int .u8 d2, .int .u8 d3, .int .u8 d4, .int .u8 d5] 28)).alloc (.cells #[.int .u8 s0, .int .u8 s1, .int .u8 s2, .int .u8 s3, .int .u8 s4, .int .u8 s5] 28)) (.slice (some ⟨w.heap.size + 1, 0, none⟩) 6 6) [s0, s1, s2, s3, s4, s5] := hsz ▸ rd_row (bs := [s0, s1, s2, s3, s4, s5]) (heap_alloc_new _ _) rfl (by decide)
  have hS : Rd ((w.alloc (.cells #[.int .u8 d0, .int .u8 d1, .int .u8 d2, .int .u8 d3, .int .u8 d4, .int .u8 d5] 28)).alloc (.cells #[.int .u8 s0, .int .u8 s1, .int .u8 s2, .int .u8 s3, .int .u8 s4, .int .u8 s5] 28)) (.slice (some ⟨w.heap.size, 0, none⟩) 6 6) [d0, d1, d2, d3, d4, d5] ∧ Rd ((w.alloc (.cells #[.int .u8 d0, .int .u8 d1, .int .u8 d2, .int .u8 d3, .int .u8 d4, .int .u8 d5] 28)).alloc (.cells #[.int .u8 s0, .int .u8 s1, .int .u8 s2, .int .u8 s3, .int .u8 s4, .int .u8 s5] 28)) (.slice (some ⟨w.heap.size + 1, 0, none⟩) 6 6) [s0, s1, s2, s3, s4, s5] ∧ Rd ((w.alloc (.cells #[.int .u8 d0, .int .u8 d1, .int .u8 d2, .int .u8 d3, .int .u8 d4, .int .u8 d5] 28)).alloc (.cells #[.int .u8 s0, .int .u8 s1, .int .u8 s2, .int .u8 s3, .int .u8 s4, .int .u8 s5] 28)) (.slice ab bs.length cb) bs ∧ RowKit.Below w.heap.size w ((w.alloc (.cells #[.int .u8 d0, .int .u8 d1, .int .u8 d2, .int .u8 d3, .int .u8 d4, .int .u8 d5] 28)).alloc (.cells #[.int .u8 s0, .int .u8 s1, .int .u8 s2, .int .u8 s3, .int .u8 s4, .int .u8 s5] 28)) := ⟨hR0.below hA2, hR1, (HB.out.below hA1).below hA2, hA1.trans (hA2.mono (by omega))⟩
  clear hA1 hA2 hR0 hR1 hsz
  generalize ((w.alloc (.cells #[.int .u8 d0, .int .u8 d1, .int .u8 d2, .int .u8 d3, .int .u8 d4, .int .u8 d5] 28)).alloc (.cells #[.int .u8 s0, .int .u8 s1, .int .u8 s2, .int .u8 s3, .int .u8 s4, .int .u8 s5] 28)) = W at *
  obtain ⟨r0, r1, r3, rb⟩ := hS
  go_region_held3 (fun w' => Rd w' (.slice (some ⟨w.heap.size, 0, none⟩) 6 6) [d0, d1, d2, d3, d4, d5] ∧ Rd w' (.slice (some ⟨w.heap.size + 1, 0, none⟩) 6 6) [s0, s1, s2, s3, s4, s5] ∧ Rd w' (.slice ab bs.length cb) bs ∧ RowKit.Below w.heap.size w w') (first
      | exact wS_below (by assumption) (by assumption)
      | exact wS_below (by assumption) (RowKit.Below.alloc (RowKit.Below.refl _ _) (Nat.le_refl _) _)
      | exact wS_below ⟨r0, r1, r3, rb⟩ (bd (n := 1) (RowKit.Below.refl _ _))
      | go_keep)
    (first
      | (go_at_call 46; refine (HT.out _ (bd (n := 1) rb)).mono ?_; rintro e w' ⟨v, rfl, hv, hb⟩; obtain ⟨a0, c0, rfl⟩ := hv.form)
      | (go_at_call 32; go_loud (refine (concat_any _ _ [[d0, d1, d2, d3, d4, d5], [s0, s1, s2, s3, s4, s5], tb, bs] _ 4 rfl (parts4 (Rd.below (Rd.below r0 (bd (n := 1) (RowKit.Below.refl _ _))) hb) (Rd.below (Rd.below r1 (bd (n := 1) (RowKit.Below.refl _ _))) hb) hv (Rd.below (Rd.below r3 (bd (n := 1) (RowKit.Below.refl _ _))) hb)) (by simp [lens]; omega) (by decide)).mono ?_; rintro e w'' ⟨v', rfl, hv', hb'⟩)))
  have HV := Lib.hid (Bytes.lower (B' := w.heap.size) hv' (by have := (show RowKit.Below w.heap.size w w' by exact (rb.trans ((bd (n := 1) (RowKit.Below.refl _ _)).mono rb.size)).trans (hb.mono rb.size)).size; simp; omega))
  have HBF := Lib.hid (show Rd w'' (.slice (some ⟨w.heap.size, 0, none⟩) 6 6) [d0, d1, d2, d3, d4, d5] ∧ Rd w'' (.slice (some ⟨w.heap.size + 1, 0, none⟩) 6 6) [s0, s1, s2, s3, s4, s5] ∧ Rd w'' (.slice ab bs.length cb) bs ∧ RowKit.Below w.heap.size w w'' by assumption).2.2.2
  clear hv' hb' hb hv
  go_wp2_with fail
  go_ret
  exact ⟨v', rfl, by simpa using HV.out, HBF.out⟩

theorem pS_below {w w1 w2 : World} {g k : Nat} {u v : Value} {o : Obj} {y : List Int} (h : w1.cell? ⟨g, k, none⟩ = some u ∧ Rd w1 v y ∧ w1.heap[g]? = some o ∧ RowKit.Below w.heap.size w w1) (hb : RowKit.Below w1.heap.size w1 w2) : w2.cell? ⟨g, k, none⟩ = some u ∧ Rd w2 v y ∧ w2.heap[g]? = some o ∧ RowKit.Below w.heap.size w w2 :=
  ⟨Below.cell_some hb h.1, h.2.1.below hb, (hb.block _ (lt_of_block h.2.2.1)).trans h.2.2.1, h.2.2.2.trans (hb.mono h.2.2.2.size)⟩

set_option maxRecDepth 100000 in
set_option maxHeartbeats 2000000 in
theorem eput_any (d0 d1 d2 d3 d4 d5 s0 s1 s2 s3 s4 s5 l0 l1 l2 : Int) (ta : Option Addr) (tn tc : Nat) (body : Value) (tb bs : List Int) (w : World) (hG : Gk w) (hr : Rd w body bs) (hl : bs.length ≤ 1000) (hs : [l0, l1, l2] ≠ [170, 170, 3]) (htl : tb.length ≤ 100)
    (hm : ∀ W, RowKit.Below w.heap.size w W → Calls Tryd.prog 28 #[.slice ta tn tc] W fun e w' => e = .returned (.bool true) ∧ RowKit.Below W.heap.size W w')
    (ht : ∀ W, RowKit.Below w.heap.size w W → Calls Tryd.prog 46 #[.slice ta tn tc] W fun e w' => ∃ v, e = .returned v ∧ Rd w' v tb ∧ RowKit.Below W.heap.size W w') :
    Calls Tryd.prog 16 #[.agg (llcF d0 d1 d2 d3 d4 d5 s0 s1 s2 s3 s4 s5 (.slice ta tn tc) l0 l1 l2 body)] w fun e w' => ∃ v, e = .returned (.tuple #[v, .int .i64 0]) ∧
      Rd w' v ([d0, d1, d2, d3, d4, d5] ++ ([s0, s1, s2, s3, s4, s5] ++ (tb ++ ([(bs.length + 3 : Int) / 256, (bs.length + 3 : Int) % 256] ++ ([l0, l1, l2] ++ bs))))) ∧ RowKit.Below w.heap.size w w' := by
  have HT := Lib.hid ht
  have HM := Lib.hid hm
  obtain ⟨ab, cb, rfl⟩ := hr.form
  have HR := Lib.hid hr
  have HG := Lib.hid hG
  clear ht hm hr hG
  have HF := Lib.hid (heap_alloc_new w (.cells (llcF d0 d1 d2 d3 d4 d5 s0 s1 s2 s3 s4 s5 (.slice ta tn tc) l0 l1 l2 (.slice ab bs.length cb)) 33))
  have HB : Hid (RowKit.Below w.heap.size w (w.alloc (.cells (llcF d0 d1 d2 d3 d4 d5 s0 s1 s2 s3 s4 s5 (.slice ta tn tc) l0 l1 l2 (.slice ab bs.length cb)) 33))) := (RowKit.Below.refl _ _).alloc (Nat.le_refl _) _
  go_enter Tryd.func16, Tryd.ntmps16
  go_wp2_with (first
    | ((with_reducible show wpList _ _ _ (Oper.mk _ (.load 33 _) _ _ _ _ :: _) _ _); go_loud (refine wpList_load_rowG rfl 33 (.tmp 1) rfl w.heap.size rfl 33 (llcF d0 d1 d2 d3 d4 d5 s0 s1 s2 s3 s4 s5 (.slice ta tn tc) l0 l1 l2 (.slice ab bs.length cb)) (0, 0) _ (by first | exact HF2.out | exact HF1.out | exact HF.out) Tryd.underlying33 rfl (by kernel_rfl) ?_); go_frame)
    | (go_at_call 28; refine (HM.out _ HB.out).mono ?_; rintro e w1 ⟨rfl, hb1⟩; have HB1 := Lib.hid (HB.out.trans (hb1.mono HB.out.size)); have HF1 := Lib.hid ((hb1.block _ (lt_of_block HF.out)).trans HF.out); clear hb1)
    | (go_at_call 29; refine (fmay_any d0 d1 d2 d3 d4 d5 s0 s1 s2 s3 s4 s5 l0 l1 l2 (.slice ta tn tc) (.slice ab bs.length cb) bs _ (HG.out.below HB1.out) (HR.out.below HB1.out) hl hs).mono ?_; rintro e w2 ⟨rfl, hb2⟩; have HB2 := Lib.hid (HB1.out.trans (hb2.mono HB1.out.size)); have HF2 := Lib.hid ((hb2.block _ (lt_of_block HF1.out)).trans HF1.out); have hk2 := info_cells (k := 13) (u := .int .i64 2) HF2.out rfl; clear hb2)
    | (go_at_call 31; refine (counted_any d0 d1 d2 d3 d4 d5 s0 s1 s2 s3 s4 s5 l0 l1 l2 (.slice ta tn tc) (.slice ab bs.length cb) bs _ (HR.out.below HB2.out) hl).mono ?_; rintro e w3 ⟨v3, rfl, hv3, hb3⟩; obtain ⟨a3, c3, rfl⟩ := hv3.form; have HB3 := Lib.hid (HB2.out.trans (hb3.mono HB2.out.size)); have HF3 := Lib.hid ((hb3.block _ (lt_of_block HF2.out)).trans HF2.out); have HV3 := Lib.hid hv3; have hk3 := info_cells (k := 22) (u := .slice none 0 0) HF3.out rfl; clear hb3 hv3 hk2))
  have hS : w3.cell? ⟨w.heap.size, 22, none⟩ = some (.slice none 0 0) ∧ Rd w3 (.slice a3 (bs.length + 1 + 1 + 1) c3) (l0 :: l1 :: l2 :: bs) ∧ w3.heap[w.heap.size]? = some (Obj.cells (llcF d0 d1 d2 d3 d4 d5 s0 s1 s2 s3 s4 s5 (.slice ta tn tc) l0 l1 l2 (.slice ab bs.length cb)) 33 (0, 0)) ∧ RowKit.Below w.heap.size w w3 := ⟨hk3, HV3.out, HF3.out, HB3.out⟩
  clear hk3
  obtain ⟨r0, r1, r2, rb⟩ := hS
  go_region_held3 (fun w' => w'.cell? ⟨w.heap.size, 22, none⟩ = some (.slice none 0 0) ∧ Rd w' (.slice a3 (bs.length + 1 + 1 + 1) c3) (l0 :: l1 :: l2 :: bs) ∧ w'.heap[w.heap.size]? = some (Obj.cells (llcF d0 d1 d2 d3 d4 d5 s0 s1 s2 s3 s4 s5 (.slice ta tn tc) l0 l1 l2 (.slice ab bs.length cb)) 33 (0, 0)) ∧ RowKit.Below w.heap.size w w') (first
      | exact pS_below (by assumption) (by assumption)
      | exact pS_below (by assumption) (RowKit.Below.alloc (RowKit.Below.refl _ _) (Nat.le_refl _) _)
      | exact pS_below ⟨r0, r1, r2, rb⟩ (bd (n := 1) (RowKit.Below.refl _ _))
      | go_keep)
    (first
      | (go_at_call 30; go_loud (refine (words_any _ _ (by omega) (by omega)).mono ?_; rintro e w4 ⟨v4, rfl, hv4, hb4⟩; obtain ⟨a4, c4, rfl⟩ := hv4.form))
      | (go_at_call 32; go_loud (refine (concat_any _ _ [_, l0 :: l1 :: l2 :: bs, []] _ 3 rfl (parts3 hv4 (Rd.below (Rd.below r1 (bd (n := 1) (RowKit.Below.refl _ _))) hb4) (Rd.nil _)) (by simp [lens]; omega) (by decide)).mono ?_; rintro e w5 ⟨v5, rfl, hv5, hb5⟩)))
  have hS5 := (show w5.cell? ⟨w.heap.size, 22, none⟩ = some (.slice none 0 0) ∧ Rd w5 (.slice a3 (bs.length + 1 + 1 + 1) c3) (l0 :: l1 :: l2 :: bs) ∧ w5.heap[w.heap.size]? = some (Obj.cells (llcF d0 d1 d2 d3 d4 d5 s0 s1 s2 s3 s4 s5 (.slice ta tn tc) l0 l1 l2 (.slice ab bs.length cb)) 33 (0, 0)) ∧ RowKit.Below w.heap.size w w5 by assumption)
  have HF5 := Lib.hid hS5.2.2.1
  have HB5 := Lib.hid hS5.2.2.2
  have HV5 : Hid (Rd w5 v5 ([(bs.length + 3 : Int) / 256, (bs.length + 3 : Int) % 256] ++ ([l0, l1, l2] ++ bs))) := by
    have h := hv5.rd
    rw [show ((bs.length : Int) + 1 + 1 + 1) = bs.length + 3 by omega] at h
    have h2 : Rd w5 v5 ([(bs.length + 3 : Int) / 256, (bs.length + 3 : Int) % 256] ++ ([l0, l1, l2] ++ bs)) := by simpa using h
    exact Lib.hid h2
  clear hS5 hv5 hb5 hb4 hv4 r0 r1 r2 rb
  clear HF HF1 HF2 HF3 HB HB1 HB2 HB3 HV3
  have hxl : ([(bs.length + 3 : Int) / 256, (bs.length + 3 : Int) % 256] ++ ([l0, l1, l2] ++ bs)).length ≤ 1005 := by simp; omega
  generalize hX : [(bs.length + 3 : Int) / 256, (bs.length + 3 : Int) % 256] ++ ([l0, l1, l2] ++ bs) = X at *
  have HX := Lib.hid hX
  clear hX
  obtain ⟨a5, c5, rfl⟩ := HV5.out.form
  have hxi : (X.length : Int) ≤ 1005 := by omega
  have hti : (tb.length : Int) ≤ 100 := by omega
  have hc0 := info_cells (k := 0) (u := .int .u8 d0) HF5.out rfl
  have hc1 := info_cells (k := 1) (u := .int .u8 d1) HF5.out rfl
  have hc2 := info_cells (k := 2) (u := .int .u8 d2) HF5.out rfl
  have hc3 := info_cells (k := 3) (u := .int .u8 d3) HF5.out rfl
  have hc4 := info_cells (k := 4) (u := .int .u8 d4) HF5.out rfl
  have hc5 := info_cells (k := 5) (u := .int .u8 d5) HF5.out rfl
  have hc6 := info_cells (k := 6) (u := .int .u8 s0) HF5.out rfl
  have hc7 := info_cells (k := 7) (u := .int .u8 s1) HF5.out rfl
  have hc8 := info_cells (k := 8) (u := .int .u8 s2) HF5.out rfl
  have hc9 := info_cells (k := 9) (u := .int .u8 s3) HF5.out rfl
  have hc10 := info_cells (k := 10) (u := .int .u8 s4) HF5.out rfl
  have hc11 := info_cells (k := 11) (u := .int .u8 s5) HF5.out rfl
  have hc12 := info_cells (k := 12) (u := .slice ta tn tc) HF5.out rfl
  go_wp2_with (go_at_call 33; go_loud (refine (with_any d0 d1 d2 d3 d4 d5 s0 s1 s2 s3 s4 s5 (.slice ta tn tc) (.slice a5 X.length c5) tb X _ HV5.out (by omega) htl (fun W hW => HT.out W (HB5.out.trans (hW.mono HB5.out.size)))).mono ?_; rintro e w6 ⟨v6, rfl, hv6, hb6⟩; generalize hY : [d0, d1, d2, d3, d4, d5] ++ ([s0, s1, s2, s3, s4, s5] ++ (tb ++ X)) = Y at hv6; have hyi : (Y.length : Int) ≤ 1522 := (by rw [← hY]; simp; omega); have HY := Lib.hid hY; clear hY; obtain ⟨a6, c6, rfl⟩ := hv6.rd.form; have HV6 := Lib.hid hv6.rd; have HB6 := Lib.hid (HB5.out.trans (hb6.mono HB5.out.size)); clear hv6 hb6 hc0 hc1 hc2 hc3 hc4 hc5 hc6 hc7 hc8 hc9 hc10 hc11 hc12 hxi hti hxl hl htl))
  go_ret2
  have e : d0 :: d1 :: d2 :: d3 :: d4 :: d5 :: s0 :: s1 :: s2 :: s3 :: s4 :: s5 :: (tb ++ (bs.length + 3 : Int) / 256 :: (bs.length + 3 : Int) % 256 :: l0 :: l1 :: l2 :: bs) = Y := by
    rw [← HY.out, ← HX.out]; rfl
  exact ⟨_, rfl, by rw [e]; exact HV6.out, HB6.out⟩
end Go.Proofs.YtcahlponmbnkcaaDoor
