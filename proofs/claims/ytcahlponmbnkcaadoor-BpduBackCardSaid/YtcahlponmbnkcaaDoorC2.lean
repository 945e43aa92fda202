/- BPDU: the document's Put. -/
import Derived.Test.YtcahlponmbnkcaaDoorC1
namespace Go.Proofs.YtcahlponmbnkcaaDoor
open Go Go.RowKit

theorem heap_new_at (w : World) (o : Obj) {n : Nat} (h : n = w.heap.size) : (w.alloc o).heap[n]? = some o := by subst h; exact heap_alloc_new w o

set_option maxRecDepth 100000 in
set_option maxHeartbeats 2000000 in
theorem refPut_no (k f r b c p a x h d : Int) (w : World) (hm : mayB k f r b c p a x h d = false) :
    Calls Tryd.prog 7 #[msgV k f r b c p a x h d] w fun e w' => e = .returned (.tuple #[.slice none 0 0, .int .i64 1]) ∧ Below w.heap.size w w' := by
  by_cases hk : k = 2
  · subst hk
    have HM : Hid (¬ (f = 0 ∧ r = 0 ∧ b = 0 ∧ c = 0 ∧ p = 0 ∧ a = 0 ∧ x = 0 ∧ h = 0 ∧ d = 0)) := by
      show ¬ _
      simpa [mayB] using hm
    clear hm
    go_enter Tryd.func7, Tryd.ntmps7
    go_wp2_with fail
    all_goals first
      | (go_ret2; exact ⟨rfl, (Below.refl _ _).alloc (Nat.le_refl _) _⟩)
      | (exfalso; have hM := HM.out; clear HM; simp_all)
  · have hk' : (k == 2) = false := by simpa using hk
    have HM : Hid (¬ ((k = 1 ∨ k = 3) ∧ a < x)) := by
      show ¬ _
      simp only [mayB, if_neg hk] at hm
      simpa using hm
    clear hm hk
    go_enter Tryd.func7, Tryd.ntmps7
    go_wp2_with fail
    all_goals first
      | (go_ret2; exact ⟨rfl, (Below.refl _ _).alloc (Nat.le_refl _) _⟩)
      | (exfalso; have hM := HM.out; clear HM; simp_all)

set_option maxRecDepth 100000 in
set_option maxHeartbeats 2000000 in
theorem refPut_2 (f r b c p a x h d : Int) (w : World) (hm : mayB 2 f r b c p a x h d = true) :
    Calls Tryd.prog 7 #[msgV 2 f r b c p a x h d] w fun e w' => ∃ v, e = .returned (.tuple #[v, .int .i64 0]) ∧ Bytes w.heap.size w' v (putL 2 f r b c p a x h d) ∧ Below w.heap.size w w' := by
  obtain ⟨rfl, rfl, rfl, rfl, rfl, rfl, rfl, rfl, rfl⟩ : f = 0 ∧ r = 0 ∧ b = 0 ∧ c = 0 ∧ p = 0 ∧ a = 0 ∧ x = 0 ∧ h = 0 ∧ d = 0 := by simpa [mayB] using hm
  clear hm
  go_enter Tryd.func7, Tryd.ntmps7
  go_wp2_with fail
  go_ret2
  refine ⟨_, rfl, ?_, ((Below.refl _ _).alloc (Nat.le_refl _) _).alloc (by simp) _⟩
  unfold Bytes
  rw [show putL 2 0 0 0 0 0 0 0 0 0 = [0, 0, 0, 128] from by simp [putL, hd]]
  exact ⟨rfl, .inr ⟨w.heap.size + 1, 4, #[.int .u8 0, .int .u8 0, .int .u8 0, .int .u8 128], rfl, by simp, heap_new_at _ _ (by simp), Nat.le_refl _, by decide, rfl, rfl⟩⟩

/-- The document's laying, beside a message in a block of its own. -/
theorem refLay_box (k f r b c p a x h d : Int) (M : Nat) (n : Int) (many : Nat) (bs : List Int) (v : Value) (w : World) (hn : 0 ≤ n) (hn2 : n < 18446744073709551616) (hm : many ≤ 8) (hm0 : 0 < many) (hbs : bs.length ≤ 1000) (hl : Bytes (M + 1) w v bs)
    (hbx : w.heap[M]? = some (.cells #[.int .i64 k, .int .u8 f, .int .u64 r, .int .u64 b, .int .u32 c, .int .u16 p, .int .u16 a, .int .u16 x, .int .u16 h, .int .u16 d] 39 (0, 0))) :
    Calls Tryd.prog 23 #[v, .int .u64 n, .int .i64 many] w fun e w' => ∃ v', e = .returned v' ∧ Hid (Bytes (M + 1) w' v' (bs ++ beI n many)) ∧ Hid (Below (M + 1) w w') ∧
      Hid (w'.heap[M]? = some (.cells #[.int .i64 k, .int .u8 f, .int .u64 r, .int .u64 b, .int .u32 c, .int .u16 p, .int .u16 a, .int .u16 x, .int .u16 h, .int .u16 d] 39 (0, 0))) ∧
      w'.cell? ⟨M, 0, none⟩ = some (.int .i64 k) ∧ w'.cell? ⟨M, 2, none⟩ = some (.int .u64 r) ∧ w'.cell? ⟨M, 3, none⟩ = some (.int .u64 b) ∧ w'.cell? ⟨M, 4, none⟩ = some (.int .u32 c) ∧ w'.cell? ⟨M, 5, none⟩ = some (.int .u16 p) ∧
      w'.cell? ⟨M, 6, none⟩ = some (.int .u16 a) ∧ w'.cell? ⟨M, 7, none⟩ = some (.int .u16 x) ∧ w'.cell? ⟨M, 8, none⟩ = some (.int .u16 h) ∧ w'.cell? ⟨M, 9, none⟩ = some (.int .u16 d) :=
  (refLay_any n many (M + 1) bs v w hn hn2 hm hm0 hbs (lt_of_block hbx) hl).mono fun _ _ ⟨v', he, h1, h2⟩ => by
    have hb := (h2.block M (Nat.lt_succ_self M)).trans hbx
    refine ⟨v', he, h1, h2, hb, ?_, ?_, ?_, ?_, ?_, ?_, ?_, ?_, ?_⟩ <;> (rw [cell_of_row _ _ _ _ _ _ hb]; rfl)

theorem beI_one (f : Int) (h0 : 0 ≤ f) (h1 : f < 256) : beI f 1 = [f] := by
  simp [beI]; omega

set_option maxRecDepth 100000 in
set_option maxHeartbeats 4000000 in
theorem refPut_1 (f r b c p a x h d : Int) (w : World) (hf0 : 0 ≤ f) (hf1 : f < 256) (hr0 : 0 ≤ r) (hb0 : 0 ≤ b) (hc0 : 0 ≤ c) (hp0 : 0 ≤ p) (ha0 : 0 ≤ a) (hx0 : 0 ≤ x) (hh0 : 0 ≤ h) (hd0 : 0 ≤ d)
    (HR2 : Hid (r < 18446744073709551616)) (HB2 : Hid (b < 18446744073709551616)) (HC2 : Hid (c < 18446744073709551616)) (HP2 : Hid (p < 18446744073709551616)) (HA2 : Hid (a < 18446744073709551616)) (HX2 : Hid (x < 18446744073709551616)) (HH2 : Hid (h < 18446744073709551616)) (HD2 : Hid (d < 18446744073709551616))
    (wc : IntKind.u64.wrap c = c) (wp : IntKind.u64.wrap p = p) (wa : IntKind.u64.wrap a = a) (wx : IntKind.u64.wrap x = x) (wh : IntKind.u64.wrap h = h) (wd : IntKind.u64.wrap d = d) (hm : mayB 1 f r b c p a x h d = true) :
    Calls Tryd.prog 7 #[msgV 1 f r b c p a x h d] w fun e w' => ∃ v, e = .returned (.tuple #[v, .int .i64 0]) ∧ Bytes w.heap.size w' v (putL 1 f r b c p a x h d) ∧ Below w.heap.size w w' := by
  have hax : a < x := by simpa [mayB] using hm
  clear hm
  have HF : Hid (beI f 1 = [f]) := beI_one f hf0 hf1
  go_enter Tryd.func7, Tryd.ntmps7
  go_wp2_with fail
  have HB0 : Hid (Bytes (w.heap.size + 1) ((w.alloc (.cells #[.int .i64 1, .int .u8 f, .int .u64 r, .int .u64 b, .int .u32 c, .int .u16 p, .int .u16 a, .int .u16 x, .int .u16 h, .int .u16 d] 39)).alloc (.cells #[.int .u8 0, .int .u8 0, .int .u8 0, .int .u8 0, .int .u8 f] 5)) (.slice (some ⟨w.heap.size + 1, 0, none⟩) 5 5) (hd 1 ++ beI f 1)) := by
    show Bytes _ _ _ _
    rw [HF.out]
    rw [show hd 1 ++ [f] = [0, 0, 0, 0, f] from by simp [hd]]
    exact ⟨rfl, .inr ⟨w.heap.size + 1, 5, #[.int .u8 0, .int .u8 0, .int .u8 0, .int .u8 0, .int .u8 f], rfl, Nat.le_refl _, heap_new_at _ _ (by simp), Nat.le_refl _, by decide, rfl, rfl⟩⟩
  have HX0 : Hid (((w.alloc (.cells #[.int .i64 1, .int .u8 f, .int .u64 r, .int .u64 b, .int .u32 c, .int .u16 p, .int .u16 a, .int .u16 x, .int .u16 h, .int .u16 d] 39)).alloc (.cells #[.int .u8 0, .int .u8 0, .int .u8 0, .int .u8 0, .int .u8 f] 5)).heap[w.heap.size]? = some (.cells #[.int .i64 1, .int .u8 f, .int .u64 r, .int .u64 b, .int .u32 c, .int .u16 p, .int .u16 a, .int .u16 x, .int .u16 h, .int .u16 d] 39 (0, 0))) :=
    (Below.heap_alloc _ _ _ (by simp)).trans (heap_alloc_new _ _)
  have HW0 : Hid (Below w.heap.size w ((w.alloc (.cells #[.int .i64 1, .int .u8 f, .int .u64 r, .int .u64 b, .int .u32 c, .int .u16 p, .int .u16 a, .int .u16 x, .int .u16 h, .int .u16 d] 39)).alloc (.cells #[.int .u8 0, .int .u8 0, .int .u8 0, .int .u8 0, .int .u8 f] 5))) :=
    ((Below.refl _ _).alloc (Nat.le_refl _) _).alloc (by simp) _
  refine (refLay_box 1 f r b c p a x h d w.heap.size r 8 _ _ _ hr0 HR2.out (by decide) (by decide) (by simp [hd, beI_len]) HB0.out HX0.out).mono ?_
  rintro e w1 ⟨v1, rfl, HBL1, HWL1, HXL1, c10, c12, c13, c14, c15, c16, c17, c18, c19⟩
  go_wp2_with fail
  refine (refLay_box 1 f r b c p a x h d w.heap.size c 4 _ _ _ hc0 HC2.out (by decide) (by decide) (by simp [hd, beI_len]) HBL1.out HXL1.out).mono ?_
  rintro e w2 ⟨v2, rfl, HBL2, HWL2, HXL2, c20, c22, c23, c24, c25, c26, c27, c28, c29⟩
  go_wp2_with fail
  refine (refLay_box 1 f r b c p a x h d w.heap.size b 8 _ _ _ hb0 HB2.out (by decide) (by decide) (by simp [hd, beI_len]) HBL2.out HXL2.out).mono ?_
  rintro e w3 ⟨v3, rfl, HBL3, HWL3, HXL3, c30, c32, c33, c34, c35, c36, c37, c38, c39⟩
  go_wp2_with fail
  refine (refLay_box 1 f r b c p a x h d w.heap.size p 2 _ _ _ hp0 HP2.out (by decide) (by decide) (by simp [hd, beI_len]) HBL3.out HXL3.out).mono ?_
  rintro e w4 ⟨v4, rfl, HBL4, HWL4, HXL4, c40, c42, c43, c44, c45, c46, c47, c48, c49⟩
  go_wp2_with fail
  refine (refLay_box 1 f r b c p a x h d w.heap.size a 2 _ _ _ ha0 HA2.out (by decide) (by decide) (by simp [hd, beI_len]) HBL4.out HXL4.out).mono ?_
  rintro e w5 ⟨v5, rfl, HBL5, HWL5, HXL5, c50, c52, c53, c54, c55, c56, c57, c58, c59⟩
  go_wp2_with fail
  refine (refLay_box 1 f r b c p a x h d w.heap.size x 2 _ _ _ hx0 HX2.out (by decide) (by decide) (by simp [hd, beI_len]) HBL5.out HXL5.out).mono ?_
  rintro e w6 ⟨v6, rfl, HBL6, HWL6, HXL6, c60, c62, c63, c64, c65, c66, c67, c68, c69⟩
  go_wp2_with fail
  refine (refLay_box 1 f r b c p a x h d w.heap.size h 2 _ _ _ hh0 HH2.out (by decide) (by decide) (by simp [hd, beI_len]) HBL6.out HXL6.out).mono ?_
  rintro e w7 ⟨v7, rfl, HBL7, HWL7, HXL7, c70, c72, c73, c74, c75, c76, c77, c78, c79⟩
  go_wp2_with fail
  refine (refLay_box 1 f r b c p a x h d w.heap.size d 2 _ _ _ hd0 HD2.out (by decide) (by decide) (by simp [hd, beI_len]) HBL7.out HXL7.out).mono ?_
  rintro e w8 ⟨v8, rfl, HBL8, HWL8, HXL8, c80, c82, c83, c84, c85, c86, c87, c88, c89⟩
  go_wp2_with fail
  go_ret2
  refine ⟨v8, rfl, ?_, (HW0.out.trans ((((((((HWL1.out.trans HWL2.out).trans HWL3.out).trans HWL4.out).trans HWL5.out).trans HWL6.out).trans HWL7.out).trans HWL8.out).mono (Nat.le_succ _)))⟩
  have e : putL 1 f r b c p a x h d = hd 1 ++ beI f 1 ++ beI r 8 ++ beI c 4 ++ beI b 8 ++ beI p 2 ++ beI a 2 ++ beI x 2 ++ beI h 2 ++ beI d 2 := by simp [putL]
  rw [e]
  exact World.ownsRow.lower HBL8.out (Nat.le_succ _)

set_option maxRecDepth 100000 in
set_option maxHeartbeats 4000000 in
theorem refPut_3 (f r b c p a x h d : Int) (w : World) (hf0 : 0 ≤ f) (hf1 : f < 256) (hr0 : 0 ≤ r) (hb0 : 0 ≤ b) (hc0 : 0 ≤ c) (hp0 : 0 ≤ p) (ha0 : 0 ≤ a) (hx0 : 0 ≤ x) (hh0 : 0 ≤ h) (hd0 : 0 ≤ d)
    (HR2 : Hid (r < 18446744073709551616)) (HB2 : Hid (b < 18446744073709551616)) (HC2 : Hid (c < 18446744073709551616)) (HP2 : Hid (p < 18446744073709551616)) (HA2 : Hid (a < 18446744073709551616)) (HX2 : Hid (x < 18446744073709551616)) (HH2 : Hid (h < 18446744073709551616)) (HD2 : Hid (d < 18446744073709551616))
    (wc : IntKind.u64.wrap c = c) (wp : IntKind.u64.wrap p = p) (wa : IntKind.u64.wrap a = a) (wx : IntKind.u64.wrap x = x) (wh : IntKind.u64.wrap h = h) (wd : IntKind.u64.wrap d = d) (hm : mayB 3 f r b c p a x h d = true) :
    Calls Tryd.prog 7 #[msgV 3 f r b c p a x h d] w fun e w' => ∃ v, e = .returned (.tuple #[v, .int .i64 0]) ∧ Bytes w.heap.size w' v (putL 3 f r b c p a x h d) ∧ Below w.heap.size w w' := by
  have hax : a < x := by simpa [mayB] using hm
  clear hm
  have HF : Hid (beI f 1 = [f]) := beI_one f hf0 hf1
  go_enter Tryd.func7, Tryd.ntmps7
  go_wp2_with fail
  have HB0 : Hid (Bytes (w.heap.size + 1) ((w.alloc (.cells #[.int .i64 3, .int .u8 f, .int .u64 r, .int .u64 b, .int .u32 c, .int .u16 p, .int .u16 a, .int .u16 x, .int .u16 h, .int .u16 d] 39)).alloc (.cells #[.int .u8 0, .int .u8 0, .int .u8 2, .int .u8 2, .int .u8 f] 5)) (.slice (some ⟨w.heap.size + 1, 0, none⟩) 5 5) (hd 3 ++ beI f 1)) := by
    show Bytes _ _ _ _
    rw [HF.out]
    rw [show hd 3 ++ [f] = [0, 0, 2, 2, f] from by simp [hd]]
    exact ⟨rfl, .inr ⟨w.heap.size + 1, 5, #[.int .u8 0, .int .u8 0, .int .u8 2, .int .u8 2, .int .u8 f], rfl, Nat.le_refl _, heap_new_at _ _ (by simp), Nat.le_refl _, by decide, rfl, rfl⟩⟩
  have HX0 : Hid (((w.alloc (.cells #[.int .i64 3, .int .u8 f, .int .u64 r, .int .u64 b, .int .u32 c, .int .u16 p, .int .u16 a, .int .u16 x, .int .u16 h, .int .u16 d] 39)).alloc (.cells #[.int .u8 0, .int .u8 0, .int .u8 2, .int .u8 2, .int .u8 f] 5)).heap[w.heap.size]? = some (.cells #[.int .i64 3, .int .u8 f, .int .u64 r, .int .u64 b, .int .u32 c, .int .u16 p, .int .u16 a, .int .u16 x, .int .u16 h, .int .u16 d] 39 (0, 0))) :=
    (Below.heap_alloc _ _ _ (by simp)).trans (heap_alloc_new _ _)
  have HW0 : Hid (Below w.heap.size w ((w.alloc (.cells #[.int .i64 3, .int .u8 f, .int .u64 r, .int .u64 b, .int .u32 c, .int .u16 p, .int .u16 a, .int .u16 x, .int .u16 h, .int .u16 d] 39)).alloc (.cells #[.int .u8 0, .int .u8 0, .int .u8 2, .int .u8 2, .int .u8 f] 5))) :=
    ((Below.refl _ _).alloc (Nat.le_refl _) _).alloc (by simp) _
  refine (refLay_box 3 f r b c p a x h d w.heap.size r 8 _ _ _ hr0 HR2.out (by decide) (by decide) (by simp [hd, beI_len]) HB0.out HX0.out).mono ?_
  rintro e w1 ⟨v1, rfl, HBL1, HWL1, HXL1, c10, c12, c13, c14, c15, c16, c17, c18, c19⟩
  go_wp2_with fail
  refine (refLay_box 3 f r b c p a x h d w.heap.size c 4 _ _ _ hc0 HC2.out (by decide) (by decide) (by simp [hd, beI_len]) HBL1.out HXL1.out).mono ?_
  rintro e w2 ⟨v2, rfl, HBL2, HWL2, HXL2, c20, c22, c23, c24, c25, c26, c27, c28, c29⟩
  go_wp2_with fail
  refine (refLay_box 3 f r b c p a x h d w.heap.size b 8 _ _ _ hb0 HB2.out (by decide) (by decide) (by simp [hd, beI_len]) HBL2.out HXL2.out).mono ?_
  rintro e w3 ⟨v3, rfl, HBL3, HWL3, HXL3, c30, c32, c33, c34, c35, c36, c37, c38, c39⟩
  go_wp2_with fail
  refine (refLay_box 3 f r b c p a x h d w.heap.size p 2 _ _ _ hp0 HP2.out (by decide) (by decide) (by simp [hd, beI_len]) HBL3.out HXL3.out).mono ?_
  rintro e w4 ⟨v4, rfl, HBL4, HWL4, HXL4, c40, c42, c43, c44, c45, c46, c47, c48, c49⟩
  go_wp2_with fail
  refine (refLay_box 3 f r b c p a x h d w.heap.size a 2 _ _ _ ha0 HA2.out (by decide) (by decide) (by simp [hd, beI_len]) HBL4.out HXL4.out).mono ?_
  rintro e w5 ⟨v5, rfl, HBL5, HWL5, HXL5, c50, c52, c53, c54, c55, c56, c57, c58, c59⟩
  go_wp2_with fail
  refine (refLay_box 3 f r b c p a x h d w.heap.size x 2 _ _ _ hx0 HX2.out (by decide) (by decide) (by simp [hd, beI_len]) HBL5.out HXL5.out).mono ?_
  rintro e w6 ⟨v6, rfl, HBL6, HWL6, HXL6, c60, c62, c63, c64, c65, c66, c67, c68, c69⟩
  go_wp2_with fail
  refine (refLay_box 3 f r b c p a x h d w.heap.size h 2 _ _ _ hh0 HH2.out (by decide) (by decide) (by simp [hd, beI_len]) HBL6.out HXL6.out).mono ?_
  rintro e w7 ⟨v7, rfl, HBL7, HWL7, HXL7, c70, c72, c73, c74, c75, c76, c77, c78, c79⟩
  go_wp2_with fail
  refine (refLay_box 3 f r b c p a x h d w.heap.size d 2 _ _ _ hd0 HD2.out (by decide) (by decide) (by simp [hd, beI_len]) HBL7.out HXL7.out).mono ?_
  rintro e w8 ⟨v8, rfl, HBL8, HWL8, HXL8, c80, c82, c83, c84, c85, c86, c87, c88, c89⟩
  have HL9 := HBL8
  have hsz : w.heap.size + 1 ≤ w8.heap.size := lt_of_block HXL8.out
  go_wp2_with (at_builtin; refine wpList_appendB rfl _ _ rfl (w.heap.size + 1) v8 (hd 3 ++ beI f 1 ++ beI r 8 ++ beI c 4 ++ beI b 8 ++ beI p 2 ++ beI a 2 ++ beI x 2 ++ beI h 2 ++ beI d 2) [0] rfl (show Hid (Bytes _ (w8.alloc _) _ _) from World.ownsRow.alloc HBL8.out _) ⟨w8.heap.size, 0, none⟩ 1 1 rfl rfl (by intro j u hj; match j, hj with | 0, hj => (simp at hj; subst hj; simp [Addr.add]) | j + 1, hj => simp at hj) (by simp [hd, beI_len]) (by simp) (by simp; omega) ?_; intro v9 w9 h1 h2 h3)
  go_ret2
  refine ⟨v9, rfl, ?_, (HW0.out.trans ((((((((HWL1.out.trans HWL2.out).trans HWL3.out).trans HWL4.out).trans HWL5.out).trans HWL6.out).trans HWL7.out).trans HWL8.out).mono (Nat.le_succ _))).trans ?_⟩
  · have e : putL 3 f r b c p a x h d = hd 3 ++ beI f 1 ++ beI r 8 ++ beI c 4 ++ beI b 8 ++ beI p 2 ++ beI a 2 ++ beI x 2 ++ beI h 2 ++ beI d 2 ++ [0] := by simp [putL, beI]
    rw [e]
    exact World.ownsRow.lower h1.out (Nat.le_succ _)
  · refine ((Below.refl _ _).alloc (by omega) _).grown h2.out (by simp; omega) (fun j hj => ?_)
    rcases h3.out with h3 | ⟨k', h3, h4⟩
    · rw [h3] at hj; cases hj
    · rw [h3] at hj; cases hj; omega

end Go.Proofs.YtcahlponmbnkcaaDoor
