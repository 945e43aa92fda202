/- BPDU: the statement BpduTells: the walk. -/
import Derived.Test.YtcahlponmbnkcaaDoorF1
import Derived.Deep.Cut
namespace Go.Proofs.YtcahlponmbnkcaaDoor
open Go Go.RowKit Go.Sort

set_option maxRecDepth 100000 in
set_option maxHeartbeats 2000000 in
theorem bpduTells_walk (k f r b c p a x h d k' f' r' b' c' p' a' x' h' d' : Int) (F : Fits f r b c p a x h d) (F' : Fits f' r' b' c' p' a' x' h' d') (e0 e1 e2 e3 e4 e5 s0 s1 s2 s3 s4 s5 kind typ l0 l1 l2 o0 o1 o2 : Int)
    (ta ba ra : Option Addr) (tn tc bn bc rn rc : Nat) (hbn : bn ≤ bc) (_hbc : bc ≤ maxLen) (w : World) (hG : Gl w) :
    Calls Tryd.prog 3 #[msgV k f r b c p a x h d, msgV k' f' r' b' c' p' a' x' h' d', frameV e0 e1 e2 e3 e4 e5 s0 s1 s2 s3 s4 s5 (.slice ta tn tc) kind typ l0 l1 l2 o0 o1 o2 (.slice ba bn bc) (.slice ra rn rc)] w
      fun e w' => e = .returned (.bool true) ∧ Below w.heap.size w w' := by
  unfold maxLen at _hbc
  have HF := Lib.hid F
  have HF' := Lib.hid F'
  have HG := Lib.hid hG
  clear F F' hG
  go_enter Tryd.func3, Tryd.ntmps3
  go_upto_region 2 with (fail)
  obtain ⟨W, hW⟩ : ∃ W, W = ((w.alloc (.cells #[.int .i64 k, .int .u8 f, .int .u64 r, .int .u64 b, .int .u32 c, .int .u16 p, .int .u16 a, .int .u16 x, .int .u16 h, .int .u16 d] 26)).alloc (.cells #[.int .i64 k', .int .u8 f', .int .u64 r', .int .u64 b', .int .u32 c', .int .u16 p', .int .u16 a', .int .u16 x', .int .u16 h', .int .u16 d'] 26)).alloc (.cells #[.int .u8 e0, .int .u8 e1, .int .u8 e2, .int .u8 e3, .int .u8 e4, .int .u8 e5, .int .u8 s0, .int .u8 s1, .int .u8 s2, .int .u8 s3, .int .u8 s4, .int .u8 s5, .slice none 0 0, .int .i64 kind, .int .i64 typ, .int .u8 l0, .int .u8 l1, .int .u8 l2, .int .u8 o0, .int .u8 o1, .int .u8 o2, .slice ba (if 100 < (bn : Int) then 100 else (bn : Int)).toNat bc, .slice none 0 0] 33) := ⟨_, rfl⟩
  rw [← hW]
  generalize (if 100 < (bn : Int) then 100 else (bn : Int)) = bl at hW ⊢
  have HM1 : Hid (W.heap[w.heap.size]? = some (.cells #[.int .i64 k, .int .u8 f, .int .u64 r, .int .u64 b, .int .u32 c, .int .u16 p, .int .u16 a, .int .u16 x, .int .u16 h, .int .u16 d] 26 (0, 0))) := by
    show W.heap[_]? = _; rw [hW, Below.heap_alloc _ _ _ (by simp; omega), Below.heap_alloc _ _ _ (by simp)]; exact heap_alloc_new _ _
  have HM2 : Hid (W.heap[w.heap.size + 1]? = some (.cells #[.int .i64 k', .int .u8 f', .int .u64 r', .int .u64 b', .int .u32 c', .int .u16 p', .int .u16 a', .int .u16 x', .int .u16 h', .int .u16 d'] 26 (0, 0))) := by
    show W.heap[_]? = _; rw [hW, Below.heap_alloc _ _ _ (by simp)]; exact heap_new_at _ _ (by simp)
  have HFr : Hid (W.heap[w.heap.size + 1 + 1]? = some (.cells #[.int .u8 e0, .int .u8 e1, .int .u8 e2, .int .u8 e3, .int .u8 e4, .int .u8 e5, .int .u8 s0, .int .u8 s1, .int .u8 s2, .int .u8 s3, .int .u8 s4, .int .u8 s5, .slice none 0 0, .int .i64 kind, .int .i64 typ, .int .u8 l0, .int .u8 l1, .int .u8 l2, .int .u8 o0, .int .u8 o1, .int .u8 o2, .slice ba bl.toNat bc, .slice none 0 0] 33 (0, 0))) := by
    show W.heap[_]? = _; rw [hW]; exact heap_new_at _ _ (by simp)
  have HS : Hid (W.heap.size = w.heap.size + 1 + 1 + 1) := by show W.heap.size = _; rw [hW]; simp
  have HB : Hid (Below w.heap.size w W) := by rw [hW]; exact (((Below.refl _ _).alloc (Nat.le_refl _) _).alloc (by simp) _).alloc (by simp; omega) _
  clear hW
  go_wp2_with (first
    | ((with_reducible show wpList _ _ _ (Oper.mk _ (.load 26 _) _ _ _ _ :: _) _ _); refine wpList_load_row rfl 26 (.tmp 3) rfl w.heap.size rfl 26 #[.int .i64 k, .int .u8 f, .int .u64 r, .int .u64 b, .int .u32 c, .int .u16 p, .int .u16 a, .int .u16 x, .int .u16 h, .int .u16 d] (0, 0) _ HM1.out Tryd.underlying26 rfl (by kernel_rfl) ?_; go_frame))
  refine (put_any k f r b c p a x h d HF.out _).mono ?_
  rintro e w1 ⟨v1, rfl, hv1, hb1⟩
  have HV1 := Lib.hid hv1
  have HB1 := Lib.hid hb1
  have HM11 : Hid (w1.heap[w.heap.size]? = some (.cells #[.int .i64 k, .int .u8 f, .int .u64 r, .int .u64 b, .int .u32 c, .int .u16 p, .int .u16 a, .int .u16 x, .int .u16 h, .int .u16 d] 26 (0, 0))) := (hb1.block _ (by have := HS.out; omega)).trans HM1.out
  have HM21 : Hid (w1.heap[w.heap.size + 1]? = some (.cells #[.int .i64 k', .int .u8 f', .int .u64 r', .int .u64 b', .int .u32 c', .int .u16 p', .int .u16 a', .int .u16 x', .int .u16 h', .int .u16 d'] 26 (0, 0))) := (hb1.block _ (by have := HS.out; omega)).trans HM2.out
  have HFr1 : Hid (w1.heap[w.heap.size + 1 + 1]? = some (.cells #[.int .u8 e0, .int .u8 e1, .int .u8 e2, .int .u8 e3, .int .u8 e4, .int .u8 e5, .int .u8 s0, .int .u8 s1, .int .u8 s2, .int .u8 s3, .int .u8 s4, .int .u8 s5, .slice none 0 0, .int .i64 kind, .int .i64 typ, .int .u8 l0, .int .u8 l1, .int .u8 l2, .int .u8 o0, .int .u8 o1, .int .u8 o2, .slice ba bl.toNat bc, .slice none 0 0] 33 (0, 0))) := (hb1.block _ (by have := HS.out; omega)).trans HFr.out
  clear hv1 hb1
  go_wp2_with (first
    | ((with_reducible show wpList _ _ _ (Oper.mk _ (.load 26 _) _ _ _ _ :: _) _ _); refine wpList_load_row rfl 26 (.tmp 3) rfl w.heap.size rfl 26 #[.int .i64 k, .int .u8 f, .int .u64 r, .int .u64 b, .int .u32 c, .int .u16 p, .int .u16 a, .int .u16 x, .int .u16 h, .int .u16 d] (0, 0) _ HM11.out Tryd.underlying26 rfl (by kernel_rfl) ?_; go_frame))
  refine (refPut_any k f r b c p a x h d HF.out _).mono ?_
  rintro e w2 ⟨v2, rfl, hv2, hb2⟩
  have HV2 := Lib.hid hv2
  have HB2 := Lib.hid hb2
  have HSz : Hid (W.heap.size ≤ w1.heap.size ∧ w1.heap.size ≤ w2.heap.size) := ⟨HB1.out.size, hb2.size⟩
  have HM12 : Hid (w2.heap[w.heap.size]? = some (.cells #[.int .i64 k, .int .u8 f, .int .u64 r, .int .u64 b, .int .u32 c, .int .u16 p, .int .u16 a, .int .u16 x, .int .u16 h, .int .u16 d] 26 (0, 0))) := (hb2.block _ (by have := HS.out; have := HSz.out; omega)).trans HM11.out
  have HM22 : Hid (w2.heap[w.heap.size + 1]? = some (.cells #[.int .i64 k', .int .u8 f', .int .u64 r', .int .u64 b', .int .u32 c', .int .u16 p', .int .u16 a', .int .u16 x', .int .u16 h', .int .u16 d'] 26 (0, 0))) := (hb2.block _ (by have := HS.out; have := HSz.out; omega)).trans HM21.out
  have HFr2 : Hid (w2.heap[w.heap.size + 1 + 1]? = some (.cells #[.int .u8 e0, .int .u8 e1, .int .u8 e2, .int .u8 e3, .int .u8 e4, .int .u8 e5, .int .u8 s0, .int .u8 s1, .int .u8 s2, .int .u8 s3, .int .u8 s4, .int .u8 s5, .slice none 0 0, .int .i64 kind, .int .i64 typ, .int .u8 l0, .int .u8 l1, .int .u8 l2, .int .u8 o0, .int .u8 o1, .int .u8 o2, .slice ba bl.toNat bc, .slice none 0 0] 33 (0, 0))) := (hb2.block _ (by have := HS.out; have := HSz.out; omega)).trans HFr1.out
  clear hv2 hb2
  have HGl : Hid (Gl w2) := ((HG.out.below HB.out).below HB1.out).below HB2.out
  have HW2 : Hid (Below w.heap.size w w2) := (HB.out.trans (HB1.out.mono (by have := HS.out; omega))).trans (HB2.out.mono (by have := HS.out; have := HSz.out; omega))
  go_wp2_with fail
  have hc1 : ∀ q : Regrown, (convert 31 9 v1).run Tryd.prog (grow (redrawn w2 q.d) q.os) = .ok (.string (strOf (putR k f r b c p a x h d))) (grow (redrawn w2 q.d) q.os) := fun q => conv_bytes ((HV1.out.below HB2.out).below (below_regrown w2 q.d q.os))
  have hc2 : ∀ q : Regrown, (convert 31 9 v2).run Tryd.prog (grow (redrawn w2 q.d) q.os) = .ok (.string (strOf (putR k f r b c p a x h d))) (grow (redrawn w2 q.d) q.os) := fun q => conv_bytes (HV2.out.below (below_regrown w2 q.d q.os))
  generalize strOf (putR k f r b c p a x h d) = S at hc1 hc2
  generalize putE k f r b c p a x h d = E0
  refine wp_region_quiet_below (by kernel_rfl) (by kernel_rfl) ?_
  iterate 11 quiet_step (fail)
  refine wpQuiet_step (fun K hK => ?_)
  rw [if_pos (by rfl)]
  refine quiet_load_row 26 (.tmp 3) rfl (w.heap.size) rfl 26 #[.int .i64 k, .int .u8 f, .int .u64 r, .int .u64 b, .int .u32 c, .int .u16 p, .int .u16 a, .int .u16 x, .int .u16 h, .int .u16 d] (0, 0) _ (fun w' hw' => by obtain ⟨q, rfl⟩ := hw'; exact ((below_regrown w2 q.d q.os).block _ (lt_of_block HM12.out)).trans HM12.out) Tryd.underlying26 rfl (by kernel_rfl) (hK _ ?_)
  clear hK K
  go_frame
  refine wpQuiet_step (fun K hK => ?_)
  rw [if_pos (by rfl)]
  refine quiet_load_row 26 (.tmp 4) rfl (w.heap.size + 1) rfl 26 #[.int .i64 k', .int .u8 f', .int .u64 r', .int .u64 b', .int .u32 c', .int .u16 p', .int .u16 a', .int .u16 x', .int .u16 h', .int .u16 d'] (0, 0) _ (fun w' hw' => by obtain ⟨q, rfl⟩ := hw'; exact ((below_regrown w2 q.d q.os).block _ (lt_of_block HM22.out)).trans HM22.out) Tryd.underlying26 rfl (by kernel_rfl) (hK _ ?_)
  clear hK K
  go_frame
  quiet_step (exact Calls.regrown_of (compare_any _ _ _ _ _ _ _ _ _ _ _ _ _ _ _ _ _ _ _ _ _))
  quiet_step (exact Calls.regrown_same (sign_cmp_any _ _ _ _ _ _ _ _ _ _ _))
  refine wpQuiet_step (fun K hK => ?_)
  rw [if_pos (by rfl)]
  refine quiet_load_row 26 (.tmp 3) rfl (w.heap.size) rfl 26 #[.int .i64 k, .int .u8 f, .int .u64 r, .int .u64 b, .int .u32 c, .int .u16 p, .int .u16 a, .int .u16 x, .int .u16 h, .int .u16 d] (0, 0) _ (fun w' hw' => by obtain ⟨q, rfl⟩ := hw'; exact ((below_regrown w2 q.d q.os).block _ (lt_of_block HM12.out)).trans HM12.out) Tryd.underlying26 rfl (by kernel_rfl) (hK _ ?_)
  clear hK K
  go_frame
  refine wpQuiet_step (fun K hK => ?_)
  rw [if_pos (by rfl)]
  refine quiet_load_row 26 (.tmp 4) rfl (w.heap.size + 1) rfl 26 #[.int .i64 k', .int .u8 f', .int .u64 r', .int .u64 b', .int .u32 c', .int .u16 p', .int .u16 a', .int .u16 x', .int .u16 h', .int .u16 d'] (0, 0) _ (fun w' hw' => by obtain ⟨q, rfl⟩ := hw'; exact ((below_regrown w2 q.d q.os).block _ (lt_of_block HM22.out)).trans HM22.out) Tryd.underlying26 rfl (by kernel_rfl) (hK _ ?_)
  clear hK K
  go_frame
  quiet_step (exact Calls.regrown_of (refCompare_any _ _ _ _ _ _ _ _ _ _ _ _ _ _ _ _ _ _ _ _ _ (wrap_small HF.out.c0 HF.out.c1) (wrap_small HF.out.p0 (Int.lt_trans HF.out.p1 (by decide))) (wrap_small HF'.out.c0 HF'.out.c1) (wrap_small HF'.out.p0 (Int.lt_trans HF'.out.p1 (by decide)))))
  iterate 3 quiet_step (fail)
  refine wpQuiet_step (fun K hK => ?_)
  rw [if_pos (by rfl)]
  refine quiet_load_row 33 (.tmp 5) rfl (w.heap.size + 1 + 1) rfl 33 #[.int .u8 e0, .int .u8 e1, .int .u8 e2, .int .u8 e3, .int .u8 e4, .int .u8 e5, .int .u8 s0, .int .u8 s1, .int .u8 s2, .int .u8 s3, .int .u8 s4, .int .u8 s5, .slice none 0 0, .int .i64 kind, .int .i64 typ, .int .u8 l0, .int .u8 l1, .int .u8 l2, .int .u8 o0, .int .u8 o1, .int .u8 o2, .slice ba bl.toNat bc, .slice none 0 0] (0, 0) _ (fun w' hw' => by obtain ⟨q, rfl⟩ := hw'; exact ((below_regrown w2 q.d q.os).block _ (lt_of_block HFr2.out)).trans HFr2.out) Tryd.underlying33 rfl (by kernel_rfl) (hK _ ?_)
  clear hK K
  go_frame
  quiet_step (exact Calls.regrown_of (is_any _ _ _ _ _ _ _ _ _ _ _ _ _ _ _ _ _ _ _ _ _ _ _ _ (HGl.out.below (below_regrown w2 _ _))))
  refine wpQuiet_step (fun K hK => ?_)
  rw [if_pos (by rfl)]
  refine quiet_load_row 33 (.tmp 5) rfl (w.heap.size + 1 + 1) rfl 33 #[.int .u8 e0, .int .u8 e1, .int .u8 e2, .int .u8 e3, .int .u8 e4, .int .u8 e5, .int .u8 s0, .int .u8 s1, .int .u8 s2, .int .u8 s3, .int .u8 s4, .int .u8 s5, .slice none 0 0, .int .i64 kind, .int .i64 typ, .int .u8 l0, .int .u8 l1, .int .u8 l2, .int .u8 o0, .int .u8 o1, .int .u8 o2, .slice ba bl.toNat bc, .slice none 0 0] (0, 0) _ (fun w' hw' => by obtain ⟨q, rfl⟩ := hw'; exact ((below_regrown w2 q.d q.os).block _ (lt_of_block HFr2.out)).trans HFr2.out) Tryd.underlying33 rfl (by kernel_rfl) (hK _ ?_)
  clear hK K
  go_frame
  quiet_step (exact Calls.regrown_of (of_nil _ _ _ _ _ _ _ _ _ _ _ _ _ _ _ _ _ _ _ _ _ _ _ _))
  quiet_step (exact Calls.regrown_of (refIs_any _ _ _ _ _ _ _ _ _ _ _ _ _ _ _ _ _ _ _ _ _ _ _ _))
  iterate 3 quiet_step (fail)
  quiet_step (exact Calls.regrown_of (tells_any _))
  iterate 2 quiet_step (fail)
  refine wpQuiet_nil ?_
  rintro w3 ⟨q, rfl⟩
  go_wp2_with fail
  go_ret
  exact ⟨rfl, HW2.out.trans ((below_regrown w2 q.d q.os).mono (by have := HS.out; have := HSz.out; omega))⟩
end Go.Proofs.YtcahlponmbnkcaaDoor
