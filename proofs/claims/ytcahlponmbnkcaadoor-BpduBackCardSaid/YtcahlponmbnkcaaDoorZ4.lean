/- BPDU: Frame. -/
import Derived.Test.YtcahlponmbnkcaaDoorZ3
namespace Go.Proofs.YtcahlponmbnkcaaDoor
open Go Go.RowKit

set_option maxRecDepth 100000 in
set_option maxHeartbeats 1000000 in
theorem frame_ok (s0 s1 s2 s3 s4 s5 k f r b c p a x h d : Int) (F : Fits f r b c p a x h d) (w : World) (hG : Gl w) (hm : mayB k f r b c p a x h d = true) :
    Calls Tryd.prog 18 #[.agg #[.int .u8 s0, .int .u8 s1, .int .u8 s2, .int .u8 s3, .int .u8 s4, .int .u8 s5], msgV k f r b c p a x h d] w fun e w' => ∃ v, e = .returned (.tuple #[.agg (llcF 1 128 194 0 0 0 s0 s1 s2 s3 s4 s5 (.slice none 0 0) 66 66 3 v), .int .i64 0]) ∧ Bytes 0 w' v (putL k f r b c p a x h d) ∧ Below w.heap.size w w' := by
  have HG := Lib.hid hG
  clear hG
  have HF := Lib.hid F
  have HPE : Hid (putE k f r b c p a x h d = 0) := Lib.hid (by simp [putE, hm])
  have HPR : Hid (putR k f r b c p a x h d = putL k f r b c p a x h d) := Lib.hid (by simp [putR, hm])
  clear F hm
  go_enter Tryd.func18, Tryd.ntmps18
  go_upto_region 1 with ((with_reducible show wpList _ _ _ (Oper.mk _ (.alloc _) _ _ _ _ :: _) _ _); refine wpList_allocV rfl 33 rfl _ al33 ?_; go_frame)
  try simp only [World.size_alloc]
  obtain ⟨W, hW⟩ : ∃ W, W = ((w.alloc (.cells #[.int .u8 s0, .int .u8 s1, .int .u8 s2, .int .u8 s3, .int .u8 s4, .int .u8 s5] 28)).alloc (.cells (rowM k f r b c p a x h d) 26)).alloc (.cells zeros33 33) := ⟨_, rfl⟩
  rw [← hW]
  have HS0 : Hid (W.heap[w.heap.size]? = some (.cells #[.int .u8 s0, .int .u8 s1, .int .u8 s2, .int .u8 s3, .int .u8 s4, .int .u8 s5] 28 (0, 0))) := Lib.hid (by rw [hW, Below.heap_alloc _ _ _ (by simp; omega), Below.heap_alloc _ _ _ (by simp)]; exact heap_alloc_new _ _)
  have HM0 : Hid (W.heap[w.heap.size + 1]? = some (.cells (rowM k f r b c p a x h d) 26 (0, 0))) := Lib.hid (by rw [hW, Below.heap_alloc _ _ _ (by simp)]; exact heap_new_at _ _ (by simp))
  have HR0 : Hid (W.heap[w.heap.size + 1 + 1]? = some (.cells zeros33 33 (0, 0))) := Lib.hid (by rw [hW]; exact heap_new_at _ _ (by simp))
  have HB0 : Hid (Below w.heap.size w W) := Lib.hid (by rw [hW]; exact (((Below.refl _ _).alloc (Nat.le_refl _) _).alloc (by simp) _).alloc (by simp; omega) _)
  clear hW
  go_wp2_with (first
    | ((with_reducible show wpList _ _ _ (Oper.mk _ (.load 26 _) _ _ _ _ :: _) _ _); go_loud (refine wpList_load_row rfl 26 (.tmp 3) rfl (w.heap.size + 1) rfl 26 (rowM k f r b c p a x h d) (0, 0) _ HM0.out Tryd.underlying26 rfl (by kernel_rfl) ?_); go_frame)
    | (go_at_call 6; refine (put_any k f r b c p a x h d HF.out _).mono ?_; rintro e w1 ⟨v, rfl, hv, hb1⟩; rw [HPR.out] at hv; rw [HPE.out]; obtain ⟨va, vc, rfl⟩ := hv.rd.form; have HV := Lib.hid hv; have HR1 := Lib.hid ((hb1.block _ (lt_of_block HR0.out)).trans HR0.out); have HB1 := Lib.hid (HB0.out.trans (hb1.mono HB0.out.size)); obtain ⟨g0, g1, g2, g3, g4, g5, g6, g7, g8⟩ := (HG.out.below HB1.out); have hS1 := (hb1.block _ (lt_of_block HS0.out)).trans HS0.out; have t0 := info_cells (k := 0) hS1 rfl; have t1 := info_cells (k := 1) hS1 rfl; have t2 := info_cells (k := 2) hS1 rfl; have t3 := info_cells (k := 3) hS1 rfl; have t4 := info_cells (k := 4) hS1 rfl; have t5 := info_cells (k := 5) hS1 rfl; clear hS1; clear hb1 hv)
    | ((with_reducible show wpList _ _ _ (Oper.mk _ (.build _ _) _ _ _ _ :: _) _ _); refine wpList_buildV rfl 33 _ rfl (rawF 1 128 194 0 0 0 s0 s1 s2 s3 s4 s5 (.slice none 0 0) 2 66 66 3 (.slice va (putL k f r b c p a x h d).length vc) (.slice none 0 0)) (by kernel_rfl) ?_; go_frame)
    | ((with_reducible show wpList _ _ _ (Oper.mk _ (.store 33 _ _) _ _ _ _ :: _) _ _); go_loud (refine wpList_store_row rfl 33 (.tmp 4) (.tmp 21) rfl (w.heap.size + 1 + 1) (rawF 1 128 194 0 0 0 s0 s1 s2 s3 s4 s5 (.slice none 0 0) 2 66 66 3 (.slice va (putL k f r b c p a x h d).length vc) (.slice none 0 0)) rfl rfl 33 zeros33 HR1.out (by kernel_rfl) rfl (oneRaw 1 128 194 0 0 0 s0 s1 s2 s3 s4 s5 2 66 66 3 none va none 0 0 (putL k f r b c p a x h d).length vc 0 0) ?_); go_frame))
  refine bodyPost_ret (results_cell_row2 (P := Tryd.prog) Tryd.results18 _ _ (w.heap.size + 1 + 1) 33 (rawF 1 128 194 0 0 0 s0 s1 s2 s3 s4 s5 (.slice none 0 0) 2 66 66 3 (.slice va (putL k f r b c p a x h d).length vc) (.slice none 0 0)) (0, 0) _ rfl (setRow_heap _ _ _ _ _ _ HR1.out) Tryd.underlying33 rfl (by kernel_rfl)) rfl ⟨_, rfl, (Bytes.lower HV.out (Nat.zero_le _)).apartT HR1.out (by decide) (fun j hj => setRow_other _ _ _ _ hj), below_setRow HB1.out (by omega) _⟩

set_option maxRecDepth 100000 in
set_option maxHeartbeats 1000000 in
theorem frame_no (s0 s1 s2 s3 s4 s5 k f r b c p a x h d : Int) (F : Fits f r b c p a x h d) (w : World) (hm : mayB k f r b c p a x h d = false) :
    Calls Tryd.prog 18 #[.agg #[.int .u8 s0, .int .u8 s1, .int .u8 s2, .int .u8 s3, .int .u8 s4, .int .u8 s5], msgV k f r b c p a x h d] w fun e w' => e = .returned (.tuple #[.agg zeros33, .int .i64 1]) ∧ Below w.heap.size w w' := by
  have HF := Lib.hid F
  have HPE : Hid (putE k f r b c p a x h d = 1) := Lib.hid (by simp [putE, hm])
  have HPR : Hid (putR k f r b c p a x h d = []) := Lib.hid (by simp [putR, hm])
  clear F hm
  go_enter Tryd.func18, Tryd.ntmps18
  go_upto_region 1 with ((with_reducible show wpList _ _ _ (Oper.mk _ (.alloc _) _ _ _ _ :: _) _ _); refine wpList_allocV rfl 33 rfl _ al33 ?_; go_frame)
  try simp only [World.size_alloc]
  obtain ⟨W, hW⟩ : ∃ W, W = ((w.alloc (.cells #[.int .u8 s0, .int .u8 s1, .int .u8 s2, .int .u8 s3, .int .u8 s4, .int .u8 s5] 28)).alloc (.cells (rowM k f r b c p a x h d) 26)).alloc (.cells zeros33 33) := ⟨_, rfl⟩
  rw [← hW]
  have HS0 : Hid (W.heap[w.heap.size]? = some (.cells #[.int .u8 s0, .int .u8 s1, .int .u8 s2, .int .u8 s3, .int .u8 s4, .int .u8 s5] 28 (0, 0))) := Lib.hid (by rw [hW, Below.heap_alloc _ _ _ (by simp; omega), Below.heap_alloc _ _ _ (by simp)]; exact heap_alloc_new _ _)
  have HM0 : Hid (W.heap[w.heap.size + 1]? = some (.cells (rowM k f r b c p a x h d) 26 (0, 0))) := Lib.hid (by rw [hW, Below.heap_alloc _ _ _ (by simp)]; exact heap_new_at _ _ (by simp))
  have HR0 : Hid (W.heap[w.heap.size + 1 + 1]? = some (.cells zeros33 33 (0, 0))) := Lib.hid (by rw [hW]; exact heap_new_at _ _ (by simp))
  have HB0 : Hid (Below w.heap.size w W) := Lib.hid (by rw [hW]; exact (((Below.refl _ _).alloc (Nat.le_refl _) _).alloc (by simp) _).alloc (by simp; omega) _)
  clear hW
  go_wp2_with (first
    | ((with_reducible show wpList _ _ _ (Oper.mk _ (.load 26 _) _ _ _ _ :: _) _ _); go_loud (refine wpList_load_row rfl 26 (.tmp 3) rfl (w.heap.size + 1) rfl 26 (rowM k f r b c p a x h d) (0, 0) _ HM0.out Tryd.underlying26 rfl (by kernel_rfl) ?_); go_frame)
    | (go_at_call 6; refine (put_any k f r b c p a x h d HF.out _).mono ?_; rintro e w1 ⟨v, rfl, hv, hb1⟩; rw [HPR.out] at hv; rw [HPE.out]; obtain ⟨va, vc, rfl⟩ := hv.rd.form; have HV := Lib.hid hv; have HR1 := Lib.hid ((hb1.block _ (lt_of_block HR0.out)).trans HR0.out); have HB1 := Lib.hid (HB0.out.trans (hb1.mono HB0.out.size)); clear hb1 hv)
    | ((with_reducible show wpList _ _ _ (Oper.mk _ (.build _ _) _ _ _ _ :: _) _ _); refine wpList_buildV rfl 33 _ rfl zeros33 (by kernel_rfl) ?_; go_frame)
    | ((with_reducible show wpList _ _ _ (Oper.mk _ (.store 33 _ _) _ _ _ _ :: _) _ _); go_loud (refine wpList_store_row rfl 33 (.tmp 4) (.tmp 15) rfl (w.heap.size + 1 + 1) zeros33 rfl rfl 33 zeros33 HR1.out (by kernel_rfl) rfl (oneRaw 0 0 0 0 0 0 0 0 0 0 0 0 0 0 0 0 none none none 0 0 0 0 0 0) ?_); go_frame))
  refine bodyPost_ret (results_cell_row2 (P := Tryd.prog) Tryd.results18 _ _ (w.heap.size + 1 + 1) 33 zeros33 (0, 0) _ rfl (setRow_heap _ _ _ _ _ _ HR1.out) Tryd.underlying33 rfl (by kernel_rfl)) rfl ⟨rfl, below_setRow HB1.out (by omega) _⟩
end Go.Proofs.YtcahlponmbnkcaaDoor
