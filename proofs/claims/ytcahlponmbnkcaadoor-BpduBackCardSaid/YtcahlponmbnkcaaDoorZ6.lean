/- BPDU: back: no message -/
import Derived.Test.YtcahlponmbnkcaaDoorZ5
namespace Go.Proofs.YtcahlponmbnkcaaDoor
open Go Go.RowKit

set_option maxRecDepth 100000 in
set_option maxHeartbeats 4000000 in
theorem back_no (zk zf zr zb zc zp za zx zh zd : Int) (F : Fits zf zr zb zc zp za zx zh zd) (hm : mayB zk zf zr zb zc zp za zx zh zd = false) (ba : Option Addr) (n bc : Nat) (beh : List Int) (s0 s1 s2 s3 s4 s5 : Int) (aa : Option Addr) (an ac : Nat) (any : List Int) (pt : Int) (w : World) (hGl : Gl w) (hGk : Gk w) (hrb : Rd w (.slice ba n bc) beh) (hra : Rd w (.slice aa an ac) any) (hba : ∀ z ∈ any, 0 ≤ z ∧ z < 256) (hbb : ∀ z ∈ beh, 0 ≤ z ∧ z < 256) (_hp0 : 0 ≤ pt) (_hp1 : pt < 256) :
    Calls Tryd.prog 5 #[msgV zk zf zr zb zc zp za zx zh zd, .slice ba n bc, .agg #[.int .u8 s0, .int .u8 s1, .int .u8 s2, .int .u8 s3, .int .u8 s4, .int .u8 s5], .slice aa an ac, .int .u8 pt] w fun e w' => e = .returned (.bool true) ∧ Below w.heap.size w w' := by
  have HPR : Hid (putR zk zf zr zb zc zp za zx zh zd = []) := Lib.hid (by simp [putR, hm])
  have HPE : Hid (putE zk zf zr zb zc zp za zx zh zd = 1) := Lib.hid (by simp [putE, hm])
  have HFT := Lib.hid F
  have HMAY := Lib.hid hm
  have HGL := Lib.hid hGl
  have HGK := Lib.hid hGk
  have HRB := Lib.hid hrb
  have HRA := Lib.hid hra
  have HBA := Lib.hid hba
  have HBB := Lib.hid hbb
  clear F hm hGl hGk hrb hra hba hbb
  go_enter Tryd.func5, Tryd.ntmps5
  go_upto_region 1 with fail
  try simp only [World.size_alloc]
  obtain ⟨W, hW⟩ : ∃ W, W = (w.alloc (.cells (rowM zk zf zr zb zc zp za zx zh zd) 26)).alloc (.cells #[.int .u8 s0, .int .u8 s1, .int .u8 s2, .int .u8 s3, .int .u8 s4, .int .u8 s5] 27) := ⟨_, rfl⟩
  rw [← hW]
  have HM : Hid (W.heap[w.heap.size]? = some (.cells (rowM zk zf zr zb zc zp za zx zh zd) 26 (0, 0))) := Lib.hid (by rw [hW, Below.heap_alloc _ _ _ (by simp)]; exact heap_alloc_new _ _)
  have HS : Hid (W.heap[w.heap.size + 1]? = some (.cells #[.int .u8 s0, .int .u8 s1, .int .u8 s2, .int .u8 s3, .int .u8 s4, .int .u8 s5] 27 (0, 0))) := Lib.hid (by rw [hW]; exact heap_new_at _ _ (by simp))
  have HW : Hid (Below w.heap.size w W) := Lib.hid (by rw [hW]; exact ((Below.refl _ _).alloc (Nat.le_refl _) _).alloc (by simp) _)
  have HC := Lib.hid (Below.refl W.heap.size W)
  clear hW
  go_upto_region 3 with (first
        | ((with_reducible show wpList _ _ _ (Oper.mk _ (.load 26 (.tmp 5)) _ _ _ _ :: _) _ _); go_loud (refine wpList_load_rowG rfl 26 (.tmp 5) rfl w.heap.size rfl 26 (rowM zk zf zr zb zc zp za zx zh zd) (0, 0) _ ((HC.out.block _ (lt_of_block HM.out)).trans HM.out) Tryd.underlying26 rfl (by kernel_rfl) ?_); go_frame)
        | ((with_reducible show wpList _ _ _ (Oper.mk _ (.load 27 (.tmp 7)) _ _ _ _ :: _) _ _); go_loud (refine wpList_load_rowG rfl 27 (.tmp 7) rfl (w.heap.size + 1) rfl 27 #[.int .u8 s0, .int .u8 s1, .int .u8 s2, .int .u8 s3, .int .u8 s4, .int .u8 s5] (0, 0) _ ((HC.out.block _ (lt_of_block HS.out)).trans HS.out) Tryd.underlying27 rfl (by kernel_rfl) ?_); go_frame)
        | (go_at_call 6; go_loud (refine (put_any zk zf zr zb zc zp za zx zh zd HFT.out _).mono ?_); rintro e y1 ⟨v1, rfl, hv1, hby⟩; rw [HPR.out] at hv1; rw [HPE.out]; obtain ⟨va, vc, rfl⟩ := hv1.rd.form; clear hv1; have HC := Lib.hid (HC.out.trans (hby.mono HC.out.size)); clear hby)
        | (go_at_call 18; go_loud (refine (frame_no s0 s1 s2 s3 s4 s5 zk zf zr zb zc zp za zx zh zd HFT.out _ HMAY.out).mono ?_); rintro e y2 ⟨rfl, hby⟩; have HC := Lib.hid (HC.out.trans (hby.mono HC.out.size)); clear hby)
        | ((with_reducible show wpList _ _ _ (Oper.mk _ (.alloc 33) _ _ _ _ :: _) _ _); refine wpList_allocV rfl 33 rfl _ al33 ?_; go_frame)
        | ((with_reducible show wpList _ _ _ (Oper.mk _ (.store 33 _ _) _ _ _ _ :: _) _ _); go_loud (refine wpList_store_row rfl 33 (.tmp 13) (.tmp 38) rfl _ zeros33 rfl rfl 33 zeros33 (heap_alloc_new _ _) (by kernel_rfl) rfl (oneRaw 0 0 0 0 0 0 0 0 0 0 0 0 0 0 0 0 none none none 0 0 0 0 0 0) ?_); go_frame))
  have HF := Lib.hid (setRow_heap _ _ _ zeros33 _ _ (heap_alloc_new y2 (.cells zeros33 33)))
  have HC := Lib.hid (below_setRow (HC.out.alloc HC.out.size (.cells zeros33 33)) HC.out.size zeros33)
  generalize (y2.alloc (.cells zeros33 33)).setRow y2.heap.size zeros33 = Y at *
  generalize y2.heap.size = gF at *
  have HWR := HW
  have HI0 : Hid (isB 0 0 0 0 0 0 0 0 0 0 = false) := Lib.hid (by decide)
  go_upto_region 19 with (first
        | ((with_reducible show wpList _ _ _ (Oper.mk _ (.load 33 (.tmp 13)) _ _ _ _ :: _) _ _); go_loud (refine wpList_load_rowG rfl 33 (.tmp 13) rfl gF rfl 33 zeros33 (0, 0) _ HF.out Tryd.underlying33 rfl (by kernel_rfl) ?_); go_frame)
        | (go_at_call 11; go_loud (refine (is_any _ _ _ _ _ _ _ _ _ _ _ _ _ _ _ _ _ _ _ _ _ _ _ _ (HGL.out.below (HW.out.trans (HC.out.mono HW.out.size)))).mono ?_); rintro e y3 ⟨rfl, hby⟩; rw [HI0.out]; have HC := Lib.hid (HC.out.trans (hby.mono HC.out.size)); clear hby))
  obtain ⟨m2, hmin2, hmn2, hm60⟩ : ∃ m : Nat, (if (60 : Int) < an then (60 : Int) else an) = (m : Int) ∧ m ≤ an ∧ m ≤ 60 := by
    by_cases h : (60 : Int) < an
    · exact ⟨60, by rw [if_pos h]; rfl, by omega, Nat.le_refl _⟩
    · exact ⟨an, by rw [if_neg h], Nat.le_refl _, by omega⟩
  have hlen2 := HRA.out.len
  have hma : (m2 : Int) ≤ ac := by omega
  have HR2 := Lib.hid ((HRA.out.take m2 hmn2).below HWR.out)
  have HL2 : Hid ((any.take m2).length = m2 ∧ m2 ≤ 60) := Lib.hid ⟨by simp; omega, hm60⟩
  have HB2 : Hid (∀ z ∈ any.take m2, 0 ≤ z ∧ z < 256) := Lib.hid (fun z hz => HBA.out z (List.mem_of_mem_take hz))
  clear hmn2 hm60 hlen2
  generalize any.take m2 = qs at *
  by_cases hE : getE qs = 0
  rotate_left
  · have HGV := Lib.hid (get_no hE).2
    have hcase := (get_no hE).1
    rcases hcase with h4 | h5
    · have HGE := Lib.hid h4
      clear hE h4
      go_upto_region 21 with (first
            | (go_at_call 19; go_loud (refine (get19 _ qs _ (HR2.out.below HC.out) (by have := HL2.out; omega) HB2.out).mono ?_); rintro e y4 ⟨rfl, hby⟩; rw [HGV.out, HGE.out]; have HC := Lib.hid (HC.out.trans (hby.mono HC.out.size)); clear hby)
            | ((with_reducible show wpList _ _ _ (Oper.mk _ (.alloc 26) _ _ _ _ :: _) _ _); refine wpList_allocV rfl 26 rfl _ al26 ?_; go_frame)
            | ((with_reducible show wpList _ _ _ (Oper.mk _ (.store 26 _ _) _ _ _ _ :: _) _ _); go_loud (refine wpList_store_row rfl 26 (.tmp 25) (.tmp 154) rfl _ (rowM 0 0 0 0 0 0 0 0 0 0) rfl rfl 26 (rowM 0 0 0 0 0 0 0 0 0 0) (heap_alloc_new _ _) (by kernel_rfl) rfl (one26 0 0 0 0 0 0 0 0 0 0) ?_); go_frame))
      have HT := Lib.hid (setRow_heap _ _ _ (rowM 0 0 0 0 0 0 0 0 0 0) _ _ (heap_alloc_new y4 (.cells (rowM 0 0 0 0 0 0 0 0 0 0) 26)))
      have HC := Lib.hid (below_setRow (HC.out.alloc HC.out.size (.cells (rowM 0 0 0 0 0 0 0 0 0 0) 26)) HC.out.size (rowM 0 0 0 0 0 0 0 0 0 0))
      generalize (y4.alloc (.cells (rowM 0 0 0 0 0 0 0 0 0 0) 26)).setRow y4.heap.size (rowM 0 0 0 0 0 0 0 0 0 0) = T at *
      generalize y4.heap.size = gT at *
      go_wp2_with (first
            | ((with_reducible show wpList _ _ _ (Oper.mk _ (.load 26 (.tmp 25)) _ _ _ _ :: _) _ _); go_loud (refine wpList_load_rowG rfl 26 (.tmp 25) rfl gT rfl 26 (rowM 0 0 0 0 0 0 0 0 0 0) (0, 0) _ HT.out Tryd.underlying26 rfl (by kernel_rfl) ?_); go_frame)
            | ((with_reducible show wpList _ _ _ (Oper.mk _ (.build 26 _) _ _ _ _ :: _) _ _); refine wpList_buildV rfl 26 _ rfl (rowM 0 0 0 0 0 0 0 0 0 0) (by kernel_rfl) ?_; go_frame)
            | (go_at_call 14; go_loud (refine (tells_any _).mono ?_); rintro e y5 ⟨rfl, hby⟩; have HC := Lib.hid (HC.out.trans (hby.mono HC.out.size)); clear hby))
      go_ret
      exact ⟨rfl, HWR.out.trans (HC.out.mono HWR.out.size)⟩
    · have HGE := Lib.hid h5
      clear hE h5
      go_upto_region 21 with (first
            | (go_at_call 19; go_loud (refine (get19 _ qs _ (HR2.out.below HC.out) (by have := HL2.out; omega) HB2.out).mono ?_); rintro e y4 ⟨rfl, hby⟩; rw [HGV.out, HGE.out]; have HC := Lib.hid (HC.out.trans (hby.mono HC.out.size)); clear hby)
            | ((with_reducible show wpList _ _ _ (Oper.mk _ (.alloc 26) _ _ _ _ :: _) _ _); refine wpList_allocV rfl 26 rfl _ al26 ?_; go_frame)
            | ((with_reducible show wpList _ _ _ (Oper.mk _ (.store 26 _ _) _ _ _ _ :: _) _ _); go_loud (refine wpList_store_row rfl 26 (.tmp 25) (.tmp 154) rfl _ (rowM 0 0 0 0 0 0 0 0 0 0) rfl rfl 26 (rowM 0 0 0 0 0 0 0 0 0 0) (heap_alloc_new _ _) (by kernel_rfl) rfl (one26 0 0 0 0 0 0 0 0 0 0) ?_); go_frame))
      have HT := Lib.hid (setRow_heap _ _ _ (rowM 0 0 0 0 0 0 0 0 0 0) _ _ (heap_alloc_new y4 (.cells (rowM 0 0 0 0 0 0 0 0 0 0) 26)))
      have HC := Lib.hid (below_setRow (HC.out.alloc HC.out.size (.cells (rowM 0 0 0 0 0 0 0 0 0 0) 26)) HC.out.size (rowM 0 0 0 0 0 0 0 0 0 0))
      generalize (y4.alloc (.cells (rowM 0 0 0 0 0 0 0 0 0 0) 26)).setRow y4.heap.size (rowM 0 0 0 0 0 0 0 0 0 0) = T at *
      generalize y4.heap.size = gT at *
      go_wp2_with (first
            | ((with_reducible show wpList _ _ _ (Oper.mk _ (.load 26 (.tmp 25)) _ _ _ _ :: _) _ _); go_loud (refine wpList_load_rowG rfl 26 (.tmp 25) rfl gT rfl 26 (rowM 0 0 0 0 0 0 0 0 0 0) (0, 0) _ HT.out Tryd.underlying26 rfl (by kernel_rfl) ?_); go_frame)
            | ((with_reducible show wpList _ _ _ (Oper.mk _ (.build 26 _) _ _ _ _ :: _) _ _); refine wpList_buildV rfl 26 _ rfl (rowM 0 0 0 0 0 0 0 0 0 0) (by kernel_rfl) ?_; go_frame)
            | (go_at_call 14; go_loud (refine (tells_any _).mono ?_); rintro e y5 ⟨rfl, hby⟩; have HC := Lib.hid (HC.out.trans (hby.mono HC.out.size)); clear hby))
      go_ret
      exact ⟨rfl, HWR.out.trans (HC.out.mono HWR.out.size)⟩
  · obtain ⟨vk, vf, vr, vb, vc, vp, va, vx, vh, vd, hV, hFv, hmv, hle, htk⟩ := put_get HB2.out hE
    have HGV := Lib.hid hV
    have HGE := Lib.hid hE
    have HFV := Lib.hid hFv
    have HPE2 : Hid (putE vk vf vr vb vc vp va vx vh vd = 0) := Lib.hid (by simp [putE, hmv])
    have HPR2 : Hid (putR vk vf vr vb vc vp va vx vh vd = putL vk vf vr vb vc vp va vx vh vd) := Lib.hid (by simp [putR, hmv])
    clear hE hV hFv hmv
    generalize putL vk vf vr vb vc vp va vx vh vd = Pl at *
    have HTK := Lib.hid htk
    have HLE := Lib.hid hle
    clear htk hle
    go_upto_region 21 with (first
          | (go_at_call 19; go_loud (refine (get19 _ qs _ (HR2.out.below HC.out) (by have := HL2.out; omega) HB2.out).mono ?_); rintro e y4 ⟨rfl, hby⟩; rw [HGV.out, HGE.out]; have HC := Lib.hid (HC.out.trans (hby.mono HC.out.size)); clear hby)
          | ((with_reducible show wpList _ _ _ (Oper.mk _ (.alloc 26) _ _ _ _ :: _) _ _); refine wpList_allocV rfl 26 rfl _ al26 ?_; go_frame)
          | ((with_reducible show wpList _ _ _ (Oper.mk _ (.store 26 _ _) _ _ _ _ :: _) _ _); go_loud (refine wpList_store_row rfl 26 (.tmp 25) (.tmp 154) rfl _ (rowM vk vf vr vb vc vp va vx vh vd) rfl rfl 26 (rowM 0 0 0 0 0 0 0 0 0 0) (heap_alloc_new _ _) (by kernel_rfl) rfl (one26 vk vf vr vb vc vp va vx vh vd) ?_); go_frame))
    have HT := Lib.hid (setRow_heap _ _ _ (rowM vk vf vr vb vc vp va vx vh vd) _ _ (heap_alloc_new y4 (.cells (rowM 0 0 0 0 0 0 0 0 0 0) 26)))
    have HC := Lib.hid (below_setRow (HC.out.alloc HC.out.size (.cells (rowM 0 0 0 0 0 0 0 0 0 0) 26)) HC.out.size (rowM vk vf vr vb vc vp va vx vh vd))
    generalize (y4.alloc (.cells (rowM 0 0 0 0 0 0 0 0 0 0) 26)).setRow y4.heap.size (rowM vk vf vr vb vc vp va vx vh vd) = T at *
    generalize y4.heap.size = gT at *
    go_upto_region 24 with (first
          | ((with_reducible show wpList _ _ _ (Oper.mk _ (.load 26 (.tmp 25)) _ _ _ _ :: _) _ _); go_loud (refine wpList_load_rowG rfl 26 (.tmp 25) rfl gT rfl 26 (rowM vk vf vr vb vc vp va vx vh vd) (0, 0) _ HT.out Tryd.underlying26 rfl (by kernel_rfl) ?_); go_frame)
          | (go_at_call 6; go_loud (refine (put_any vk vf vr vb vc vp va vx vh vd HFV.out _).mono ?_); rintro e y5 ⟨v5, rfl, hv5, hby⟩; rw [HPR2.out] at hv5; rw [HPE2.out]; obtain ⟨pa, pc, rfl⟩ := hv5.rd.form; have HP5 := Lib.hid hv5.rd; clear hv5; have HC := Lib.hid (HC.out.trans (hby.mono HC.out.size)); clear hby))
    have hli : (Pl.length : Int) ≤ (m2 : Int) := by have := HLE.out; have := HL2.out; omega
    have hlj : (Pl.length : Int) ≤ (ac : Int) := by omega
    have hcA : Rd y5 (.slice aa Pl.length ac) Pl := by
      have := (HR2.out.below HC.out).take Pl.length (by have := HLE.out; have := HL2.out; omega)
      rw [← HTK.out] at this
      exact this
    have hcB := HP5.out
    clear HT
    refine wp_region_held_drew (S := fun w' => Rd w' (.slice pa Pl.length pc) Pl ∧ Rd w' (.slice aa Pl.length ac) Pl) (by kernel_rfl) ⟨hcB.below (bd (n := 1) (Below.refl _ _)), hcA.below (bd (n := 1) (Below.refl _ _))⟩ (fun hHeld => ?_)
    refine wpAnyH_take (i := 0) (oi := { dst := some 177, op := Op.move (Operand.tmp 28), type := 34, pos := "outright.go:42", after := #[], guard := none }) (v := ?_) rfl (by kernel_rfl) (by kernel_rfl) (by kernel_rfl) (fun _ _ _ h => h) (Or.inl ⟨by rfl, ?_⟩) (by assumption) ?_
    rotate_left
    · intro w hSw; (try dsimp only at hSw); go_simp
      all_goals with_reducible rfl
    try simp only [Act.put, List.setIfInBounds_toArray, List.set_cons_zero, List.set_cons_succ]
    refine wpAnyH_take (i := 1) (oi := { dst := some 178, op := Op.binOp BinOp.eql 34 (Operand.tmp 177) (Operand.const (Value.int IntKind.i64 0)) 34, type := 4, pos := "outright.go:42", after := #[{ on := 0, ground := Ground.data }], guard := none }) (v := ?_) rfl (by kernel_rfl) (by kernel_rfl) (by kernel_rfl) (fun _ _ _ h => h) (Or.inl ⟨by rfl, ?_⟩) (by assumption) ?_
    rotate_left
    · intro w hSw; (try dsimp only at hSw); go_simp
      all_goals with_reducible rfl
    try simp only [Act.put, List.setIfInBounds_toArray, List.set_cons_zero, List.set_cons_succ]
    refine wpAnyH_take (i := 2) (oi := { dst := some 179, op := Op.move (Operand.tmp 178), type := 4, pos := "outright.go:42", after := #[{ on := 1, ground := Ground.data }], guard := none }) (v := ?_) rfl (by kernel_rfl) (by kernel_rfl) (by kernel_rfl) (fun _ _ _ h => h) (Or.inl ⟨by rfl, ?_⟩) (by assumption) ?_
    rotate_left
    · intro w hSw; (try dsimp only at hSw); go_simp
      all_goals with_reducible rfl
    try simp only [Act.put, List.setIfInBounds_toArray, List.set_cons_zero, List.set_cons_succ]
    refine wpAnyH_take (i := 3) (oi := { dst := some 180, op := Op.move (Operand.tmp 27), type := 31, pos := "outright.go:42", after := #[{ on := 2, ground := Ground.guard }], guard := some (2, true) }) (v := ?_) rfl (by kernel_rfl) (by kernel_rfl) (by kernel_rfl) (fun _ _ _ h => h) (Or.inl ⟨by rfl, ?_⟩) (by assumption) ?_
    rotate_left
    · intro w hSw; (try dsimp only at hSw); go_simp
      all_goals with_reducible rfl
    try simp only [Act.put, List.setIfInBounds_toArray, List.set_cons_zero, List.set_cons_succ]
    refine wpAnyH_take (i := 4) (oi := { dst := some 181, op := Op.call { callee := Callee.builtin Builtin.len, args := #[Operand.tmp 180], argTypes := #[31] }, type := 3, pos := "outright.go:42", after := #[{ on := 3, ground := Ground.data }, { on := 2, ground := Ground.guard }], guard := some (2, true) }) (v := ?_) rfl (by kernel_rfl) (by kernel_rfl) (by kernel_rfl) (fun _ _ _ h => h) (Or.inl ⟨by rfl, ?_⟩) (by assumption) ?_
    rotate_left
    · intro w hSw; (try dsimp only at hSw); go_simp
      all_goals with_reducible rfl
    try simp only [Act.put, List.setIfInBounds_toArray, List.set_cons_zero, List.set_cons_succ]
    refine wpAnyH_take (i := 5) (oi := { dst := some 182, op := Op.move (Operand.tmp 3), type := 31, pos := "outright.go:42", after := #[{ on := 2, ground := Ground.guard }], guard := some (2, true) }) (v := ?_) rfl (by kernel_rfl) (by kernel_rfl) (by kernel_rfl) (fun _ _ _ h => h) (Or.inl ⟨by rfl, ?_⟩) (by assumption) ?_
    rotate_left
    · intro w hSw; (try dsimp only at hSw); go_simp
      all_goals with_reducible rfl
    try simp only [Act.put, List.setIfInBounds_toArray, List.set_cons_zero, List.set_cons_succ]
    refine wpAnyH_take (i := 6) (oi := { dst := some 183, op := Op.call { callee := Callee.builtin Builtin.len, args := #[Operand.tmp 182], argTypes := #[31] }, type := 3, pos := "outright.go:42", after := #[{ on := 5, ground := Ground.data }, { on := 2, ground := Ground.guard }], guard := some (2, true) }) (v := ?_) rfl (by kernel_rfl) (by kernel_rfl) (by kernel_rfl) (fun _ _ _ h => h) (Or.inl ⟨by rfl, ?_⟩) (by assumption) ?_
    rotate_left
    · intro w hSw; (try dsimp only at hSw); go_simp
      all_goals with_reducible rfl
    try simp only [Act.put, List.setIfInBounds_toArray, List.set_cons_zero, List.set_cons_succ]
    refine wpAnyH_take (i := 7) (oi := { dst := some 184, op := Op.binOp BinOp.leq 3 (Operand.tmp 181) (Operand.tmp 183) 3, type := 4, pos := "outright.go:42", after := #[{ on := 4, ground := Ground.data }, { on := 6, ground := Ground.data }, { on := 2, ground := Ground.guard }], guard := some (2, true) }) (v := ?_) rfl (by kernel_rfl) (by kernel_rfl) (by kernel_rfl) (fun _ _ _ h => h) (Or.inl ⟨by rfl, ?_⟩) (by assumption) ?_
    rotate_left
    · intro w hSw; (try dsimp only at hSw); go_simp
      all_goals with_reducible rfl
    try simp only [Act.put, List.setIfInBounds_toArray, List.set_cons_zero, List.set_cons_succ]
    refine wpAnyH_take (i := 8) (oi := { dst := some 185, op := Op.pick (Operand.tmp 179) (Operand.tmp 184) (Operand.const (Value.bool false)), type := 4, pos := "outright.go:42", after := #[{ on := 2, ground := Ground.data }, { on := 7, ground := Ground.data }], guard := none }) (v := ?_) rfl (by kernel_rfl) (by kernel_rfl) (by kernel_rfl) (fun _ _ _ h => h) (Or.inl ⟨by rfl, ?_⟩) (by assumption) ?_
    rotate_left
    · intro w hSw; (try dsimp only at hSw); go_simp
      all_goals with_reducible rfl
    try simp only [Act.put, List.setIfInBounds_toArray, List.set_cons_zero, List.set_cons_succ]
    refine wpAnyH_take (i := 9) (oi := { dst := some 186, op := Op.move (Operand.tmp 185), type := 4, pos := "outright.go:42", after := #[{ on := 8, ground := Ground.data }, { on := 2, ground := Ground.chain }], guard := none }) (v := ?_) rfl (by kernel_rfl) (by kernel_rfl) (by kernel_rfl) (fun _ _ _ h => h) (Or.inl ⟨by rfl, ?_⟩) (by assumption) ?_
    rotate_left
    · intro w hSw; (try dsimp only at hSw); go_simp
      all_goals with_reducible rfl
    try simp only [Act.put, List.setIfInBounds_toArray, List.set_cons_zero, List.set_cons_succ]
    refine wpAnyH_take (i := 10) (oi := { dst := some 187, op := Op.move (Operand.tmp 27), type := 31, pos := "outright.go:42", after := #[{ on := 9, ground := Ground.guard }], guard := some (9, true) }) (v := ?_) rfl (by kernel_rfl) (by kernel_rfl) (by kernel_rfl) (fun _ _ _ h => h) (Or.inl ⟨by rfl, ?_⟩) (by assumption) ?_
    rotate_left
    · intro w hSw; (try dsimp only at hSw); go_simp
      all_goals with_reducible rfl
    try simp only [Act.put, List.setIfInBounds_toArray, List.set_cons_zero, List.set_cons_succ]
    refine wpAnyH_take (i := 11) (oi := { dst := some 188, op := Op.convert 31 9 (Operand.tmp 187), type := 9, pos := "outright.go:42", after := #[{ on := 10, ground := Ground.data }, { on := 9, ground := Ground.guard }], guard := some (9, true) }) (v := ?_) rfl (by kernel_rfl) (by kernel_rfl) (by kernel_rfl) (fun _ _ _ h => h) (Or.inl ⟨by rfl, ?_⟩) (by assumption) ?_
    rotate_left
    · intro w hSw; have hcv := conv_rd hSw.1; go_simp
      all_goals with_reducible rfl
    try simp only [Act.put, List.setIfInBounds_toArray, List.set_cons_zero, List.set_cons_succ]
    refine wpAnyH_take (i := 12) (oi := { dst := some 189, op := Op.move (Operand.tmp 3), type := 31, pos := "outright.go:42", after := #[{ on := 9, ground := Ground.guard }], guard := some (9, true) }) (v := ?_) rfl (by kernel_rfl) (by kernel_rfl) (by kernel_rfl) (fun _ _ _ h => h) (Or.inl ⟨by rfl, ?_⟩) (by assumption) ?_
    rotate_left
    · intro w hSw; (try dsimp only at hSw); go_simp
      all_goals with_reducible rfl
    try simp only [Act.put, List.setIfInBounds_toArray, List.set_cons_zero, List.set_cons_succ]
    refine wpAnyH_take (i := 13) (oi := { dst := some 190, op := Op.move (Operand.tmp 27), type := 31, pos := "outright.go:42", after := #[{ on := 9, ground := Ground.guard }], guard := some (9, true) }) (v := ?_) rfl (by kernel_rfl) (by kernel_rfl) (by kernel_rfl) (fun _ _ _ h => h) (Or.inl ⟨by rfl, ?_⟩) (by assumption) ?_
    rotate_left
    · intro w hSw; (try dsimp only at hSw); go_simp
      all_goals with_reducible rfl
    try simp only [Act.put, List.setIfInBounds_toArray, List.set_cons_zero, List.set_cons_succ]
    refine wpAnyH_take (i := 14) (oi := { dst := some 191, op := Op.call { callee := Callee.builtin Builtin.len, args := #[Operand.tmp 190], argTypes := #[31] }, type := 3, pos := "outright.go:42", after := #[{ on := 13, ground := Ground.data }, { on := 9, ground := Ground.guard }], guard := some (9, true) }) (v := ?_) rfl (by kernel_rfl) (by kernel_rfl) (by kernel_rfl) (fun _ _ _ h => h) (Or.inl ⟨by rfl, ?_⟩) (by assumption) ?_
    rotate_left
    · intro w hSw; (try dsimp only at hSw); go_simp
      all_goals with_reducible rfl
    try simp only [Act.put, List.setIfInBounds_toArray, List.set_cons_zero, List.set_cons_succ]
    refine wpAnyH_take (i := 15) (oi := { dst := some 192, op := Op.slice 31 (Operand.tmp 189) none (some (Operand.tmp 191)) none, type := 31, pos := "outright.go:42", after := #[{ on := 12, ground := Ground.data }, { on := 14, ground := Ground.data }, { on := 9, ground := Ground.guard }], guard := some (9, true) }) (v := ?_) rfl (by kernel_rfl) (by kernel_rfl) (by kernel_rfl) (fun _ _ _ h => h) (Or.inl ⟨by rfl, ?_⟩) (by assumption) ?_
    rotate_left
    · intro w hSw; (try dsimp only at hSw); go_simp
      all_goals with_reducible rfl
    try simp only [Act.put, List.setIfInBounds_toArray, List.set_cons_zero, List.set_cons_succ]
    refine wpAnyH_take (i := 16) (oi := { dst := some 193, op := Op.convert 31 9 (Operand.tmp 192), type := 9, pos := "outright.go:42", after := #[{ on := 15, ground := Ground.data }, { on := 9, ground := Ground.guard }], guard := some (9, true) }) (v := ?_) rfl (by kernel_rfl) (by kernel_rfl) (by kernel_rfl) (fun _ _ _ h => h) (Or.inl ⟨by rfl, ?_⟩) (by assumption) ?_
    rotate_left
    · intro w hSw; have hcv := conv_rd hSw.2; go_simp
      all_goals with_reducible rfl
    try simp only [Act.put, List.setIfInBounds_toArray, List.set_cons_zero, List.set_cons_succ]
    refine wpAnyH_take (i := 17) (oi := { dst := some 194, op := Op.binOp BinOp.eql 9 (Operand.tmp 188) (Operand.tmp 193) 9, type := 4, pos := "outright.go:42", after := #[{ on := 11, ground := Ground.data }, { on := 16, ground := Ground.data }, { on := 9, ground := Ground.guard }], guard := some (9, true) }) (v := ?_) rfl (by kernel_rfl) (by kernel_rfl) (by kernel_rfl) (fun _ _ _ h => h) (Or.inl ⟨by rfl, ?_⟩) (by assumption) ?_
    rotate_left
    · intro w hSw; (try dsimp only at hSw); go_simp
      all_goals with_reducible rfl
    try simp only [Act.put, List.setIfInBounds_toArray, List.set_cons_zero, List.set_cons_succ]
    refine wpAnyH_take (i := 18) (oi := { dst := some 195, op := Op.pick (Operand.tmp 186) (Operand.tmp 194) (Operand.const (Value.bool false)), type := 4, pos := "outright.go:42", after := #[{ on := 9, ground := Ground.data }, { on := 17, ground := Ground.data }], guard := none }) (v := ?_) rfl (by kernel_rfl) (by kernel_rfl) (by kernel_rfl) (fun _ _ _ h => h) (Or.inl ⟨by rfl, ?_⟩) (by assumption) ?_
    rotate_left
    · intro w hSw; (try dsimp only at hSw); go_simp
      all_goals with_reducible rfl
    try simp only [Act.put, List.setIfInBounds_toArray, List.set_cons_zero, List.set_cons_succ]
    refine wpAnyH_take (i := 19) (oi := { dst := some 196, op := Op.move (Operand.tmp 195), type := 4, pos := "outright.go:42", after := #[{ on := 18, ground := Ground.data }, { on := 9, ground := Ground.chain }], guard := none }) (v := ?_) rfl (by kernel_rfl) (by kernel_rfl) (by kernel_rfl) (fun _ _ _ h => h) (Or.inl ⟨by rfl, ?_⟩) (by assumption) ?_
    rotate_left
    · intro w hSw; (try dsimp only at hSw); go_simp
      all_goals with_reducible rfl
    try simp only [Act.put, List.setIfInBounds_toArray, List.set_cons_zero, List.set_cons_succ]
    refine wpAnyH_ready (rs := [20]) (by kernel_rfl) (by simp) ?_
    refine AllReadyH.cons (o := { dst := some 197, op := Op.call { callee := Callee.value (Operand.func 14), args := #[], argTypes := #[] }, type := 4, pos := "outright.go:42", after := #[{ on := 19, ground := Ground.chain }, { on := 19, ground := Ground.guard }], guard := some (19, true) }) rfl (fun K hK => ?_) AllReadyH.nil
    go_simp
    refine (tells_any _).mono ?_
    rintro e y6 ⟨rfl, hby⟩
    dsimp only
    refine hK.out _ _ ⟨hHeld.1.below hby, hHeld.2.below hby⟩ (fun hHeldB => ?_)
    clear hK K
    try simp only [Act.put, List.setIfInBounds_toArray, List.set_cons_zero, List.set_cons_succ]
    refine wpAnyH_take (i := 21) (oi := { dst := some 198, op := Op.pick (Operand.tmp 196) (Operand.tmp 197) (Operand.const (Value.bool false)), type := 4, pos := "outright.go:42", after := #[{ on := 19, ground := Ground.data }, { on := 20, ground := Ground.data }], guard := none }) (v := ?_) rfl (by kernel_rfl) (by kernel_rfl) (by kernel_rfl) (fun _ _ _ h => h) (Or.inl ⟨by rfl, ?_⟩) (by assumption) ?_
    rotate_left
    · intro w hSw; (try dsimp only at hSw); go_simp
      all_goals with_reducible rfl
    try simp only [Act.put, List.setIfInBounds_toArray, List.set_cons_zero, List.set_cons_succ]
    refine wpAnyH_take (i := 22) (oi := { dst := some 10, op := Op.assign (Operand.tmp 198), type := 4, pos := "outright.go:42", after := #[{ on := 21, ground := Ground.data }, { on := 20, ground := Ground.chain }, { on := 0, ground := Ground.phase }, { on := 1, ground := Ground.phase }, { on := 2, ground := Ground.phase }, { on := 3, ground := Ground.phase }, { on := 4, ground := Ground.phase }, { on := 5, ground := Ground.phase }, { on := 6, ground := Ground.phase }, { on := 7, ground := Ground.phase }, { on := 8, ground := Ground.phase }, { on := 9, ground := Ground.phase }, { on := 10, ground := Ground.phase }, { on := 11, ground := Ground.phase }, { on := 12, ground := Ground.phase }, { on := 13, ground := Ground.phase }, { on := 14, ground := Ground.phase }, { on := 15, ground := Ground.phase }, { on := 16, ground := Ground.phase }, { on := 17, ground := Ground.phase }, { on := 18, ground := Ground.phase }, { on := 19, ground := Ground.phase }, { on := 20, ground := Ground.phase }, { on := 21, ground := Ground.phase }], guard := none }) (v := ?_) rfl (by kernel_rfl) (by kernel_rfl) (by kernel_rfl) (fun _ _ _ h => h) (Or.inl ⟨by rfl, ?_⟩) (by assumption) ?_
    rotate_left
    · intro w hSw; (try dsimp only at hSw); go_simp
      all_goals with_reducible rfl
    try simp only [Act.put, List.setIfInBounds_toArray, List.set_cons_zero, List.set_cons_succ]
    refine wpAnyH_done (by kernel_rfl) ?_ _
    have HC := Lib.hid ((bd (n := 1) HC.out).trans (hby.mono (show W.heap.size ≤ _ from HC.out.size)))
    clear hby hHeld hHeldB
    go_wp2_with fail
    go_ret
    exact ⟨rfl, HWR.out.trans (HC.out.mono HWR.out.size)⟩
end Go.Proofs.YtcahlponmbnkcaaDoor
