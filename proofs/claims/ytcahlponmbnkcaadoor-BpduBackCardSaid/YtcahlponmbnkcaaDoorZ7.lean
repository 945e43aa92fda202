/- BPDU: back: a message -/
import Derived.Test.YtcahlponmbnkcaaDoorZ5
namespace Go.Proofs.YtcahlponmbnkcaaDoor
open Go Go.RowKit

set_option maxRecDepth 100000 in
set_option maxHeartbeats 4000000 in
theorem back_ok (zk zf zr zb zc zp za zx zh zd : Int) (F : Fits zf zr zb zc zp za zx zh zd) (hm : mayB zk zf zr zb zc zp za zx zh zd = true) (ba : Option Addr) (n bc : Nat) (beh : List Int) (s0 s1 s2 s3 s4 s5 : Int) (aa : Option Addr) (an ac : Nat) (any : List Int) (pt : Int) (w : World) (hGl : Gl w) (hGk : Gk w) (hrb : Rd w (.slice ba n bc) beh) (hra : Rd w (.slice aa an ac) any) (hba : ∀ z ∈ any, 0 ≤ z ∧ z < 256) (hbb : ∀ z ∈ beh, 0 ≤ z ∧ z < 256) (hp0 : 0 ≤ pt) (hp1 : pt < 256) :
    Calls Tryd.prog 5 #[msgV zk zf zr zb zc zp za zx zh zd, .slice ba n bc, .agg #[.int .u8 s0, .int .u8 s1, .int .u8 s2, .int .u8 s3, .int .u8 s4, .int .u8 s5], .slice aa an ac, .int .u8 pt] w fun e w' => e = .returned (.bool true) ∧ Below w.heap.size w w' := by
  obtain ⟨Lst, hLst⟩ : ∃ l, putL zk zf zr zb zc zp za zx zh zd = l := ⟨_, rfl⟩
  have hkd := mayB_kind hm
  have HGP : Hid (∀ t, getE (Lst ++ t) = 0 ∧ getV (Lst ++ t) = msgV zk zf zr zb zc zp za zx zh zd) := Lib.hid (fun t => by rw [← hLst]; exact get_put F hm t)
  have HGC : Hid (∀ j, j < Lst.length → getE (Lst.take j) = 4) := Lib.hid (fun j hj => by rw [← hLst] at hj ⊢; exact get_cut hkd j hj)
  have HLN : Hid (4 ≤ Lst.length ∧ Lst.length ≤ 36) := Lib.hid (by
    rw [← hLst, putL_len hkd]
    unfold sizeI
    split
    · omega
    · split <;> omega)
  have HLB : Hid (∀ z ∈ Lst, 0 ≤ z ∧ z < 256) := Lib.hid (by rw [← hLst]; exact putL_range hkd)
  have HPL := Lib.hid hLst
  clear hkd
  have HPR : Hid (putR zk zf zr zb zc zp za zx zh zd = Lst) := Lib.hid (by simp [putR, hm, hLst])
  have HPE : Hid (putE zk zf zr zb zc zp za zx zh zd = 0) := Lib.hid (by simp [putE, hm])
  have HFT := Lib.hid F
  have HMAY := Lib.hid hm
  have HGL := Lib.hid hGl
  have HGK := Lib.hid hGk
  have HRB := Lib.hid hrb
  have HRA := Lib.hid hra
  have HBA := Lib.hid hba
  have HBB := Lib.hid hbb
  clear F hm hGl hGk hrb hra hba hbb
  go_enter Tryd.func5, Tryd.ntmps5
  go_upto_region 1 with fail
  try simp only [World.size_alloc]
  obtain ⟨W, hW⟩ : ∃ W, W = (w.alloc (.cells (rowM zk zf zr zb zc zp za zx zh zd) 26)).alloc (.cells #[.int .u8 s0, .int .u8 s1, .int .u8 s2, .int .u8 s3, .int .u8 s4, .int .u8 s5] 27) := ⟨_, rfl⟩
  rw [← hW]
  have HM : Hid (W.heap[w.heap.size]? = some (.cells (rowM zk zf zr zb zc zp za zx zh zd) 26 (0, 0))) := Lib.hid (by rw [hW, Below.heap_alloc _ _ _ (by simp)]; exact heap_alloc_new _ _)
  have HS : Hid (W.heap[w.heap.size + 1]? = some (.cells #[.int .u8 s0, .int .u8 s1, .int .u8 s2, .int .u8 s3, .int .u8 s4, .int .u8 s5] 27 (0, 0))) := Lib.hid (by rw [hW]; exact heap_new_at _ _ (by simp))
  have HW : Hid (Below w.heap.size w W) := Lib.hid (by rw [hW]; exact ((Below.refl _ _).alloc (Nat.le_refl _) _).alloc (by simp) _)
  have HC := Lib.hid (Below.refl W.heap.size W)
  clear hW
  clear hLst
  go_upto_region 6 with (first
        | ((with_reducible show wpList _ _ _ (Oper.mk _ (.load 26 (.tmp 5)) _ _ _ _ :: _) _ _); go_loud (refine wpList_load_rowG rfl 26 (.tmp 5) rfl w.heap.size rfl 26 (rowM zk zf zr zb zc zp za zx zh zd) (0, 0) _ ((HC.out.block _ (lt_of_block HM.out)).trans HM.out) Tryd.underlying26 rfl (by kernel_rfl) ?_); go_frame)
        | ((with_reducible show wpList _ _ _ (Oper.mk _ (.load 27 (.tmp 7)) _ _ _ _ :: _) _ _); go_loud (refine wpList_load_rowG rfl 27 (.tmp 7) rfl (w.heap.size + 1) rfl 27 #[.int .u8 s0, .int .u8 s1, .int .u8 s2, .int .u8 s3, .int .u8 s4, .int .u8 s5] (0, 0) _ ((HC.out.block _ (lt_of_block HS.out)).trans HS.out) Tryd.underlying27 rfl (by kernel_rfl) ?_); go_frame)
        | (go_at_call 6; go_loud (refine (put_any zk zf zr zb zc zp za zx zh zd HFT.out _).mono ?_); rintro e y1 ⟨v1, rfl, hv1, hby⟩; rw [HPR.out] at hv1; rw [HPE.out]; obtain ⟨va, vc, rfl⟩ := hv1.rd.form; have HV := Lib.hid hv1.rd; clear hv1; have HC := Lib.hid (HC.out.trans (hby.mono HC.out.size)); clear hby)
        | (go_at_call 18; go_loud (refine (frame_ok s0 s1 s2 s3 s4 s5 zk zf zr zb zc zp za zx zh zd HFT.out _ (HGL.out.below (HW.out.trans (HC.out.mono HW.out.size))) HMAY.out).mono ?_); rintro e y2 ⟨v2, rfl, hv2, hby⟩; rw [HPL.out] at hv2; obtain ⟨fa, fc, rfl⟩ := hv2.rd.form; have HV := Lib.hid (HV.out.below hby); have HV2 := Lib.hid hv2.rd; clear hv2; have HC := Lib.hid (HC.out.trans (hby.mono HC.out.size)); clear hby)
        | ((with_reducible show wpList _ _ _ (Oper.mk _ (.alloc 33) _ _ _ _ :: _) _ _); refine wpList_allocV rfl 33 rfl _ al33 ?_; go_frame)
        | ((with_reducible show wpList _ _ _ (Oper.mk _ (.store 33 _ _) _ _ _ _ :: _) _ _); go_loud (refine wpList_store_row rfl 33 (.tmp 13) (.tmp 38) rfl _ (rawF 1 128 194 0 0 0 s0 s1 s2 s3 s4 s5 (.slice none 0 0) 2 66 66 3 (.slice fa Lst.length fc) (.slice none 0 0)) rfl rfl 33 zeros33 (heap_alloc_new _ _) (by kernel_rfl) rfl (oneRaw 1 128 194 0 0 0 s0 s1 s2 s3 s4 s5 2 66 66 3 none fa none 0 0 Lst.length fc 0 0) ?_); go_frame))
  have HF := Lib.hid (setRow_heap _ _ _ (rawF 1 128 194 0 0 0 s0 s1 s2 s3 s4 s5 (.slice none 0 0) 2 66 66 3 (.slice fa Lst.length fc) (.slice none 0 0)) _ _ (heap_alloc_new y2 (.cells zeros33 33)))
  have hYB : Below y2.heap.size y2 ((y2.alloc (.cells zeros33 33)).setRow y2.heap.size (rawF 1 128 194 0 0 0 s0 s1 s2 s3 s4 s5 (.slice none 0 0) 2 66 66 3 (.slice fa Lst.length fc) (.slice none 0 0))) := below_setRow ((Below.refl _ _).alloc (Nat.le_refl _) _) (Nat.le_refl _) _
  have HV := Lib.hid (HV.out.below hYB)
  have HV2 := Lib.hid (HV2.out.below hYB)
  have hCY := HC.out.trans (hYB.mono HC.out.size)
  have HM := Lib.hid ((hCY.block _ (lt_of_block HM.out)).trans HM.out)
  have HS := Lib.hid ((hCY.block _ (lt_of_block HS.out)).trans HS.out)
  have HWR := Lib.hid (HW.out.trans (hCY.mono HW.out.size))
  clear hYB hCY HC HW
  generalize (y2.alloc (.cells zeros33 33)).setRow y2.heap.size (rawF 1 128 194 0 0 0 s0 s1 s2 s3 s4 s5 (.slice none 0 0) 2 66 66 3 (.slice fa Lst.length fc) (.slice none 0 0)) = Y at *
  generalize y2.heap.size = gF at *
  obtain ⟨m1, hmin1, hmn1, hm20⟩ : ∃ m : Nat, (if (20 : Int) < n then (20 : Int) else n) = (m : Int) ∧ m ≤ n ∧ m ≤ 20 := by
    by_cases h : (20 : Int) < n
    · exact ⟨20, by rw [if_pos h]; rfl, by omega, Nat.le_refl _⟩
    · exact ⟨n, by rw [if_neg h], Nat.le_refl _, by omega⟩
  have hlen1 := HRB.out.len
  have hmb1 : (m1 : Int) ≤ bc := by omega
  have HR1 := Lib.hid ((HRB.out.take m1 hmn1).below HWR.out)
  have HL1 : Hid ((beh.take m1).length ≤ 20) := Lib.hid (by simp; omega)
  have HB1 : Hid (∀ z ∈ beh.take m1, 0 ≤ z ∧ z < 256) := Lib.hid (fun z hz => HBB.out z (List.mem_of_mem_take hz))
  clear hmn1 hm20 hlen1
  generalize beh.take m1 = bt at *
  refine Code.wp_mono (Q := fun e a' w' => ∃ (gm : Nat) (v29 v30 v31 v32 v33 v34 v35 v36 v37 v38 v39 v40 v41 v42 v43 v44 v45 v46 v47 v48 v49 v50 v51 v52 v53 v54 v55 v56 : Value), e = .normal ∧ a' = { tmps := #[.agg (rowM zk zf zr zb zc zp za zx zh zd), .slice ba n bc, .agg #[.int .u8 s0, .int .u8 s1, .int .u8 s2, .int .u8 s3, .int .u8 s4, .int .u8 s5], .slice aa an ac, .int .u8 pt, .pointer (some ⟨w.heap.size, 0, none⟩), undef, .pointer (some ⟨w.heap.size + 1, 0, none⟩), undef, undef, .bool false, .slice va Lst.length vc, .int .i64 0, .pointer (some ⟨gF, 0, none⟩), .int .i64 0, .pointer (some ⟨gm, 0, none⟩), .int .i64 0, undef, undef, undef, undef, undef, undef, undef, undef, undef, undef, undef, undef, v29, v30, v31, v32, v33, v34, v35, v36, v37, v38, v39, v40, v41, v42, v43, v44, v45, v46, v47, v48, v49, v50, v51, v52, v53, v54, v55, v56, undef, undef, undef, undef, undef, undef, undef, undef, undef, undef, undef, undef, undef, undef, undef, undef, undef, undef, undef, undef, undef, undef, undef, undef, undef, undef, undef, undef, undef, undef, undef, undef, undef, undef, undef, undef, undef, undef, undef, undef, undef, undef, undef, undef, undef, undef, undef, undef, undef, undef, undef, undef, undef, undef, undef, undef, undef, undef, undef, undef, undef, undef, undef, undef, undef, undef, undef, undef, undef, undef, undef, undef, undef, undef, undef, undef, undef, undef, undef, undef, undef, undef, undef, undef, undef, undef, undef, undef, undef, undef, undef, undef, undef, undef, undef, undef, undef, undef, undef, undef, undef, undef, undef, undef, undef, undef, undef, undef, undef, undef, undef, undef, undef, undef, undef, undef, undef, undef, undef, undef, undef, undef, undef, undef, undef, undef, undef, undef, undef, undef, undef, undef, undef, undef, undef, undef, undef, undef, undef, undef, undef, undef], defers := [] } ∧ w'.heap[gm]? = some (.cells (rowM zk zf zr zb zc zp za zx zh zd) 26 (0, 0)) ∧ Below Y.heap.size Y w') ?_ ?_
  · rintro e a' Z ⟨gm, v29, v30, v31, v32, v33, v34, v35, v36, v37, v38, v39, v40, v41, v42, v43, v44, v45, v46, v47, v48, v49, v50, v51, v52, v53, v54, v55, v56, rfl, rfl, hgm, hbZ⟩
    have HC := Lib.hid hbZ
    have HG := Lib.hid hgm
    clear hgm hbZ
    generalize hll : Lst.length = ll at *
    have HLL := Lib.hid hll
    clear hll
    have hl0 : ¬ (ll : Int) = 0 := by have := HLN.out; omega
    have hl1 : ((ll : Int) == 0) = false := beq_false_of_ne hl0
    go_upto_region 9 with (first
          | ((with_reducible show wpList _ _ _ (Oper.mk _ (.load 26 (.tmp 15)) _ _ _ _ :: _) _ _); go_loud (refine wpList_load_rowG rfl 26 (.tmp 15) rfl gm rfl 26 (rowM zk zf zr zb zc zp za zx zh zd) (0, 0) _ HG.out Tryd.underlying26 rfl (by kernel_rfl) ?_); go_frame)
          | ((with_reducible show wpList _ _ _ (Oper.mk _ (.load 26 (.tmp 5)) _ _ _ _ :: _) _ _); go_loud (refine wpList_load_rowG rfl 26 (.tmp 5) rfl w.heap.size rfl 26 (rowM zk zf zr zb zc zp za zx zh zd) (0, 0) _ ((HC.out.block _ (lt_of_block HM.out)).trans HM.out) Tryd.underlying26 rfl (by kernel_rfl) ?_); go_frame))
    obtain ⟨c, hc, hcl⟩ : ∃ c : Nat, pt.tmod (ll : Int) = (c : Int) ∧ c < ll := by
      have h4 := HLN.out
      have h1 := Int.emod_nonneg pt (b := (ll : Int)) (by omega)
      have h2 := Int.emod_lt_of_pos pt (b := (ll : Int)) (by omega)
      exact ⟨(pt.tmod (ll : Int)).toNat, by rw [Int.tmod_eq_emod_of_nonneg hp0]; omega, by rw [Int.tmod_eq_emod_of_nonneg hp0]; omega⟩
    have hcv : (c : Int) ≤ vc := by have := HV.out.len; omega
    have hwpt : IntKind.i64.wrap pt = pt := by rw [IntKind.wrap_i64]; omega
    have HGEc : Hid (getE (Lst.take c) = 4) := Lib.hid (HGC.out c hcl)
    have HGVc : Hid (getV (Lst.take c) = msgV 0 0 0 0 0 0 0 0 0 0) := Lib.hid (get_no (by rw [HGEc.out]; decide)).2
    have HVc := Lib.hid (HV.out.take c (Nat.le_of_lt hcl))
    have HCL := Lib.hid hcl
    clear hcl HG
    go_upto_region 10 with (first
          | (go_at_call 19; go_loud (refine (get19 _ (Lst.take c) _ (HVc.out.below HC.out) (by have := HLN.out; have := HLL.out; simp; omega) (fun z hz => HLB.out z (List.mem_of_mem_take hz))).mono ?_); rintro e y7 ⟨rfl, hby⟩; rw [HGVc.out, HGEc.out]; have HC := Lib.hid (HC.out.trans (hby.mono HC.out.size)); clear hby)
          | ((with_reducible show wpList _ _ _ (Oper.mk _ (.alloc 26) _ _ _ _ :: _) _ _); refine wpList_allocV rfl 26 rfl _ al26 ?_; go_frame)
          | ((with_reducible show wpList _ _ _ (Oper.mk _ (.store 26 _ _) _ _ _ _ :: _) _ _); go_loud (refine wpList_store_row rfl 26 (.tmp 17) (.tmp 78) rfl _ (rowM 0 0 0 0 0 0 0 0 0 0) rfl rfl 26 (rowM 0 0 0 0 0 0 0 0 0 0) (heap_alloc_new _ _) (by kernel_rfl) rfl (one26 0 0 0 0 0 0 0 0 0 0) ?_); go_frame))
    have HC := Lib.hid (below_setRow (HC.out.alloc HC.out.size (.cells (rowM 0 0 0 0 0 0 0 0 0 0) 26)) HC.out.size (rowM 0 0 0 0 0 0 0 0 0 0))
    generalize (y7.alloc (.cells (rowM 0 0 0 0 0 0 0 0 0 0) 26)).setRow y7.heap.size (rowM 0 0 0 0 0 0 0 0 0 0) = T at *
    have HLP : Hid (Lst.length ≤ 1000 ∧ 0 ≤ (Lst.length + 3 : Int) / 256 ∧ (Lst.length + 3 : Int) / 256 < 256 ∧ 0 ≤ (Lst.length + 3 : Int) % 256 ∧ (Lst.length + 3 : Int) % 256 < 256 ∧ (Lst.length + 3 : Int) / 256 * 256 + (Lst.length + 3 : Int) % 256 ≤ 1500) := Lib.hid (by have := HLN.out; have := HLL.out; omega)
    go_upto_region 14 with (first
          | ((with_reducible show wpList _ _ _ (Oper.mk _ (.load 33 (.tmp 13)) _ _ _ _ :: _) _ _); go_loud (refine wpList_load_rowG rfl 33 (.tmp 13) rfl gF rfl 33 (rawF 1 128 194 0 0 0 s0 s1 s2 s3 s4 s5 (.slice none 0 0) 2 66 66 3 (.slice fa ll fc) (.slice none 0 0)) (0, 0) _ ((HC.out.block _ (lt_of_block HF.out)).trans HF.out) Tryd.underlying33 rfl (by kernel_rfl) ?_); go_frame)
          | (go_at_call 16; go_loud (refine (eput_any 1 128 194 0 0 0 s0 s1 s2 s3 s4 s5 66 66 3 none 0 0 (.slice fa ll fc) [] Lst _ (HGK.out.below (HWR.out.trans (HC.out.mono HWR.out.size))) (HV2.out.below HC.out) HLP.out.1 (by decide) (by simp) (fun W' _ => (tagsMay_nil W').mono (by rintro e' w' ⟨rfl, rfl⟩; exact ⟨rfl, Below.refl _ _⟩)) (fun W' _ => tbytes_nil W')).mono ?_); rintro e y8 ⟨v6, rfl, hv6, hby⟩; obtain ⟨b6, o6, c6, rfl, hlt6⟩ := Rd.cons hv6; have HV6 := Lib.hid hv6; clear hv6; have HC := Lib.hid (HC.out.trans (hby.mono HC.out.size)); clear hby)
          | (go_at_call 17; go_loud (refine (get_any b6 o6 c6 _ 1 128 194 0 0 0 s0 s1 s2 s3 s4 s5 66 66 3 [] Lst 0 y8 (HGK.out.below (HWR.out.trans (HC.out.mono HWR.out.size))) (HGK.out.below (HWR.out.trans (HC.out.mono HWR.out.size))).lt HV6.out HLP.out.1 (by simp) (by decide) (fun W' o c' m' h h2 => (read_none b6 o c' m' _ _ (66 :: 66 :: 3 :: Lst) W' ((HGK.out.below (HWR.out.trans (HC.out.mono HWR.out.size))).below h) h2 h2.split.1 (by have := HLP.out.1; simp; omega) HLP.out.2.1 HLP.out.2.2.1 HLP.out.2.2.2.1 HLP.out.2.2.2.2.1 HLP.out.2.2.2.2.2).mono (by rintro e' w' ⟨v', rfl, h3, h4⟩; exact ⟨v', none, 0, rfl, h3, h4⟩))).mono ?_); rintro e y9 ⟨ta, tc, body, rest, rfl, hbody, hrest, hby⟩; obtain ⟨ya, yc, rfl⟩ := hbody.rd.form; obtain ⟨oa, oc, rfl⟩ := hrest.rd.form; have HBD := Lib.hid hbody.rd; clear hbody hrest; have HC := Lib.hid (HC.out.trans (hby.mono HC.out.size)); clear hby)
          | ((with_reducible show wpList _ _ _ (Oper.mk _ (.alloc 33) _ _ _ _ :: _) _ _); refine wpList_allocV rfl 33 rfl _ al33 ?_; go_frame)
          | ((with_reducible show wpList _ _ _ (Oper.mk _ (.store 33 _ _) _ _ _ _ :: _) _ _); go_loud (refine wpList_store_row rfl 33 (.tmp 21) (.tmp 90) rfl _ (rawF 1 128 194 0 0 0 s0 s1 s2 s3 s4 s5 (.slice ta 0 tc) 2 66 66 3 (.slice ya Lst.length yc) (.slice oa ([] : List Int).length oc)) rfl rfl 33 zeros33 (heap_alloc_new _ _) (by kernel_rfl) rfl (oneRaw 1 128 194 0 0 0 s0 s1 s2 s3 s4 s5 2 66 66 3 ta ya oa 0 tc Lst.length yc ([] : List Int).length oc) ?_); go_frame))
    have HX := Lib.hid (setRow_heap _ _ _ (rawF 1 128 194 0 0 0 s0 s1 s2 s3 s4 s5 (.slice ta 0 tc) 2 66 66 3 (.slice ya Lst.length yc) (.slice oa ([] : List Int).length oc)) _ _ (heap_alloc_new y9 (.cells zeros33 33)))
    have hUB : Below y9.heap.size y9 ((y9.alloc (.cells zeros33 33)).setRow y9.heap.size (rawF 1 128 194 0 0 0 s0 s1 s2 s3 s4 s5 (.slice ta 0 tc) 2 66 66 3 (.slice ya Lst.length yc) (.slice oa ([] : List Int).length oc))) := below_setRow ((Below.refl _ _).alloc (Nat.le_refl _) _) (Nat.le_refl _) _
    have HBD := Lib.hid (HBD.out.below hUB)
    have hCY := HC.out.trans (hUB.mono HC.out.size)
    have HM := Lib.hid ((hCY.block _ (lt_of_block HM.out)).trans HM.out)
    have HS := Lib.hid ((hCY.block _ (lt_of_block HS.out)).trans HS.out)
    have HF := Lib.hid ((hCY.block _ (lt_of_block HF.out)).trans HF.out)
    have HWR := Lib.hid (HWR.out.trans (hCY.mono HWR.out.size))
    clear hUB hCY HC HV HV2 HVc HR1 HV6 HLP
    generalize (y9.alloc (.cells zeros33 33)).setRow y9.heap.size (rawF 1 128 194 0 0 0 s0 s1 s2 s3 s4 s5 (.slice ta 0 tc) 2 66 66 3 (.slice ya Lst.length yc) (.slice oa ([] : List Int).length oc)) = U at *
    generalize y9.heap.size = gX at *
    have HC := Lib.hid (Below.refl U.heap.size U)
    have c21 := info_cells (k := 21) (u := .slice ya Lst.length yc) HX.out rfl
    have HGQ := Lib.hid (HGP.out [])
    have HGQ1 : Hid (getE Lst = 0 ∧ getV Lst = msgV zk zf zr zb zc zp za zx zh zd) := Lib.hid (by have := HGQ.out; rwa [List.append_nil] at this)
    go_upto_region 15 with (first
          | (go_at_call 19; go_loud (refine (get19 _ Lst _ (HBD.out.below HC.out) (by have := HLN.out; have := HLL.out; omega) HLB.out).mono ?_); rintro e y10 ⟨rfl, hby⟩; rw [HGQ1.out.1, HGQ1.out.2]; have HC := Lib.hid (HC.out.trans (hby.mono HC.out.size)); clear hby)
          | ((with_reducible show wpList _ _ _ (Oper.mk _ (.alloc 26) _ _ _ _ :: _) _ _); refine wpList_allocV rfl 26 rfl _ al26 ?_; go_frame)
          | ((with_reducible show wpList _ _ _ (Oper.mk _ (.store 26 _ _) _ _ _ _ :: _) _ _); go_loud (refine wpList_store_row rfl 26 (.tmp 23) (.tmp 96) rfl _ (rowM zk zf zr zb zc zp za zx zh zd) rfl rfl 26 (rowM 0 0 0 0 0 0 0 0 0 0) (heap_alloc_new _ _) (by kernel_rfl) rfl (one26 zk zf zr zb zc zp za zx zh zd) ?_); go_frame))
    have HY := Lib.hid (setRow_heap _ _ _ (rowM zk zf zr zb zc zp za zx zh zd) _ _ (heap_alloc_new y10 (.cells (rowM 0 0 0 0 0 0 0 0 0 0) 26)))
    have HC := Lib.hid (below_setRow (HC.out.alloc HC.out.size (.cells (rowM 0 0 0 0 0 0 0 0 0 0) 26)) HC.out.size (rowM zk zf zr zb zc zp za zx zh zd))
    clear c21
    generalize (y10.alloc (.cells (rowM 0 0 0 0 0 0 0 0 0 0) 26)).setRow y10.heap.size (rowM zk zf zr zb zc zp za zx zh zd) = V at *
    generalize y10.heap.size = gY at *
    have HI0 : Hid (isB 1 128 194 0 0 0 2 66 66 3 = true) := Lib.hid (by decide)
    have hq28 := eqArr 28 6 Tryd.underlying28 #[.int .u8 s0, .int .u8 s1, .int .u8 s2, .int .u8 s3, .int .u8 s4, .int .u8 s5] #[.int .u8 s0, .int .u8 s1, .int .u8 s2, .int .u8 s3, .int .u8 s4, .int .u8 s5] [s0, s1, s2, s3, s4, s5] [s0, s1, s2, s3, s4, s5] rfl rfl rfl rfl
    rw [decide_eq_true rfl] at hq28
    go_upto_region 19 with (first
          | ((with_reducible show wpList _ _ _ (Oper.mk _ (.load 26 (.tmp 23)) _ _ _ _ :: _) _ _); go_loud (refine wpList_load_rowG rfl 26 (.tmp 23) rfl gY rfl 26 (rowM zk zf zr zb zc zp za zx zh zd) (0, 0) _ HY.out Tryd.underlying26 rfl (by kernel_rfl) ?_); go_frame)
          | ((with_reducible show wpList _ _ _ (Oper.mk _ (.load 26 (.tmp 5)) _ _ _ _ :: _) _ _); go_loud (refine wpList_load_rowG rfl 26 (.tmp 5) rfl w.heap.size rfl 26 (rowM zk zf zr zb zc zp za zx zh zd) (0, 0) _ ((HC.out.block _ (lt_of_block HM.out)).trans HM.out) Tryd.underlying26 rfl (by kernel_rfl) ?_); go_frame)
          | ((with_reducible show wpList _ _ _ (Oper.mk _ (.load 33 (.tmp 13)) _ _ _ _ :: _) _ _); go_loud (refine wpList_load_rowG rfl 33 (.tmp 13) rfl gF rfl 33 (rawF 1 128 194 0 0 0 s0 s1 s2 s3 s4 s5 (.slice none 0 0) 2 66 66 3 (.slice fa ll fc) (.slice none 0 0)) (0, 0) _ ((HC.out.block _ (lt_of_block HF.out)).trans HF.out) Tryd.underlying33 rfl (by kernel_rfl) ?_); go_frame)
          | ((with_reducible show wpList _ _ _ (Oper.mk _ (.load 33 (.tmp 21)) _ _ _ _ :: _) _ _); go_loud (refine wpList_load_rowG rfl 33 (.tmp 21) rfl gX rfl 33 (rawF 1 128 194 0 0 0 s0 s1 s2 s3 s4 s5 (.slice ta 0 tc) 2 66 66 3 (.slice ya Lst.length yc) (.slice oa ([] : List Int).length oc)) (0, 0) _ ((HC.out.block _ (lt_of_block HX.out)).trans HX.out) Tryd.underlying33 rfl (by kernel_rfl) ?_); go_frame)
          | ((with_reducible show wpList _ _ _ (Oper.mk _ (.load 27 (.tmp 7)) _ _ _ _ :: _) _ _); go_loud (refine wpList_load_rowG rfl 27 (.tmp 7) rfl (w.heap.size + 1) rfl 27 #[.int .u8 s0, .int .u8 s1, .int .u8 s2, .int .u8 s3, .int .u8 s4, .int .u8 s5] (0, 0) _ ((HC.out.block _ (lt_of_block HS.out)).trans HS.out) Tryd.underlying27 rfl (by kernel_rfl) ?_); go_frame)
          | (go_at_call 11; go_loud (refine (is_any _ _ _ _ _ _ _ _ _ _ _ _ _ _ _ _ _ _ _ _ _ _ _ _ (HGL.out.below (HWR.out.trans (HC.out.mono HWR.out.size)))).mono ?_); rintro e y11 ⟨rfl, hby⟩; rw [HI0.out]; have HC := Lib.hid (HC.out.trans (hby.mono HC.out.size)); clear hby; have hXc := ((HC.out.block _ (lt_of_block HX.out)).trans HX.out); have k6 := info_cells (k := 6) hXc rfl; have k7 := info_cells (k := 7) hXc rfl; have k8 := info_cells (k := 8) hXc rfl; have k9 := info_cells (k := 9) hXc rfl; have k10 := info_cells (k := 10) hXc rfl; have k11 := info_cells (k := 11) hXc rfl; have k12 := info_cells (k := 12) hXc rfl; clear hXc))
    clear HX HY HF HS HM hq28
    obtain ⟨m2, hmin2, hmn2, hm60⟩ : ∃ m : Nat, (if (60 : Int) < an then (60 : Int) else an) = (m : Int) ∧ m ≤ an ∧ m ≤ 60 := by
      by_cases h : (60 : Int) < an
      · exact ⟨60, by rw [if_pos h]; rfl, by omega, Nat.le_refl _⟩
      · exact ⟨an, by rw [if_neg h], Nat.le_refl _, by omega⟩
    have hlen2 := HRA.out.len
    have hma : (m2 : Int) ≤ ac := by omega
    have HR2 := Lib.hid ((HRA.out.take m2 hmn2).below HWR.out)
    have HL2 : Hid ((any.take m2).length = m2 ∧ m2 ≤ 60) := Lib.hid ⟨by simp; omega, hm60⟩
    have HB2 : Hid (∀ z ∈ any.take m2, 0 ≤ z ∧ z < 256) := Lib.hid (fun z hz => HBA.out z (List.mem_of_mem_take hz))
    clear hmn2 hm60 hlen2
    generalize any.take m2 = qs at *
    by_cases hE : getE qs = 0
    rotate_left
    · have HGV := Lib.hid (get_no hE).2
      have hcase := (get_no hE).1
      rcases hcase with h4 | h5
      · have HGE := Lib.hid h4
        clear hE h4
        go_upto_region 21 with (first
              | (go_at_call 19; go_loud (refine (get19 _ qs _ (HR2.out.below HC.out) (by have := HL2.out; omega) HB2.out).mono ?_); rintro e y4 ⟨rfl, hby⟩; rw [HGV.out, HGE.out]; have HC := Lib.hid (HC.out.trans (hby.mono HC.out.size)); clear hby)
              | ((with_reducible show wpList _ _ _ (Oper.mk _ (.alloc 26) _ _ _ _ :: _) _ _); refine wpList_allocV rfl 26 rfl _ al26 ?_; go_frame)
              | ((with_reducible show wpList _ _ _ (Oper.mk _ (.store 26 _ _) _ _ _ _ :: _) _ _); go_loud (refine wpList_store_row rfl 26 (.tmp 25) (.tmp 154) rfl _ (rowM 0 0 0 0 0 0 0 0 0 0) rfl rfl 26 (rowM 0 0 0 0 0 0 0 0 0 0) (heap_alloc_new _ _) (by kernel_rfl) rfl (one26 0 0 0 0 0 0 0 0 0 0) ?_); go_frame))
        have HT := Lib.hid (setRow_heap _ _ _ (rowM 0 0 0 0 0 0 0 0 0 0) _ _ (heap_alloc_new y4 (.cells (rowM 0 0 0 0 0 0 0 0 0 0) 26)))
        have HC := Lib.hid (below_setRow (HC.out.alloc HC.out.size (.cells (rowM 0 0 0 0 0 0 0 0 0 0) 26)) HC.out.size (rowM 0 0 0 0 0 0 0 0 0 0))
        generalize (y4.alloc (.cells (rowM 0 0 0 0 0 0 0 0 0 0) 26)).setRow y4.heap.size (rowM 0 0 0 0 0 0 0 0 0 0) = T at *
        generalize y4.heap.size = gT at *
        go_wp2_with (first
              | ((with_reducible show wpList _ _ _ (Oper.mk _ (.load 26 (.tmp 25)) _ _ _ _ :: _) _ _); go_loud (refine wpList_load_rowG rfl 26 (.tmp 25) rfl gT rfl 26 (rowM 0 0 0 0 0 0 0 0 0 0) (0, 0) _ HT.out Tryd.underlying26 rfl (by kernel_rfl) ?_); go_frame)
              | ((with_reducible show wpList _ _ _ (Oper.mk _ (.build 26 _) _ _ _ _ :: _) _ _); refine wpList_buildV rfl 26 _ rfl (rowM 0 0 0 0 0 0 0 0 0 0) (by kernel_rfl) ?_; go_frame)
              | (go_at_call 14; go_loud (refine (tells_any _).mono ?_); rintro e y5 ⟨rfl, hby⟩; have HC := Lib.hid (HC.out.trans (hby.mono HC.out.size)); clear hby))
        go_ret
        exact ⟨rfl, HWR.out.trans (HC.out.mono HWR.out.size)⟩
      · have HGE := Lib.hid h5
        clear hE h5
        go_upto_region 21 with (first
              | (go_at_call 19; go_loud (refine (get19 _ qs _ (HR2.out.below HC.out) (by have := HL2.out; omega) HB2.out).mono ?_); rintro e y4 ⟨rfl, hby⟩; rw [HGV.out, HGE.out]; have HC := Lib.hid (HC.out.trans (hby.mono HC.out.size)); clear hby)
              | ((with_reducible show wpList _ _ _ (Oper.mk _ (.alloc 26) _ _ _ _ :: _) _ _); refine wpList_allocV rfl 26 rfl _ al26 ?_; go_frame)
              | ((with_reducible show wpList _ _ _ (Oper.mk _ (.store 26 _ _) _ _ _ _ :: _) _ _); go_loud (refine wpList_store_row rfl 26 (.tmp 25) (.tmp 154) rfl _ (rowM 0 0 0 0 0 0 0 0 0 0) rfl rfl 26 (rowM 0 0 0 0 0 0 0 0 0 0) (heap_alloc_new _ _) (by kernel_rfl) rfl (one26 0 0 0 0 0 0 0 0 0 0) ?_); go_frame))
        have HT := Lib.hid (setRow_heap _ _ _ (rowM 0 0 0 0 0 0 0 0 0 0) _ _ (heap_alloc_new y4 (.cells (rowM 0 0 0 0 0 0 0 0 0 0) 26)))
        have HC := Lib.hid (below_setRow (HC.out.alloc HC.out.size (.cells (rowM 0 0 0 0 0 0 0 0 0 0) 26)) HC.out.size (rowM 0 0 0 0 0 0 0 0 0 0))
        generalize (y4.alloc (.cells (rowM 0 0 0 0 0 0 0 0 0 0) 26)).setRow y4.heap.size (rowM 0 0 0 0 0 0 0 0 0 0) = T at *
        generalize y4.heap.size = gT at *
        go_wp2_with (first
              | ((with_reducible show wpList _ _ _ (Oper.mk _ (.load 26 (.tmp 25)) _ _ _ _ :: _) _ _); go_loud (refine wpList_load_rowG rfl 26 (.tmp 25) rfl gT rfl 26 (rowM 0 0 0 0 0 0 0 0 0 0) (0, 0) _ HT.out Tryd.underlying26 rfl (by kernel_rfl) ?_); go_frame)
              | ((with_reducible show wpList _ _ _ (Oper.mk _ (.build 26 _) _ _ _ _ :: _) _ _); refine wpList_buildV rfl 26 _ rfl (rowM 0 0 0 0 0 0 0 0 0 0) (by kernel_rfl) ?_; go_frame)
              | (go_at_call 14; go_loud (refine (tells_any _).mono ?_); rintro e y5 ⟨rfl, hby⟩; have HC := Lib.hid (HC.out.trans (hby.mono HC.out.size)); clear hby))
        go_ret
        exact ⟨rfl, HWR.out.trans (HC.out.mono HWR.out.size)⟩
    · obtain ⟨vk, vf, vr, vb, vc, vp, va, vx, vh, vd, hV, hFv, hmv, hle, htk⟩ := put_get HB2.out hE
      have HGV := Lib.hid hV
      have HGE := Lib.hid hE
      have HFV := Lib.hid hFv
      have HPE2 : Hid (putE vk vf vr vb vc vp va vx vh vd = 0) := Lib.hid (by simp [putE, hmv])
      have HPR2 : Hid (putR vk vf vr vb vc vp va vx vh vd = putL vk vf vr vb vc vp va vx vh vd) := Lib.hid (by simp [putR, hmv])
      clear hE hV hFv hmv
      generalize putL vk vf vr vb vc vp va vx vh vd = Pl at *
      have HTK := Lib.hid htk
      have HLE := Lib.hid hle
      clear htk hle
      go_upto_region 21 with (first
            | (go_at_call 19; go_loud (refine (get19 _ qs _ (HR2.out.below HC.out) (by have := HL2.out; omega) HB2.out).mono ?_); rintro e y4 ⟨rfl, hby⟩; rw [HGV.out, HGE.out]; have HC := Lib.hid (HC.out.trans (hby.mono HC.out.size)); clear hby)
            | ((with_reducible show wpList _ _ _ (Oper.mk _ (.alloc 26) _ _ _ _ :: _) _ _); refine wpList_allocV rfl 26 rfl _ al26 ?_; go_frame)
            | ((with_reducible show wpList _ _ _ (Oper.mk _ (.store 26 _ _) _ _ _ _ :: _) _ _); go_loud (refine wpList_store_row rfl 26 (.tmp 25) (.tmp 154) rfl _ (rowM vk vf vr vb vc vp va vx vh vd) rfl rfl 26 (rowM 0 0 0 0 0 0 0 0 0 0) (heap_alloc_new _ _) (by kernel_rfl) rfl (one26 vk vf vr vb vc vp va vx vh vd) ?_); go_frame))
      have HT := Lib.hid (setRow_heap _ _ _ (rowM vk vf vr vb vc vp va vx vh vd) _ _ (heap_alloc_new y4 (.cells (rowM 0 0 0 0 0 0 0 0 0 0) 26)))
      have HC := Lib.hid (below_setRow (HC.out.alloc HC.out.size (.cells (rowM 0 0 0 0 0 0 0 0 0 0) 26)) HC.out.size (rowM vk vf vr vb vc vp va vx vh vd))
      generalize (y4.alloc (.cells (rowM 0 0 0 0 0 0 0 0 0 0) 26)).setRow y4.heap.size (rowM vk vf vr vb vc vp va vx vh vd) = T at *
      generalize y4.heap.size = gT at *
      go_upto_region 24 with (first
            | ((with_reducible show wpList _ _ _ (Oper.mk _ (.load 26 (.tmp 25)) _ _ _ _ :: _) _ _); go_loud (refine wpList_load_rowG rfl 26 (.tmp 25) rfl gT rfl 26 (rowM vk vf vr vb vc vp va vx vh vd) (0, 0) _ HT.out Tryd.underlying26 rfl (by kernel_rfl) ?_); go_frame)
            | (go_at_call 6; go_loud (refine (put_any vk vf vr vb vc vp va vx vh vd HFV.out _).mono ?_); rintro e y5 ⟨v5, rfl, hv5, hby⟩; rw [HPR2.out] at hv5; rw [HPE2.out]; obtain ⟨pa, pc, rfl⟩ := hv5.rd.form; have HP5 := Lib.hid hv5.rd; clear hv5; have HC := Lib.hid (HC.out.trans (hby.mono HC.out.size)); clear hby))
      have hli : (Pl.length : Int) ≤ (m2 : Int) := by have := HLE.out; have := HL2.out; omega
      have hlj : (Pl.length : Int) ≤ (ac : Int) := by omega
      have hcA : Rd y5 (.slice aa Pl.length ac) Pl := by
        have := (HR2.out.below HC.out).take Pl.length (by have := HLE.out; have := HL2.out; omega)
        rw [← HTK.out] at this
        exact this
      have hcB := HP5.out
      clear HT
      refine wp_region_held_drew (S := fun w' => Rd w' (.slice pa Pl.length pc) Pl ∧ Rd w' (.slice aa Pl.length ac) Pl) (by kernel_rfl) ⟨hcB.below (bd (n := 1) (Below.refl _ _)), hcA.below (bd (n := 1) (Below.refl _ _))⟩ (fun hHeld => ?_)
      refine wpAnyH_take (i := 0) (oi := { dst := some 177, op := Op.move (Operand.tmp 28), type := 34, pos := "outright.go:42", after := #[], guard := none }) (v := ?_) rfl (by kernel_rfl) (by kernel_rfl) (by kernel_rfl) (fun _ _ _ h => h) (Or.inl ⟨by rfl, ?_⟩) (by assumption) ?_
      rotate_left
      · intro w hSw; (try dsimp only at hSw); go_simp
        all_goals with_reducible rfl
      try simp only [Act.put, List.setIfInBounds_toArray, List.set_cons_zero, List.set_cons_succ]
      refine wpAnyH_take (i := 1) (oi := { dst := some 178, op := Op.binOp BinOp.eql 34 (Operand.tmp 177) (Operand.const (Value.int IntKind.i64 0)) 34, type := 4, pos := "outright.go:42", after := #[{ on := 0, ground := Ground.data }], guard := none }) (v := ?_) rfl (by kernel_rfl) (by kernel_rfl) (by kernel_rfl) (fun _ _ _ h => h) (Or.inl ⟨by rfl, ?_⟩) (by assumption) ?_
      rotate_left
      · intro w hSw; (try dsimp only at hSw); go_simp
        all_goals with_reducible rfl
      try simp only [Act.put, List.setIfInBounds_toArray, List.set_cons_zero, List.set_cons_succ]
      refine wpAnyH_take (i := 2) (oi := { dst := some 179, op := Op.move (Operand.tmp 178), type := 4, pos := "outright.go:42", after := #[{ on := 1, ground := Ground.data }], guard := none }) (v := ?_) rfl (by kernel_rfl) (by kernel_rfl) (by kernel_rfl) (fun _ _ _ h => h) (Or.inl ⟨by rfl, ?_⟩) (by assumption) ?_
      rotate_left
      · intro w hSw; (try dsimp only at hSw); go_simp
        all_goals with_reducible rfl
      try simp only [Act.put, List.setIfInBounds_toArray, List.set_cons_zero, List.set_cons_succ]
      refine wpAnyH_take (i := 3) (oi := { dst := some 180, op := Op.move (Operand.tmp 27), type := 31, pos := "outright.go:42", after := #[{ on := 2, ground := Ground.guard }], guard := some (2, true) }) (v := ?_) rfl (by kernel_rfl) (by kernel_rfl) (by kernel_rfl) (fun _ _ _ h => h) (Or.inl ⟨by rfl, ?_⟩) (by assumption) ?_
      rotate_left
      · intro w hSw; (try dsimp only at hSw); go_simp
        all_goals with_reducible rfl
      try simp only [Act.put, List.setIfInBounds_toArray, List.set_cons_zero, List.set_cons_succ]
      refine wpAnyH_take (i := 4) (oi := { dst := some 181, op := Op.call { callee := Callee.builtin Builtin.len, args := #[Operand.tmp 180], argTypes := #[31] }, type := 3, pos := "outright.go:42", after := #[{ on := 3, ground := Ground.data }, { on := 2, ground := Ground.guard }], guard := some (2, true) }) (v := ?_) rfl (by kernel_rfl) (by kernel_rfl) (by kernel_rfl) (fun _ _ _ h => h) (Or.inl ⟨by rfl, ?_⟩) (by assumption) ?_
      rotate_left
      · intro w hSw; (try dsimp only at hSw); go_simp
        all_goals with_reducible rfl
      try simp only [Act.put, List.setIfInBounds_toArray, List.set_cons_zero, List.set_cons_succ]
      refine wpAnyH_take (i := 5) (oi := { dst := some 182, op := Op.move (Operand.tmp 3), type := 31, pos := "outright.go:42", after := #[{ on := 2, ground := Ground.guard }], guard := some (2, true) }) (v := ?_) rfl (by kernel_rfl) (by kernel_rfl) (by kernel_rfl) (fun _ _ _ h => h) (Or.inl ⟨by rfl, ?_⟩) (by assumption) ?_
      rotate_left
      · intro w hSw; (try dsimp only at hSw); go_simp
        all_goals with_reducible rfl
      try simp only [Act.put, List.setIfInBounds_toArray, List.set_cons_zero, List.set_cons_succ]
      refine wpAnyH_take (i := 6) (oi := { dst := some 183, op := Op.call { callee := Callee.builtin Builtin.len, args := #[Operand.tmp 182], argTypes := #[31] }, type := 3, pos := "outright.go:42", after := #[{ on := 5, ground := Ground.data }, { on := 2, ground := Ground.guard }], guard := some (2, true) }) (v := ?_) rfl (by kernel_rfl) (by kernel_rfl) (by kernel_rfl) (fun _ _ _ h => h) (Or.inl ⟨by rfl, ?_⟩) (by assumption) ?_
      rotate_left
      · intro w hSw; (try dsimp only at hSw); go_simp
        all_goals with_reducible rfl
      try simp only [Act.put, List.setIfInBounds_toArray, List.set_cons_zero, List.set_cons_succ]
      refine wpAnyH_take (i := 7) (oi := { dst := some 184, op := Op.binOp BinOp.leq 3 (Operand.tmp 181) (Operand.tmp 183) 3, type := 4, pos := "outright.go:42", after := #[{ on := 4, ground := Ground.data }, { on := 6, ground := Ground.data }, { on := 2, ground := Ground.guard }], guard := some (2, true) }) (v := ?_) rfl (by kernel_rfl) (by kernel_rfl) (by kernel_rfl) (fun _ _ _ h => h) (Or.inl ⟨by rfl, ?_⟩) (by assumption) ?_
      rotate_left
      · intro w hSw; (try dsimp only at hSw); go_simp
        all_goals with_reducible rfl
      try simp only [Act.put, List.setIfInBounds_toArray, List.set_cons_zero, List.set_cons_succ]
      refine wpAnyH_take (i := 8) (oi := { dst := some 185, op := Op.pick (Operand.tmp 179) (Operand.tmp 184) (Operand.const (Value.bool false)), type := 4, pos := "outright.go:42", after := #[{ on := 2, ground := Ground.data }, { on := 7, ground := Ground.data }], guard := none }) (v := ?_) rfl (by kernel_rfl) (by kernel_rfl) (by kernel_rfl) (fun _ _ _ h => h) (Or.inl ⟨by rfl, ?_⟩) (by assumption) ?_
      rotate_left
      · intro w hSw; (try dsimp only at hSw); go_simp
        all_goals with_reducible rfl
      try simp only [Act.put, List.setIfInBounds_toArray, List.set_cons_zero, List.set_cons_succ]
      refine wpAnyH_take (i := 9) (oi := { dst := some 186, op := Op.move (Operand.tmp 185), type := 4, pos := "outright.go:42", after := #[{ on := 8, ground := Ground.data }, { on := 2, ground := Ground.chain }], guard := none }) (v := ?_) rfl (by kernel_rfl) (by kernel_rfl) (by kernel_rfl) (fun _ _ _ h => h) (Or.inl ⟨by rfl, ?_⟩) (by assumption) ?_
      rotate_left
      · intro w hSw; (try dsimp only at hSw); go_simp
        all_goals with_reducible rfl
      try simp only [Act.put, List.setIfInBounds_toArray, List.set_cons_zero, List.set_cons_succ]
      refine wpAnyH_take (i := 10) (oi := { dst := some 187, op := Op.move (Operand.tmp 27), type := 31, pos := "outright.go:42", after := #[{ on := 9, ground := Ground.guard }], guard := some (9, true) }) (v := ?_) rfl (by kernel_rfl) (by kernel_rfl) (by kernel_rfl) (fun _ _ _ h => h) (Or.inl ⟨by rfl, ?_⟩) (by assumption) ?_
      rotate_left
      · intro w hSw; (try dsimp only at hSw); go_simp
        all_goals with_reducible rfl
      try simp only [Act.put, List.setIfInBounds_toArray, List.set_cons_zero, List.set_cons_succ]
      refine wpAnyH_take (i := 11) (oi := { dst := some 188, op := Op.convert 31 9 (Operand.tmp 187), type := 9, pos := "outright.go:42", after := #[{ on := 10, ground := Ground.data }, { on := 9, ground := Ground.guard }], guard := some (9, true) }) (v := ?_) rfl (by kernel_rfl) (by kernel_rfl) (by kernel_rfl) (fun _ _ _ h => h) (Or.inl ⟨by rfl, ?_⟩) (by assumption) ?_
      rotate_left
      · intro w hSw; have hcv := conv_rd hSw.1; go_simp
        all_goals with_reducible rfl
      try simp only [Act.put, List.setIfInBounds_toArray, List.set_cons_zero, List.set_cons_succ]
      refine wpAnyH_take (i := 12) (oi := { dst := some 189, op := Op.move (Operand.tmp 3), type := 31, pos := "outright.go:42", after := #[{ on := 9, ground := Ground.guard }], guard := some (9, true) }) (v := ?_) rfl (by kernel_rfl) (by kernel_rfl) (by kernel_rfl) (fun _ _ _ h => h) (Or.inl ⟨by rfl, ?_⟩) (by assumption) ?_
      rotate_left
      · intro w hSw; (try dsimp only at hSw); go_simp
        all_goals with_reducible rfl
      try simp only [Act.put, List.setIfInBounds_toArray, List.set_cons_zero, List.set_cons_succ]
      refine wpAnyH_take (i := 13) (oi := { dst := some 190, op := Op.move (Operand.tmp 27), type := 31, pos := "outright.go:42", after := #[{ on := 9, ground := Ground.guard }], guard := some (9, true) }) (v := ?_) rfl (by kernel_rfl) (by kernel_rfl) (by kernel_rfl) (fun _ _ _ h => h) (Or.inl ⟨by rfl, ?_⟩) (by assumption) ?_
      rotate_left
      · intro w hSw; (try dsimp only at hSw); go_simp
        all_goals with_reducible rfl
      try simp only [Act.put, List.setIfInBounds_toArray, List.set_cons_zero, List.set_cons_succ]
      refine wpAnyH_take (i := 14) (oi := { dst := some 191, op := Op.call { callee := Callee.builtin Builtin.len, args := #[Operand.tmp 190], argTypes := #[31] }, type := 3, pos := "outright.go:42", after := #[{ on := 13, ground := Ground.data }, { on := 9, ground := Ground.guard }], guard := some (9, true) }) (v := ?_) rfl (by kernel_rfl) (by kernel_rfl) (by kernel_rfl) (fun _ _ _ h => h) (Or.inl ⟨by rfl, ?_⟩) (by assumption) ?_
      rotate_left
      · intro w hSw; (try dsimp only at hSw); go_simp
        all_goals with_reducible rfl
      try simp only [Act.put, List.setIfInBounds_toArray, List.set_cons_zero, List.set_cons_succ]
      refine wpAnyH_take (i := 15) (oi := { dst := some 192, op := Op.slice 31 (Operand.tmp 189) none (some (Operand.tmp 191)) none, type := 31, pos := "outright.go:42", after := #[{ on := 12, ground := Ground.data }, { on := 14, ground := Ground.data }, { on := 9, ground := Ground.guard }], guard := some (9, true) }) (v := ?_) rfl (by kernel_rfl) (by kernel_rfl) (by kernel_rfl) (fun _ _ _ h => h) (Or.inl ⟨by rfl, ?_⟩) (by assumption) ?_
      rotate_left
      · intro w hSw; (try dsimp only at hSw); go_simp
        all_goals with_reducible rfl
      try simp only [Act.put, List.setIfInBounds_toArray, List.set_cons_zero, List.set_cons_succ]
      refine wpAnyH_take (i := 16) (oi := { dst := some 193, op := Op.convert 31 9 (Operand.tmp 192), type := 9, pos := "outright.go:42", after := #[{ on := 15, ground := Ground.data }, { on := 9, ground := Ground.guard }], guard := some (9, true) }) (v := ?_) rfl (by kernel_rfl) (by kernel_rfl) (by kernel_rfl) (fun _ _ _ h => h) (Or.inl ⟨by rfl, ?_⟩) (by assumption) ?_
      rotate_left
      · intro w hSw; have hcv := conv_rd hSw.2; go_simp
        all_goals with_reducible rfl
      try simp only [Act.put, List.setIfInBounds_toArray, List.set_cons_zero, List.set_cons_succ]
      refine wpAnyH_take (i := 17) (oi := { dst := some 194, op := Op.binOp BinOp.eql 9 (Operand.tmp 188) (Operand.tmp 193) 9, type := 4, pos := "outright.go:42", after := #[{ on := 11, ground := Ground.data }, { on := 16, ground := Ground.data }, { on := 9, ground := Ground.guard }], guard := some (9, true) }) (v := ?_) rfl (by kernel_rfl) (by kernel_rfl) (by kernel_rfl) (fun _ _ _ h => h) (Or.inl ⟨by rfl, ?_⟩) (by assumption) ?_
      rotate_left
      · intro w hSw; (try dsimp only at hSw); go_simp
        all_goals with_reducible rfl
      try simp only [Act.put, List.setIfInBounds_toArray, List.set_cons_zero, List.set_cons_succ]
      refine wpAnyH_take (i := 18) (oi := { dst := some 195, op := Op.pick (Operand.tmp 186) (Operand.tmp 194) (Operand.const (Value.bool false)), type := 4, pos := "outright.go:42", after := #[{ on := 9, ground := Ground.data }, { on := 17, ground := Ground.data }], guard := none }) (v := ?_) rfl (by kernel_rfl) (by kernel_rfl) (by kernel_rfl) (fun _ _ _ h => h) (Or.inl ⟨by rfl, ?_⟩) (by assumption) ?_
      rotate_left
      · intro w hSw; (try dsimp only at hSw); go_simp
        all_goals with_reducible rfl
      try simp only [Act.put, List.setIfInBounds_toArray, List.set_cons_zero, List.set_cons_succ]
      refine wpAnyH_take (i := 19) (oi := { dst := some 196, op := Op.move (Operand.tmp 195), type := 4, pos := "outright.go:42", after := #[{ on := 18, ground := Ground.data }, { on := 9, ground := Ground.chain }], guard := none }) (v := ?_) rfl (by kernel_rfl) (by kernel_rfl) (by kernel_rfl) (fun _ _ _ h => h) (Or.inl ⟨by rfl, ?_⟩) (by assumption) ?_
      rotate_left
      · intro w hSw; (try dsimp only at hSw); go_simp
        all_goals with_reducible rfl
      try simp only [Act.put, List.setIfInBounds_toArray, List.set_cons_zero, List.set_cons_succ]
      refine wpAnyH_ready (rs := [20]) (by kernel_rfl) (by simp) ?_
      refine AllReadyH.cons (o := { dst := some 197, op := Op.call { callee := Callee.value (Operand.func 14), args := #[], argTypes := #[] }, type := 4, pos := "outright.go:42", after := #[{ on := 19, ground := Ground.chain }, { on := 19, ground := Ground.guard }], guard := some (19, true) }) rfl (fun K hK => ?_) AllReadyH.nil
      go_simp
      refine (tells_any _).mono ?_
      rintro e y6 ⟨rfl, hby⟩
      dsimp only
      refine hK.out _ _ ⟨hHeld.1.below hby, hHeld.2.below hby⟩ (fun hHeldB => ?_)
      clear hK K
      try simp only [Act.put, List.setIfInBounds_toArray, List.set_cons_zero, List.set_cons_succ]
      refine wpAnyH_take (i := 21) (oi := { dst := some 198, op := Op.pick (Operand.tmp 196) (Operand.tmp 197) (Operand.const (Value.bool false)), type := 4, pos := "outright.go:42", after := #[{ on := 19, ground := Ground.data }, { on := 20, ground := Ground.data }], guard := none }) (v := ?_) rfl (by kernel_rfl) (by kernel_rfl) (by kernel_rfl) (fun _ _ _ h => h) (Or.inl ⟨by rfl, ?_⟩) (by assumption) ?_
      rotate_left
      · intro w hSw; (try dsimp only at hSw); go_simp
        all_goals with_reducible rfl
      try simp only [Act.put, List.setIfInBounds_toArray, List.set_cons_zero, List.set_cons_succ]
      refine wpAnyH_take (i := 22) (oi := { dst := some 10, op := Op.assign (Operand.tmp 198), type := 4, pos := "outright.go:42", after := #[{ on := 21, ground := Ground.data }, { on := 20, ground := Ground.chain }, { on := 0, ground := Ground.phase }, { on := 1, ground := Ground.phase }, { on := 2, ground := Ground.phase }, { on := 3, ground := Ground.phase }, { on := 4, ground := Ground.phase }, { on := 5, ground := Ground.phase }, { on := 6, ground := Ground.phase }, { on := 7, ground := Ground.phase }, { on := 8, ground := Ground.phase }, { on := 9, ground := Ground.phase }, { on := 10, ground := Ground.phase }, { on := 11, ground := Ground.phase }, { on := 12, ground := Ground.phase }, { on := 13, ground := Ground.phase }, { on := 14, ground := Ground.phase }, { on := 15, ground := Ground.phase }, { on := 16, ground := Ground.phase }, { on := 17, ground := Ground.phase }, { on := 18, ground := Ground.phase }, { on := 19, ground := Ground.phase }, { on := 20, ground := Ground.phase }, { on := 21, ground := Ground.phase }], guard := none }) (v := ?_) rfl (by kernel_rfl) (by kernel_rfl) (by kernel_rfl) (fun _ _ _ h => h) (Or.inl ⟨by rfl, ?_⟩) (by assumption) ?_
      rotate_left
      · intro w hSw; (try dsimp only at hSw); go_simp
        all_goals with_reducible rfl
      try simp only [Act.put, List.setIfInBounds_toArray, List.set_cons_zero, List.set_cons_succ]
      refine wpAnyH_done (by kernel_rfl) ?_ _
      have HC := Lib.hid ((bd (n := 1) HC.out).trans (hby.mono (show U.heap.size ≤ _ from HC.out.size)))
      clear hby hHeld hHeldB
      go_wp2_with fail
      go_ret
      exact ⟨rfl, HWR.out.trans (HC.out.mono HWR.out.size)⟩
  refine wp_region_noPanic ?_
  refine wp_region_held_drew (S := fun w' => Below Y.heap.size Y w') (by kernel_rfl) (bd (n := 1) (Below.refl _ _)) (fun hS0 => ?_)
  refine wpAnyH_take (i := 0) (oi := { dst := some 46, op := Op.move (Operand.tmp 11), type := 31, pos := "outright.go:20", after := #[], guard := none }) (v := ?_) rfl (by kernel_rfl) (by kernel_rfl) (by kernel_rfl) (fun _ _ _ h => h) (Or.inl ⟨by rfl, ?_⟩) (by assumption) ?_
  rotate_left
  · intro w hSw; (try dsimp only at hSw); go_simp
    all_goals with_reducible rfl
  try simp only [Act.put, List.setIfInBounds_toArray, List.set_cons_zero, List.set_cons_succ]
  refine wpAnyH_take (i := 2) (oi := { dst := some 48, op := Op.move (Operand.tmp 1), type := 31, pos := "outright.go:20", after := #[], guard := none }) (v := ?_) rfl (by kernel_rfl) (by kernel_rfl) (by kernel_rfl) (fun _ _ _ h => h) (Or.inl ⟨by rfl, ?_⟩) (by assumption) ?_
  rotate_left
  · intro w hSw; (try dsimp only at hSw); go_simp
    all_goals with_reducible rfl
  try simp only [Act.put, List.setIfInBounds_toArray, List.set_cons_zero, List.set_cons_succ]
  refine wpAnyH_take (i := 3) (oi := { dst := some 49, op := Op.move (Operand.tmp 1), type := 31, pos := "outright.go:20", after := #[], guard := none }) (v := ?_) rfl (by kernel_rfl) (by kernel_rfl) (by kernel_rfl) (fun _ _ _ h => h) (Or.inl ⟨by rfl, ?_⟩) (by assumption) ?_
  rotate_left
  · intro w hSw; (try dsimp only at hSw); go_simp
    all_goals with_reducible rfl
  try simp only [Act.put, List.setIfInBounds_toArray, List.set_cons_zero, List.set_cons_succ]
  refine wpAnyH_take (i := 4) (oi := { dst := some 50, op := Op.call { callee := Callee.builtin Builtin.len, args := #[Operand.tmp 49], argTypes := #[31] }, type := 3, pos := "outright.go:20", after := #[{ on := 3, ground := Ground.data }], guard := none }) (v := ?_) rfl (by kernel_rfl) (by kernel_rfl) (by kernel_rfl) (fun _ _ _ h => h) (Or.inl ⟨by rfl, ?_⟩) (by assumption) ?_
  rotate_left
  · intro w hSw; (try dsimp only at hSw); go_simp
    all_goals with_reducible rfl
  try simp only [Act.put, List.setIfInBounds_toArray, List.set_cons_zero, List.set_cons_succ]
  refine wpAnyH_take (i := 5) (oi := { dst := some 51, op := Op.call { callee := Callee.builtin Builtin.min, args := #[Operand.tmp 50, Operand.const (Value.int IntKind.i64 20)], argTypes := #[3, 3] }, type := 3, pos := "outright.go:20", after := #[{ on := 4, ground := Ground.data }], guard := none }) (v := ?_) rfl (by kernel_rfl) (by kernel_rfl) (by kernel_rfl) (fun _ _ _ h => h) (Or.inl ⟨by rfl, ?_⟩) (by assumption) ?_
  rotate_left
  · intro w hSw; (try dsimp only at hSw); go_simp
    all_goals with_reducible rfl
  try simp only [Act.put, List.setIfInBounds_toArray, List.set_cons_zero, List.set_cons_succ]
  refine wpAnyH_take (i := 6) (oi := { dst := some 52, op := Op.slice 31 (Operand.tmp 48) none (some (Operand.tmp 51)) none, type := 31, pos := "outright.go:20", after := #[{ on := 2, ground := Ground.data }, { on := 5, ground := Ground.data }], guard := none }) (v := ?_) rfl (by kernel_rfl) (by kernel_rfl) (by kernel_rfl) (fun _ _ _ h => h) (Or.inl ⟨by rfl, ?_⟩) (by assumption) ?_
  rotate_left
  · intro w hSw; (try dsimp only at hSw); go_simp
    all_goals with_reducible rfl
  try simp only [Act.put, List.setIfInBounds_toArray, List.set_cons_zero, List.set_cons_succ]
  refine wpAnyH_ready (rs := [1, 12]) (by kernel_rfl) (by simp) ?_
  refine (AllReadyH.cons (o := { dst := some 47, op := Op.call { callee := Callee.builtin Builtin.append, args := #[Operand.const (Value.slice none 0 0), Operand.tmp 46], argTypes := #[31, 31] }, type := 31, pos := "outright.go:20", after := #[{ on := 0, ground := Ground.data }], guard := none }) rfl (fun K hK => ?_) (AllReadyH.cons (o := { dst := some 15, op := Op.alloc 26, type := 0, pos := "outright.go:20", after := #[], guard := none }) rfl (fun K hK => ?_) AllReadyH.nil))
  · rw [if_pos (by rfl)]
    refine wp_appendR (.const (.slice none 0 0)) (.tmp 46) rfl Y.heap.size _ _ [] Lst rfl (World.ownsRow_nil _ _ _ _) rfl (HV.out.below hS0) (by simp) (by have := HLN.out; omega) hS0.size ?_
    intro v1 u1 hv1 hb1 hup
    obtain ⟨qa, qc, rfl⟩ := hv1.rd.form
    have HQ1 : Hid (Bytes Y.heap.size u1 (.slice qa ([] ++ Lst).length qc) Lst) := Lib.hid hv1
    refine hK.out _ _ (hS0.trans hb1) (fun hS1 => ?_)
    clear hK K hv1 hb1 hup
    try simp only [Act.put, List.setIfInBounds_toArray, List.set_cons_zero, List.set_cons_succ]
    refine wpAnyH_ready (rs := [7, 12]) (by kernel_rfl) (by simp) ?_
    refine (AllReadyH.cons (o := { dst := some 53, op := Op.call { callee := Callee.builtin Builtin.append, args := #[Operand.tmp 47, Operand.tmp 52], argTypes := #[31, 31] }, type := 31, pos := "outright.go:20", after := #[{ on := 1, ground := Ground.data }, { on := 6, ground := Ground.data }, { on := 1, ground := Ground.chain }], guard := none }) rfl (fun K hK => ?_) (AllReadyH.cons (o := { dst := some 15, op := Op.alloc 26, type := 0, pos := "outright.go:20", after := #[], guard := none }) rfl (fun K hK => ?_) AllReadyH.nil))
    · rw [if_pos (by rfl)]
      refine wp_appendR (.tmp 47) (.tmp 52) rfl Y.heap.size _ _ Lst bt rfl HQ1.out rfl (HR1.out.below hS1) (by have := HLN.out; omega) (by have := HL1.out; omega) hS1.size ?_
      intro v1 u2 hv1 hb1 hup
      obtain ⟨ra, rc, rfl⟩ := hv1.rd.form
      have HQ2 := Lib.hid hv1.rd
      refine hK.out _ _ (hS1.trans hb1) (fun hS2 => ?_)
      clear hK K hv1 hb1 hup
      try simp only [Act.put, List.setIfInBounds_toArray, List.set_cons_zero, List.set_cons_succ]
      refine wpAnyH_ready (rs := [8, 12]) (by kernel_rfl) (by simp) ?_
      refine (AllReadyH.cons (o := { dst := some 54, op := Op.call { callee := Callee.value (Operand.func 19), args := #[Operand.tmp 53], argTypes := #[31] }, type := 59, pos := "outright.go:20", after := #[{ on := 7, ground := Ground.data }, { on := 7, ground := Ground.chain }], guard := none }) rfl (fun K hK => ?_) (AllReadyH.cons (o := { dst := some 15, op := Op.alloc 26, type := 0, pos := "outright.go:20", after := #[], guard := none }) rfl (fun K hK => ?_) AllReadyH.nil))
      · go_simp
        refine (get19 _ (Lst ++ bt) _ (by simpa using HQ2.out) (by have := HLN.out; have := HL1.out; simp; omega) (fun z hz => (List.mem_append.1 hz).elim (HLB.out z) (HB1.out z))).mono ?_
        rintro e u3 ⟨rfl, hb1⟩
        rw [(HGP.out bt).1, (HGP.out bt).2]
        dsimp only
        refine hK.out _ _ (hS2.trans (hb1.mono hS2.size)) (fun hS3 => ?_)
        clear hK K hb1
        try simp only [Act.put, List.setIfInBounds_toArray, List.set_cons_zero, List.set_cons_succ]
        refine wpAnyH_take (i := 9) (oi := { dst := some 45, op := Op.move (Operand.tmp 54), type := 59, pos := "outright.go:20", after := #[{ on := 8, ground := Ground.data }], guard := none }) (v := ?_) rfl (by kernel_rfl) (by kernel_rfl) (by kernel_rfl) (fun _ _ _ h => h) (Or.inl ⟨by rfl, ?_⟩) (by assumption) ?_
        rotate_left
        · intro w hSw; (try dsimp only at hSw); go_simp
          all_goals with_reducible rfl
        try simp only [Act.put, List.setIfInBounds_toArray, List.set_cons_zero, List.set_cons_succ]
        refine wpAnyH_take (i := 10) (oi := { dst := some 55, op := Op.extract (Operand.tmp 45) 0, type := 26, pos := "outright.go:20", after := #[{ on := 9, ground := Ground.data }], guard := none }) (v := ?_) rfl (by kernel_rfl) (by kernel_rfl) (by kernel_rfl) (fun _ _ _ h => h) (Or.inl ⟨by rfl, ?_⟩) (by assumption) ?_
        rotate_left
        · intro w hSw; (try dsimp only at hSw); go_simp
          all_goals with_reducible rfl
        try simp only [Act.put, List.setIfInBounds_toArray, List.set_cons_zero, List.set_cons_succ]
        refine wpAnyH_take (i := 11) (oi := { dst := some 56, op := Op.extract (Operand.tmp 45) 1, type := 34, pos := "outright.go:20", after := #[{ on := 9, ground := Ground.data }, { on := 13, ground := Ground.gcOnly Departure.lateStores }], guard := none }) (v := ?_) rfl (by kernel_rfl) (by kernel_rfl) (by kernel_rfl) (fun _ _ _ h => h) (Or.inl ⟨by rfl, ?_⟩) (by assumption) ?_
        rotate_left
        · intro w hSw; (try dsimp only at hSw); go_simp
          all_goals with_reducible rfl
        try simp only [Act.put, List.setIfInBounds_toArray, List.set_cons_zero, List.set_cons_succ]
        refine wpAnyH_ready (rs := [12]) (by kernel_rfl) (by simp) ?_
        refine (AllReadyH.cons (o := { dst := some 15, op := Op.alloc 26, type := 0, pos := "outright.go:20", after := #[], guard := none }) rfl (fun K hK => ?_) AllReadyH.nil)
        rw [if_pos (by rfl)]
        refine wp_allocV 26 rfl (rowM 0 0 0 0 0 0 0 0 0 0) al26 ?_
        have hBa : Below u3.heap.size u3 (u3.alloc (.cells (rowM 0 0 0 0 0 0 0 0 0 0) 26)) := (Below.refl _ _).alloc (Nat.le_refl _) _
        have HZ : Hid ((u3.alloc (.cells (rowM 0 0 0 0 0 0 0 0 0 0) 26)).heap[u3.heap.size]? = some (.cells (rowM 0 0 0 0 0 0 0 0 0 0) 26 (0, 0))) := Lib.hid (heap_alloc_new _ _)
        have HGM : Hid (Y.heap.size ≤ u3.heap.size) := Lib.hid hS3.size
        refine hK.out _ _ (hS3.trans (hBa.mono hS3.size)) (fun hS4 => ?_)
        clear hK K hBa
        try simp only [Act.put, List.setIfInBounds_toArray, List.set_cons_zero, List.set_cons_succ]
        generalize u3.alloc (.cells (rowM 0 0 0 0 0 0 0 0 0 0) 26) = u4 at *
        refine wpAnyH_ready (rs := [13]) (by kernel_rfl) (by simp) ?_
        refine AllReadyH.cons (o := { dst := none, op := Op.store 26 (Operand.tmp 15) (Operand.tmp 55), type := 0, pos := "outright.go:20", after := #[{ on := 12, ground := Ground.data }, { on := 10, ground := Ground.data }, { on := 8, ground := Ground.chain }, { on := 0, ground := Ground.phase }, { on := 1, ground := Ground.phase }, { on := 2, ground := Ground.phase }, { on := 3, ground := Ground.phase }, { on := 4, ground := Ground.phase }, { on := 5, ground := Ground.phase }, { on := 6, ground := Ground.phase }, { on := 7, ground := Ground.phase }, { on := 8, ground := Ground.phase }, { on := 9, ground := Ground.phase }, { on := 10, ground := Ground.phase }, { on := 11, ground := Ground.textOnly Departure.lateStores }, { on := 12, ground := Ground.phase }], guard := none }) rfl (fun K hK => ?_) AllReadyH.nil
        rw [if_pos (by rfl)]
        refine wp_store_row 26 (.tmp 15) (.tmp 55) rfl _ (rowM zk zf zr zb zc zp za zx zh zd) rfl rfl 26 (rowM 0 0 0 0 0 0 0 0 0 0) HZ.out (by kernel_rfl) rfl (one26 zk zf zr zb zc zp za zx zh zd) ?_
        refine hK.out _ _ (below_setRow hS4 HGM.out _) (fun hSe => ?_)
        clear hK K
        try simp only [Act.put]
        refine wpAnyH_take (i := 14) (oi := { dst := some 16, op := Op.assign (Operand.tmp 56), type := 34, pos := "outright.go:20", after := #[{ on := 11, ground := Ground.data }, { on := 13, ground := Ground.chain }, { on := 0, ground := Ground.phase }, { on := 1, ground := Ground.phase }, { on := 2, ground := Ground.phase }, { on := 3, ground := Ground.phase }, { on := 4, ground := Ground.phase }, { on := 5, ground := Ground.phase }, { on := 6, ground := Ground.phase }, { on := 7, ground := Ground.phase }, { on := 8, ground := Ground.phase }, { on := 9, ground := Ground.phase }, { on := 10, ground := Ground.phase }, { on := 11, ground := Ground.phase }, { on := 12, ground := Ground.phase }, { on := 13, ground := Ground.phase }], guard := none }) (v := ?_) rfl (by kernel_rfl) (by kernel_rfl) (by kernel_rfl) (fun _ _ _ h => h) (Or.inl ⟨by rfl, ?_⟩) (by assumption) ?_
        rotate_left
        · intro w hSw; (try dsimp only at hSw); go_simp
          all_goals with_reducible rfl
        try simp only [Act.put, List.setIfInBounds_toArray, List.set_cons_zero, List.set_cons_succ]
        refine wpAnyH_done (by kernel_rfl) ?_ _
        exact NoPanic.normal ⟨_, _, _, _, _, _, _, _, _, _, _, _, _, _, _, _, _, _, _, _, _, _, _, _, _, _, _, _, _, rfl, rfl, setRow_heap _ _ _ _ _ _ HZ.out, hSe⟩
      · rw [if_pos (by rfl)]
        refine wp_allocV 26 rfl (rowM 0 0 0 0 0 0 0 0 0 0) al26 ?_
        have hBa : Below u2.heap.size u2 (u2.alloc (.cells (rowM 0 0 0 0 0 0 0 0 0 0) 26)) := (Below.refl _ _).alloc (Nat.le_refl _) _
        have HZ : Hid ((u2.alloc (.cells (rowM 0 0 0 0 0 0 0 0 0 0) 26)).heap[u2.heap.size]? = some (.cells (rowM 0 0 0 0 0 0 0 0 0 0) 26 (0, 0))) := Lib.hid (heap_alloc_new _ _)
        have HGM : Hid (Y.heap.size ≤ u2.heap.size) := Lib.hid hS2.size
        have HQ2 := Lib.hid (HQ2.out.below hBa)
        refine hK.out _ _ (hS2.trans (hBa.mono hS2.size)) (fun hS3 => ?_)
        clear hK K hBa
        try simp only [Act.put, List.setIfInBounds_toArray, List.set_cons_zero, List.set_cons_succ]
        generalize u2.alloc (.cells (rowM 0 0 0 0 0 0 0 0 0 0) 26) = u3 at *
        refine wpAnyH_ready (rs := [8]) (by kernel_rfl) (by simp) ?_
        refine (AllReadyH.cons (o := { dst := some 54, op := Op.call { callee := Callee.value (Operand.func 19), args := #[Operand.tmp 53], argTypes := #[31] }, type := 59, pos := "outright.go:20", after := #[{ on := 7, ground := Ground.data }, { on := 7, ground := Ground.chain }], guard := none }) rfl (fun K hK => ?_) AllReadyH.nil)
        go_simp
        refine (get19 _ (Lst ++ bt) _ (by simpa using HQ2.out) (by have := HLN.out; have := HL1.out; simp; omega) (fun z hz => (List.mem_append.1 hz).elim (HLB.out z) (HB1.out z))).mono ?_
        rintro e u4 ⟨rfl, hb1⟩
        rw [(HGP.out bt).1, (HGP.out bt).2]
        dsimp only
        have HZ := Lib.hid ((hb1.block _ (lt_of_block HZ.out)).trans HZ.out)
        refine hK.out _ _ (hS3.trans (hb1.mono hS3.size)) (fun hS4 => ?_)
        clear hK K hb1
        try simp only [Act.put, List.setIfInBounds_toArray, List.set_cons_zero, List.set_cons_succ]
        refine wpAnyH_take (i := 9) (oi := { dst := some 45, op := Op.move (Operand.tmp 54), type := 59, pos := "outright.go:20", after := #[{ on := 8, ground := Ground.data }], guard := none }) (v := ?_) rfl (by kernel_rfl) (by kernel_rfl) (by kernel_rfl) (fun _ _ _ h => h) (Or.inl ⟨by rfl, ?_⟩) (by assumption) ?_
        rotate_left
        · intro w hSw; (try dsimp only at hSw); go_simp
          all_goals with_reducible rfl
        try simp only [Act.put, List.setIfInBounds_toArray, List.set_cons_zero, List.set_cons_succ]
        refine wpAnyH_take (i := 10) (oi := { dst := some 55, op := Op.extract (Operand.tmp 45) 0, type := 26, pos := "outright.go:20", after := #[{ on := 9, ground := Ground.data }], guard := none }) (v := ?_) rfl (by kernel_rfl) (by kernel_rfl) (by kernel_rfl) (fun _ _ _ h => h) (Or.inl ⟨by rfl, ?_⟩) (by assumption) ?_
        rotate_left
        · intro w hSw; (try dsimp only at hSw); go_simp
          all_goals with_reducible rfl
        try simp only [Act.put, List.setIfInBounds_toArray, List.set_cons_zero, List.set_cons_succ]
        refine wpAnyH_take (i := 11) (oi := { dst := some 56, op := Op.extract (Operand.tmp 45) 1, type := 34, pos := "outright.go:20", after := #[{ on := 9, ground := Ground.data }, { on := 13, ground := Ground.gcOnly Departure.lateStores }], guard := none }) (v := ?_) rfl (by kernel_rfl) (by kernel_rfl) (by kernel_rfl) (fun _ _ _ h => h) (Or.inl ⟨by rfl, ?_⟩) (by assumption) ?_
        rotate_left
        · intro w hSw; (try dsimp only at hSw); go_simp
          all_goals with_reducible rfl
        try simp only [Act.put, List.setIfInBounds_toArray, List.set_cons_zero, List.set_cons_succ]
        refine wpAnyH_ready (rs := [13]) (by kernel_rfl) (by simp) ?_
        refine AllReadyH.cons (o := { dst := none, op := Op.store 26 (Operand.tmp 15) (Operand.tmp 55), type := 0, pos := "outright.go:20", after := #[{ on := 12, ground := Ground.data }, { on := 10, ground := Ground.data }, { on := 8, ground := Ground.chain }, { on := 0, ground := Ground.phase }, { on := 1, ground := Ground.phase }, { on := 2, ground := Ground.phase }, { on := 3, ground := Ground.phase }, { on := 4, ground := Ground.phase }, { on := 5, ground := Ground.phase }, { on := 6, ground := Ground.phase }, { on := 7, ground := Ground.phase }, { on := 8, ground := Ground.phase }, { on := 9, ground := Ground.phase }, { on := 10, ground := Ground.phase }, { on := 11, ground := Ground.textOnly Departure.lateStores }, { on := 12, ground := Ground.phase }], guard := none }) rfl (fun K hK => ?_) AllReadyH.nil
        rw [if_pos (by rfl)]
        refine wp_store_row 26 (.tmp 15) (.tmp 55) rfl _ (rowM zk zf zr zb zc zp za zx zh zd) rfl rfl 26 (rowM 0 0 0 0 0 0 0 0 0 0) HZ.out (by kernel_rfl) rfl (one26 zk zf zr zb zc zp za zx zh zd) ?_
        refine hK.out _ _ (below_setRow hS4 HGM.out _) (fun hSe => ?_)
        clear hK K
        try simp only [Act.put]
        refine wpAnyH_take (i := 14) (oi := { dst := some 16, op := Op.assign (Operand.tmp 56), type := 34, pos := "outright.go:20", after := #[{ on := 11, ground := Ground.data }, { on := 13, ground := Ground.chain }, { on := 0, ground := Ground.phase }, { on := 1, ground := Ground.phase }, { on := 2, ground := Ground.phase }, { on := 3, ground := Ground.phase }, { on := 4, ground := Ground.phase }, { on := 5, ground := Ground.phase }, { on := 6, ground := Ground.phase }, { on := 7, ground := Ground.phase }, { on := 8, ground := Ground.phase }, { on := 9, ground := Ground.phase }, { on := 10, ground := Ground.phase }, { on := 11, ground := Ground.phase }, { on := 12, ground := Ground.phase }, { on := 13, ground := Ground.phase }], guard := none }) (v := ?_) rfl (by kernel_rfl) (by kernel_rfl) (by kernel_rfl) (fun _ _ _ h => h) (Or.inl ⟨by rfl, ?_⟩) (by assumption) ?_
        rotate_left
        · intro w hSw; (try dsimp only at hSw); go_simp
          all_goals with_reducible rfl
        try simp only [Act.put, List.setIfInBounds_toArray, List.set_cons_zero, List.set_cons_succ]
        refine wpAnyH_done (by kernel_rfl) ?_ _
        exact NoPanic.normal ⟨_, _, _, _, _, _, _, _, _, _, _, _, _, _, _, _, _, _, _, _, _, _, _, _, _, _, _, _, _, rfl, rfl, setRow_heap _ _ _ _ _ _ HZ.out, hSe⟩
    · rw [if_pos (by rfl)]
      refine wp_allocV 26 rfl (rowM 0 0 0 0 0 0 0 0 0 0) al26 ?_
      have hBa : Below u1.heap.size u1 (u1.alloc (.cells (rowM 0 0 0 0 0 0 0 0 0 0) 26)) := (Below.refl _ _).alloc (Nat.le_refl _) _
      have HZ : Hid ((u1.alloc (.cells (rowM 0 0 0 0 0 0 0 0 0 0) 26)).heap[u1.heap.size]? = some (.cells (rowM 0 0 0 0 0 0 0 0 0 0) 26 (0, 0))) := Lib.hid (heap_alloc_new _ _)
      have HGM : Hid (Y.heap.size ≤ u1.heap.size) := Lib.hid hS1.size
      have HQ1 := Lib.hid (HQ1.out.below hBa)
      refine hK.out _ _ (hS1.trans (hBa.mono hS1.size)) (fun hS2 => ?_)
      clear hK K hBa
      try simp only [Act.put, List.setIfInBounds_toArray, List.set_cons_zero, List.set_cons_succ]
      generalize u1.alloc (.cells (rowM 0 0 0 0 0 0 0 0 0 0) 26) = u2 at *
      refine wpAnyH_ready (rs := [7]) (by kernel_rfl) (by simp) ?_
      refine (AllReadyH.cons (o := { dst := some 53, op := Op.call { callee := Callee.builtin Builtin.append, args := #[Operand.tmp 47, Operand.tmp 52], argTypes := #[31, 31] }, type := 31, pos := "outright.go:20", after := #[{ on := 1, ground := Ground.data }, { on := 6, ground := Ground.data }, { on := 1, ground := Ground.chain }], guard := none }) rfl (fun K hK => ?_) AllReadyH.nil)
      rw [if_pos (by rfl)]
      refine wp_appendR (.tmp 47) (.tmp 52) rfl Y.heap.size _ _ Lst bt rfl HQ1.out rfl (HR1.out.below hS2) (by have := HLN.out; omega) (by have := HL1.out; omega) hS2.size ?_
      intro v1 u3 hv1 hb1 hup
      obtain ⟨ra, rc, rfl⟩ := hv1.rd.form
      have HQ2 := Lib.hid hv1.rd
      have HZ := Lib.hid (hup _ _ _ (by decide) HZ.out)
      refine hK.out _ _ (hS2.trans hb1) (fun hS3 => ?_)
      clear hK K hv1 hb1 hup
      try simp only [Act.put, List.setIfInBounds_toArray, List.set_cons_zero, List.set_cons_succ]
      refine wpAnyH_ready (rs := [8]) (by kernel_rfl) (by simp) ?_
      refine (AllReadyH.cons (o := { dst := some 54, op := Op.call { callee := Callee.value (Operand.func 19), args := #[Operand.tmp 53], argTypes := #[31] }, type := 59, pos := "outright.go:20", after := #[{ on := 7, ground := Ground.data }, { on := 7, ground := Ground.chain }], guard := none }) rfl (fun K hK => ?_) AllReadyH.nil)
      go_simp
      refine (get19 _ (Lst ++ bt) _ (by simpa using HQ2.out) (by have := HLN.out; have := HL1.out; simp; omega) (fun z hz => (List.mem_append.1 hz).elim (HLB.out z) (HB1.out z))).mono ?_
      rintro e u4 ⟨rfl, hb1⟩
      rw [(HGP.out bt).1, (HGP.out bt).2]
      dsimp only
      have HZ := Lib.hid ((hb1.block _ (lt_of_block HZ.out)).trans HZ.out)
      refine hK.out _ _ (hS3.trans (hb1.mono hS3.size)) (fun hS4 => ?_)
      clear hK K hb1
      try simp only [Act.put, List.setIfInBounds_toArray, List.set_cons_zero, List.set_cons_succ]
      refine wpAnyH_take (i := 9) (oi := { dst := some 45, op := Op.move (Operand.tmp 54), type := 59, pos := "outright.go:20", after := #[{ on := 8, ground := Ground.data }], guard := none }) (v := ?_) rfl (by kernel_rfl) (by kernel_rfl) (by kernel_rfl) (fun _ _ _ h => h) (Or.inl ⟨by rfl, ?_⟩) (by assumption) ?_
      rotate_left
      · intro w hSw; (try dsimp only at hSw); go_simp
        all_goals with_reducible rfl
      try simp only [Act.put, List.setIfInBounds_toArray, List.set_cons_zero, List.set_cons_succ]
      refine wpAnyH_take (i := 10) (oi := { dst := some 55, op := Op.extract (Operand.tmp 45) 0, type := 26, pos := "outright.go:20", after := #[{ on := 9, ground := Ground.data }], guard := none }) (v := ?_) rfl (by kernel_rfl) (by kernel_rfl) (by kernel_rfl) (fun _ _ _ h => h) (Or.inl ⟨by rfl, ?_⟩) (by assumption) ?_
      rotate_left
      · intro w hSw; (try dsimp only at hSw); go_simp
        all_goals with_reducible rfl
      try simp only [Act.put, List.setIfInBounds_toArray, List.set_cons_zero, List.set_cons_succ]
      refine wpAnyH_take (i := 11) (oi := { dst := some 56, op := Op.extract (Operand.tmp 45) 1, type := 34, pos := "outright.go:20", after := #[{ on := 9, ground := Ground.data }, { on := 13, ground := Ground.gcOnly Departure.lateStores }], guard := none }) (v := ?_) rfl (by kernel_rfl) (by kernel_rfl) (by kernel_rfl) (fun _ _ _ h => h) (Or.inl ⟨by rfl, ?_⟩) (by assumption) ?_
      rotate_left
      · intro w hSw; (try dsimp only at hSw); go_simp
        all_goals with_reducible rfl
      try simp only [Act.put, List.setIfInBounds_toArray, List.set_cons_zero, List.set_cons_succ]
      refine wpAnyH_ready (rs := [13]) (by kernel_rfl) (by simp) ?_
      refine AllReadyH.cons (o := { dst := none, op := Op.store 26 (Operand.tmp 15) (Operand.tmp 55), type := 0, pos := "outright.go:20", after := #[{ on := 12, ground := Ground.data }, { on := 10, ground := Ground.data }, { on := 8, ground := Ground.chain }, { on := 0, ground := Ground.phase }, { on := 1, ground := Ground.phase }, { on := 2, ground := Ground.phase }, { on := 3, ground := Ground.phase }, { on := 4, ground := Ground.phase }, { on := 5, ground := Ground.phase }, { on := 6, ground := Ground.phase }, { on := 7, ground := Ground.phase }, { on := 8, ground := Ground.phase }, { on := 9, ground := Ground.phase }, { on := 10, ground := Ground.phase }, { on := 11, ground := Ground.textOnly Departure.lateStores }, { on := 12, ground := Ground.phase }], guard := none }) rfl (fun K hK => ?_) AllReadyH.nil
      rw [if_pos (by rfl)]
      refine wp_store_row 26 (.tmp 15) (.tmp 55) rfl _ (rowM zk zf zr zb zc zp za zx zh zd) rfl rfl 26 (rowM 0 0 0 0 0 0 0 0 0 0) HZ.out (by kernel_rfl) rfl (one26 zk zf zr zb zc zp za zx zh zd) ?_
      refine hK.out _ _ (below_setRow hS4 HGM.out _) (fun hSe => ?_)
      clear hK K
      try simp only [Act.put]
      refine wpAnyH_take (i := 14) (oi := { dst := some 16, op := Op.assign (Operand.tmp 56), type := 34, pos := "outright.go:20", after := #[{ on := 11, ground := Ground.data }, { on := 13, ground := Ground.chain }, { on := 0, ground := Ground.phase }, { on := 1, ground := Ground.phase }, { on := 2, ground := Ground.phase }, { on := 3, ground := Ground.phase }, { on := 4, ground := Ground.phase }, { on := 5, ground := Ground.phase }, { on := 6, ground := Ground.phase }, { on := 7, ground := Ground.phase }, { on := 8, ground := Ground.phase }, { on := 9, ground := Ground.phase }, { on := 10, ground := Ground.phase }, { on := 11, ground := Ground.phase }, { on := 12, ground := Ground.phase }, { on := 13, ground := Ground.phase }], guard := none }) (v := ?_) rfl (by kernel_rfl) (by kernel_rfl) (by kernel_rfl) (fun _ _ _ h => h) (Or.inl ⟨by rfl, ?_⟩) (by assumption) ?_
      rotate_left
      · intro w hSw; (try dsimp only at hSw); go_simp
        all_goals with_reducible rfl
      try simp only [Act.put, List.setIfInBounds_toArray, List.set_cons_zero, List.set_cons_succ]
      refine wpAnyH_done (by kernel_rfl) ?_ _
      exact NoPanic.normal ⟨_, _, _, _, _, _, _, _, _, _, _, _, _, _, _, _, _, _, _, _, _, _, _, _, _, _, _, _, _, rfl, rfl, setRow_heap _ _ _ _ _ _ HZ.out, hSe⟩
  · rw [if_pos (by rfl)]
    refine wp_allocV 26 rfl (rowM 0 0 0 0 0 0 0 0 0 0) al26 ?_
    have hBa : Below Y.drew.heap.size Y.drew (Y.drew.alloc (.cells (rowM 0 0 0 0 0 0 0 0 0 0) 26)) := (Below.refl _ _).alloc (Nat.le_refl _) _
    have HZ : Hid ((Y.drew.alloc (.cells (rowM 0 0 0 0 0 0 0 0 0 0) 26)).heap[Y.drew.heap.size]? = some (.cells (rowM 0 0 0 0 0 0 0 0 0 0) 26 (0, 0))) := Lib.hid (heap_alloc_new _ _)
    have HGM : Hid (Y.heap.size ≤ Y.drew.heap.size) := Lib.hid hS0.size
    refine hK.out _ _ (hS0.trans (hBa.mono hS0.size)) (fun hS1 => ?_)
    clear hK K hBa
    try simp only [Act.put, List.setIfInBounds_toArray, List.set_cons_zero, List.set_cons_succ]
    generalize Y.drew.alloc (.cells (rowM 0 0 0 0 0 0 0 0 0 0) 26) = u1 at *
    refine wpAnyH_ready (rs := [1]) (by kernel_rfl) (by simp) ?_
    refine (AllReadyH.cons (o := { dst := some 47, op := Op.call { callee := Callee.builtin Builtin.append, args := #[Operand.const (Value.slice none 0 0), Operand.tmp 46], argTypes := #[31, 31] }, type := 31, pos := "outright.go:20", after := #[{ on := 0, ground := Ground.data }], guard := none }) rfl (fun K hK => ?_) AllReadyH.nil)
    rw [if_pos (by rfl)]
    refine wp_appendR (.const (.slice none 0 0)) (.tmp 46) rfl Y.heap.size _ _ [] Lst rfl (World.ownsRow_nil _ _ _ _) rfl (HV.out.below hS1) (by simp) (by have := HLN.out; omega) hS1.size ?_
    intro v1 u2 hv1 hb1 hup
    obtain ⟨qa, qc, rfl⟩ := hv1.rd.form
    have HQ1 : Hid (Bytes Y.heap.size u2 (.slice qa ([] ++ Lst).length qc) Lst) := Lib.hid hv1
    have HZ := Lib.hid (hup _ _ _ (by decide) HZ.out)
    refine hK.out _ _ (hS1.trans hb1) (fun hS2 => ?_)
    clear hK K hv1 hb1 hup
    try simp only [Act.put, List.setIfInBounds_toArray, List.set_cons_zero, List.set_cons_succ]
    refine wpAnyH_ready (rs := [7]) (by kernel_rfl) (by simp) ?_
    refine (AllReadyH.cons (o := { dst := some 53, op := Op.call { callee := Callee.builtin Builtin.append, args := #[Operand.tmp 47, Operand.tmp 52], argTypes := #[31, 31] }, type := 31, pos := "outright.go:20", after := #[{ on := 1, ground := Ground.data }, { on := 6, ground := Ground.data }, { on := 1, ground := Ground.chain }], guard := none }) rfl (fun K hK => ?_) AllReadyH.nil)
    rw [if_pos (by rfl)]
    refine wp_appendR (.tmp 47) (.tmp 52) rfl Y.heap.size _ _ Lst bt rfl HQ1.out rfl (HR1.out.below hS2) (by have := HLN.out; omega) (by have := HL1.out; omega) hS2.size ?_
    intro v1 u3 hv1 hb1 hup
    obtain ⟨ra, rc, rfl⟩ := hv1.rd.form
    have HQ2 := Lib.hid hv1.rd
    have HZ := Lib.hid (hup _ _ _ (by decide) HZ.out)
    refine hK.out _ _ (hS2.trans hb1) (fun hS3 => ?_)
    clear hK K hv1 hb1 hup
    try simp only [Act.put, List.setIfInBounds_toArray, List.set_cons_zero, List.set_cons_succ]
    refine wpAnyH_ready (rs := [8]) (by kernel_rfl) (by simp) ?_
    refine (AllReadyH.cons (o := { dst := some 54, op := Op.call { callee := Callee.value (Operand.func 19), args := #[Operand.tmp 53], argTypes := #[31] }, type := 59, pos := "outright.go:20", after := #[{ on := 7, ground := Ground.data }, { on := 7, ground := Ground.chain }], guard := none }) rfl (fun K hK => ?_) AllReadyH.nil)
    go_simp
    refine (get19 _ (Lst ++ bt) _ (by simpa using HQ2.out) (by have := HLN.out; have := HL1.out; simp; omega) (fun z hz => (List.mem_append.1 hz).elim (HLB.out z) (HB1.out z))).mono ?_
    rintro e u4 ⟨rfl, hb1⟩
    rw [(HGP.out bt).1, (HGP.out bt).2]
    dsimp only
    have HZ := Lib.hid ((hb1.block _ (lt_of_block HZ.out)).trans HZ.out)
    refine hK.out _ _ (hS3.trans (hb1.mono hS3.size)) (fun hS4 => ?_)
    clear hK K hb1
    try simp only [Act.put, List.setIfInBounds_toArray, List.set_cons_zero, List.set_cons_succ]
    refine wpAnyH_take (i := 9) (oi := { dst := some 45, op := Op.move (Operand.tmp 54), type := 59, pos := "outright.go:20", after := #[{ on := 8, ground := Ground.data }], guard := none }) (v := ?_) rfl (by kernel_rfl) (by kernel_rfl) (by kernel_rfl) (fun _ _ _ h => h) (Or.inl ⟨by rfl, ?_⟩) (by assumption) ?_
    rotate_left
    · intro w hSw; (try dsimp only at hSw); go_simp
      all_goals with_reducible rfl
    try simp only [Act.put, List.setIfInBounds_toArray, List.set_cons_zero, List.set_cons_succ]
    refine wpAnyH_take (i := 10) (oi := { dst := some 55, op := Op.extract (Operand.tmp 45) 0, type := 26, pos := "outright.go:20", after := #[{ on := 9, ground := Ground.data }], guard := none }) (v := ?_) rfl (by kernel_rfl) (by kernel_rfl) (by kernel_rfl) (fun _ _ _ h => h) (Or.inl ⟨by rfl, ?_⟩) (by assumption) ?_
    rotate_left
    · intro w hSw; (try dsimp only at hSw); go_simp
      all_goals with_reducible rfl
    try simp only [Act.put, List.setIfInBounds_toArray, List.set_cons_zero, List.set_cons_succ]
    refine wpAnyH_take (i := 11) (oi := { dst := some 56, op := Op.extract (Operand.tmp 45) 1, type := 34, pos := "outright.go:20", after := #[{ on := 9, ground := Ground.data }, { on := 13, ground := Ground.gcOnly Departure.lateStores }], guard := none }) (v := ?_) rfl (by kernel_rfl) (by kernel_rfl) (by kernel_rfl) (fun _ _ _ h => h) (Or.inl ⟨by rfl, ?_⟩) (by assumption) ?_
    rotate_left
    · intro w hSw; (try dsimp only at hSw); go_simp
      all_goals with_reducible rfl
    try simp only [Act.put, List.setIfInBounds_toArray, List.set_cons_zero, List.set_cons_succ]
    refine wpAnyH_ready (rs := [13]) (by kernel_rfl) (by simp) ?_
    refine AllReadyH.cons (o := { dst := none, op := Op.store 26 (Operand.tmp 15) (Operand.tmp 55), type := 0, pos := "outright.go:20", after := #[{ on := 12, ground := Ground.data }, { on := 10, ground := Ground.data }, { on := 8, ground := Ground.chain }, { on := 0, ground := Ground.phase }, { on := 1, ground := Ground.phase }, { on := 2, ground := Ground.phase }, { on := 3, ground := Ground.phase }, { on := 4, ground := Ground.phase }, { on := 5, ground := Ground.phase }, { on := 6, ground := Ground.phase }, { on := 7, ground := Ground.phase }, { on := 8, ground := Ground.phase }, { on := 9, ground := Ground.phase }, { on := 10, ground := Ground.phase }, { on := 11, ground := Ground.textOnly Departure.lateStores }, { on := 12, ground := Ground.phase }], guard := none }) rfl (fun K hK => ?_) AllReadyH.nil
    rw [if_pos (by rfl)]
    refine wp_store_row 26 (.tmp 15) (.tmp 55) rfl _ (rowM zk zf zr zb zc zp za zx zh zd) rfl rfl 26 (rowM 0 0 0 0 0 0 0 0 0 0) HZ.out (by kernel_rfl) rfl (one26 zk zf zr zb zc zp za zx zh zd) ?_
    refine hK.out _ _ (below_setRow hS4 HGM.out _) (fun hSe => ?_)
    clear hK K
    try simp only [Act.put]
    refine wpAnyH_take (i := 14) (oi := { dst := some 16, op := Op.assign (Operand.tmp 56), type := 34, pos := "outright.go:20", after := #[{ on := 11, ground := Ground.data }, { on := 13, ground := Ground.chain }, { on := 0, ground := Ground.phase }, { on := 1, ground := Ground.phase }, { on := 2, ground := Ground.phase }, { on := 3, ground := Ground.phase }, { on := 4, ground := Ground.phase }, { on := 5, ground := Ground.phase }, { on := 6, ground := Ground.phase }, { on := 7, ground := Ground.phase }, { on := 8, ground := Ground.phase }, { on := 9, ground := Ground.phase }, { on := 10, ground := Ground.phase }, { on := 11, ground := Ground.phase }, { on := 12, ground := Ground.phase }, { on := 13, ground := Ground.phase }], guard := none }) (v := ?_) rfl (by kernel_rfl) (by kernel_rfl) (by kernel_rfl) (fun _ _ _ h => h) (Or.inl ⟨by rfl, ?_⟩) (by assumption) ?_
    rotate_left
    · intro w hSw; (try dsimp only at hSw); go_simp
      all_goals with_reducible rfl
    try simp only [Act.put, List.setIfInBounds_toArray, List.set_cons_zero, List.set_cons_succ]
    refine wpAnyH_done (by kernel_rfl) ?_ _
    exact NoPanic.normal ⟨_, _, _, _, _, _, _, _, _, _, _, _, _, _, _, _, _, _, _, _, _, _, _, _, _, _, _, _, _, rfl, rfl, setRow_heap _ _ _ _ _ _ HZ.out, hSe⟩
end Go.Proofs.YtcahlponmbnkcaaDoor
