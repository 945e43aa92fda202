/- BPDU: Get. -/
import Derived.Test.YtcahlponmbnkcaaDoorZ2
namespace Go.Proofs.YtcahlponmbnkcaaDoor
open Go Go.RowKit

abbrev rowM (k f r b c p a x h d : Int) : Array Value := #[.int .i64 k, .int .u8 f, .int .u64 r, .int .u64 b, .int .u32 c, .int .u16 p, .int .u16 a, .int .u16 x, .int .u16 h, .int .u16 d]
theorem al26 (w : World) : (Instr.alloc 26 true (.tuple #[])).run Tryd.prog w = .ok (.pointer (some ⟨w.heap.size, 0, none⟩)) (w.alloc (.cells (rowM 0 0 0 0 0 0 0 0 0 0) 26)) := by kernel_rfl
theorem one26 (k f r b c p a x h d : Int) : (rowM k f r b c p a x h d).all (·.oneCell') = true := by simp [Value.oneCell']

theorem nx_below {w w' : World} {q b off cap o : Nat} {bs : List Int} (h : Nx w q b off cap bs o) (hb : Below w.heap.size w w') : Nx w' q b off cap bs o :=
  ⟨(hb.block _ (lt_of_block h.1)).trans h.1, h.2.1.below hb, h.2.2⟩

set_option maxRecDepth 100000 in
set_option maxHeartbeats 1000000 in
theorem get_short (ad : Option Addr) (n c : Nat) (w : World) (hn : n < 4) :
    Calls Tryd.prog 19 #[.slice ad n c] w fun e w' => e = .returned (.tuple #[msgV 0 0 0 0 0 0 0 0 0 0, .int .i64 4]) ∧ Below w.heap.size w w' := by
  have hni : (n : Int) < 4 := by omega
  go_enter Tryd.func19, Tryd.ntmps19
  go_wp2_with (first
    | ((with_reducible show wpList _ _ _ (Oper.mk _ (.alloc _) _ _ _ _ :: _) _ _); refine wpList_allocV rfl 26 rfl _ al26 ?_; go_frame)
    | ((with_reducible show wpList _ _ _ (Oper.mk _ (.build _ _) _ _ _ _ :: _) _ _); refine wpList_buildV rfl 26 _ rfl (rowM 0 0 0 0 0 0 0 0 0 0) (by kernel_rfl) ?_; go_frame)
    | ((with_reducible show wpList _ _ _ (Oper.mk _ (.store 26 _ _) _ _ _ _ :: _) _ _); go_loud (refine wpList_store_row rfl 26 (.tmp 2) (.tmp 11) rfl w.heap.size (rowM 0 0 0 0 0 0 0 0 0 0) rfl rfl 26 (rowM 0 0 0 0 0 0 0 0 0 0) (heap_alloc_new _ _) (by kernel_rfl) rfl (one26 0 0 0 0 0 0 0 0 0 0) ?_); go_frame))
  refine bodyPost_ret (results_cell_row2 (P := Tryd.prog) Tryd.results19 _ _ w.heap.size 26 (rowM 0 0 0 0 0 0 0 0 0 0) (0, 0) _ rfl (setRow_heap _ _ _ _ _ _ (heap_alloc_new _ _)) Tryd.underlying26 rfl (by kernel_rfl)) rfl ⟨rfl, below_setRow ((Below.refl _ _).alloc (Nat.le_refl _) _) (Nat.le_refl _) _⟩

set_option maxRecDepth 100000 in
set_option maxHeartbeats 2000000 in
theorem get_long (b off cap n : Nat) (bs : List Int) (w : World) (hr : Rd w (.slice (some ⟨b, off, none⟩) n cap) bs) (h4 : 4 ≤ n) (hl : n ≤ 2000) (hb : ∀ z ∈ bs, 0 ≤ z ∧ z < 256) :
    Calls Tryd.prog 19 #[.slice (some ⟨b, off, none⟩) n cap] w fun e w' => e = .returned (.tuple #[getV bs, .int .i64 (getE bs)]) ∧ Below w.heap.size w w' := by
  obtain ⟨hn, hnc, hmx, hc⟩ := hr.split
  have g := fun (i : Nat) (h : i < n) => List.getElem?_eq_getElem (l := bs) (i := i) (by omega)
  obtain ⟨x0, hx0⟩ : ∃ x, bs[0]? = some x := ⟨_, g 0 (by omega)⟩
  obtain ⟨x1, hx1⟩ : ∃ x, bs[1]? = some x := ⟨_, g 1 (by omega)⟩
  obtain ⟨x2, hx2⟩ : ∃ x, bs[2]? = some x := ⟨_, g 2 (by omega)⟩
  obtain ⟨x3, hx3⟩ : ∃ x, bs[3]? = some x := ⟨_, g 3 (by omega)⟩
  have hkd : kindOf bs = kind4 x0 x1 x2 x3 := by
    have : bs.take 4 = [x0, x1, x2, x3] := by
      apply List.ext_getElem?
      intro i
      rw [List.getElem?_take]
      match i with
      | 0 => simpa using hx0
      | 1 => simpa using hx1
      | 2 => simpa using hx2
      | 3 => simpa using hx3
      | i + 4 => rw [if_neg (by omega)]; rfl
    unfold kindOf kind4
    rw [this]
  have c0 : w.cell? ⟨b, off, none⟩ = some (.int .u8 x0) := hc 0 _ (by rw [List.getElem?_map, hx0]; rfl)
  have c1 : w.cell? ⟨b, off + 1, none⟩ = some (.int .u8 x1) := hc 1 _ (by rw [List.getElem?_map, hx1]; rfl)
  have c2 : w.cell? ⟨b, off + 2, none⟩ = some (.int .u8 x2) := hc 2 _ (by rw [List.getElem?_map, hx2]; rfl)
  have c3 : w.cell? ⟨b, off + 3, none⟩ = some (.int .u8 x3) := hc 3 _ (by rw [List.getElem?_map, hx3]; rfl)
  have hbw : b < w.heap.size := lt_of_cell c0
  have hni : ¬ (n : Int) < 4 := by omega
  have hci : (4 : Int) ≤ cap := by omega
  have ha : ∀ w, (Instr.arrayAt 65 (.slice (some ⟨b, off, none⟩) 4 cap)).run Tryd.prog w = .ok (.pointer (some ⟨b, off, none⟩)) w := fun w => run_arrayAt w 65 5 4 _ 4 cap und65 (Nat.le_refl _)
  have HR := Lib.hid hr
  have HB := Lib.hid hb
  have HN := Lib.hid hn
  have HC := Lib.hid hc
  have HBW := Lib.hid hbw
  have HKD := Lib.hid hkd
  have HLE := Lib.hid (show 4 ≤ n ∧ n ≤ 2000 ∧ n ≤ cap from ⟨h4, hl, hnc⟩)
  clear hr hb hn hc hkd hx0 hx1 hx2 hx3 g h4 hl hnc hbw
  go_enter Tryd.func19, Tryd.ntmps19
  go_wp2_with ((with_reducible show wpList _ _ _ (Oper.mk _ (.alloc _) _ _ _ _ :: _) _ _); refine wpList_allocV rfl 26 rfl _ al26 ?_; go_frame)
  have HB0 : Hid (Below w.heap.size w (w.alloc (.cells (rowM 0 0 0 0 0 0 0 0 0 0) 26))) := Lib.hid ((Below.refl _ _).alloc (Nat.le_refl _) _)
  have d0 := Below.cell_some HB0.out c0
  have d1 := Below.cell_some HB0.out c1
  have d2 := Below.cell_some HB0.out c2
  have d3 := Below.cell_some HB0.out c3
  refine Code.wp_mono (Q := fun e a' w' => ∃ (v8 v9 v10 v12 v13 v14 v15 v16 v17 v18 v19 v20 : Value), e = .normal ∧ a' = { tmps := #[.slice (some ⟨b, off, none⟩) n cap, undef, .pointer (some ⟨w.heap.size, 0, none⟩), .int .i64 0, .int .i64 (kind4 x0 x1 x2 x3), .bool (!decide (kind4 x0 x1 x2 x3 = 0)), undef, undef, v8, v9, v10, undef, v12, v13, v14, v15, v16, v17, v18, v19, v20, undef, undef, undef, undef, undef, undef, undef, undef, undef, undef, undef, undef, undef, undef, undef, undef, undef, undef, undef, undef, undef, undef, undef, undef, undef, undef, undef, undef, undef, undef, undef, undef, undef, undef, undef, undef, undef, undef, undef, undef, undef, undef, undef, undef, undef, undef, undef, undef, undef, undef, undef, undef, undef, undef, undef, undef, undef, undef, undef, undef, undef, undef, undef, undef], defers := [] } ∧ Below (w.alloc (.cells (rowM 0 0 0 0 0 0 0 0 0 0) 26)).heap.size (w.alloc (.cells (rowM 0 0 0 0 0 0 0 0 0 0) 26)) w') ?_ ?_
  · rintro e a' W ⟨v8, v9, v10, v12, v13, v14, v15, v16, v17, v18, v19, v20, rfl, rfl, hBW⟩
    clear d0 d1 d2 d3 c0 c1 c2 c3 ha
    have HW : Hid (Below w.heap.size w W) := Lib.hid (HB0.out.trans (hBW.mono (by simp)))
    have H0 : Hid (W.heap[w.heap.size]? = some (.cells (rowM 0 0 0 0 0 0 0 0 0 0) 26 (0, 0))) := Lib.hid ((hBW.block _ (by simp)).trans (heap_alloc_new w _))
    clear HB0 hBW
    have HRW := Lib.hid (HR.out.below HW.out)
    generalize kind4 x0 x1 x2 x3 = K at *
    by_cases hK0 : K = 0
    · subst hK0
      rw [show (!decide ((0 : Int) = 0)) = false from rfl]
      have hE : getE bs = 5 := by unfold getE; rw [if_neg (by have := HN.out; have := HLE.out; omega), if_pos HKD.out]
      have hV := (get_no (by rw [hE]; decide)).2
      go_wp2_with (first
        | ((with_reducible show wpList _ _ _ (Oper.mk _ (.build _ _) _ _ _ _ :: _) _ _); refine wpList_buildV rfl 26 _ rfl (rowM 0 0 0 0 0 0 0 0 0 0) (by kernel_rfl) ?_; go_frame)
        | ((with_reducible show wpList _ _ _ (Oper.mk _ (.store 26 _ _) _ _ _ _ :: _) _ _); go_loud (refine wpList_store_row rfl 26 (.tmp 2) (.tmp 24) rfl w.heap.size (rowM 0 0 0 0 0 0 0 0 0 0) rfl rfl 26 (rowM 0 0 0 0 0 0 0 0 0 0) H0.out (by kernel_rfl) rfl (one26 0 0 0 0 0 0 0 0 0 0) ?_); go_frame))
      refine bodyPost_ret (results_cell_row2 (P := Tryd.prog) Tryd.results19 _ _ w.heap.size 26 (rowM 0 0 0 0 0 0 0 0 0 0) (0, 0) _ rfl (setRow_heap _ _ _ _ _ _ H0.out) Tryd.underlying26 rfl (by kernel_rfl)) rfl ⟨by rw [hE, hV]; first | done | rfl, below_setRow HW.out (Nat.le_refl _) _⟩
    rw [show (!decide (K = 0)) = true by simp [hK0]]
    have hsz : (if K = 2 then (4 : Int) else if K = 3 then 36 else 35) = (sizeI K : Int) := by
      unfold sizeI
      split
      · rfl
      · split <;> rfl
    have HSZ := Lib.hid hsz
    clear hsz
    by_cases hs : n < sizeI K
    · have hsi : (n : Int) < (sizeI K : Int) := by omega
      have hE : getE bs = 4 := by unfold getE; rw [if_neg (by have := HN.out; have := HLE.out; omega), HKD.out, if_neg hK0, if_pos (by rw [← HN.out]; exact hs)]
      have hV := (get_no (by rw [hE]; decide)).2
      go_wp2_with (first
        | (go_at_call 37; refine (size_any _ _).mono ?_; rintro e z ⟨rfl, rfl⟩; rw [HSZ.out])
        | ((with_reducible show wpList _ _ _ (Oper.mk _ (.build _ _) _ _ _ _ :: _) _ _); refine wpList_buildV rfl 26 _ rfl (rowM 0 0 0 0 0 0 0 0 0 0) (by kernel_rfl) ?_; go_frame)
        | ((with_reducible show wpList _ _ _ (Oper.mk _ (.store 26 _ _) _ _ _ _ :: _) _ _); go_loud (refine wpList_store_row rfl 26 (.tmp 2) (.tmp 31) rfl w.heap.size (rowM 0 0 0 0 0 0 0 0 0 0) rfl rfl 26 (rowM 0 0 0 0 0 0 0 0 0 0) H0.out (by kernel_rfl) rfl (one26 0 0 0 0 0 0 0 0 0 0) ?_); go_frame))
      refine bodyPost_ret (results_cell_row2 (P := Tryd.prog) Tryd.results19 _ _ w.heap.size 26 (rowM 0 0 0 0 0 0 0 0 0 0) (0, 0) _ rfl (setRow_heap _ _ _ _ _ _ H0.out) Tryd.underlying26 rfl (by kernel_rfl)) rfl ⟨by rw [hE, hV]; first | done | rfl, below_setRow HW.out (Nat.le_refl _) _⟩
    have hsi : ¬ (n : Int) < (sizeI K : Int) := by omega
    have HS := Lib.hid hs
    by_cases h2 : K = 2
    · have hE : getE bs = 0 := by unfold getE; rw [if_neg (by have := HN.out; have := HLE.out; omega), HKD.out, if_neg hK0, if_neg (by rw [← HN.out]; exact hs), if_pos h2]
      have hV : getV bs = msgV 2 0 0 0 0 0 0 0 0 0 := by unfold getV; rw [if_pos hE, HKD.out, if_pos h2]
      subst h2
      go_wp2_with (first
        | (go_at_call 37; refine (size_any _ _).mono ?_; rintro e z ⟨rfl, rfl⟩; rw [HSZ.out])
        | ((with_reducible show wpList _ _ _ (Oper.mk _ (.build _ _) _ _ _ _ :: _) _ _); refine wpList_buildV rfl 26 _ rfl (rowM 2 0 0 0 0 0 0 0 0 0) (by kernel_rfl) ?_; go_frame)
        | ((with_reducible show wpList _ _ _ (Oper.mk _ (.store 26 _ _) _ _ _ _ :: _) _ _); go_loud (refine wpList_store_row rfl 26 (.tmp 2) (.tmp 35) rfl w.heap.size (rowM 2 0 0 0 0 0 0 0 0 0) rfl rfl 26 (rowM 0 0 0 0 0 0 0 0 0 0) H0.out (by kernel_rfl) rfl (one26 2 0 0 0 0 0 0 0 0 0) ?_); go_frame))
      refine bodyPost_ret (results_cell_row2 (P := Tryd.prog) Tryd.results19 _ _ w.heap.size 26 (rowM 2 0 0 0 0 0 0 0 0 0) (0, 0) _ rfl (setRow_heap _ _ _ _ _ _ H0.out) Tryd.underlying26 rfl (by kernel_rfl)) rfl ⟨by rw [hE, hV]; first | done | rfl, below_setRow HW.out (Nat.le_refl _) _⟩
    have hKK : K = 1 ∨ K = 3 := by
      rcases kind_three bs with e | ⟨e, _⟩ | ⟨e, _⟩ | ⟨e, _⟩
      · exact absurd (HKD.out.symm.trans e) hK0
      · exact .inl (HKD.out.symm.trans e)
      · exact absurd (HKD.out.symm.trans e) h2
      · exact .inr (HKD.out.symm.trans e)
    have H35 : Hid (35 ≤ n) := Lib.hid (by
      unfold sizeI at hs
      rw [if_neg h2] at hs
      split at hs <;> omega)
    have HKK := Lib.hid hKK
    clear hKK
    have hc4 : ¬ cap = 4 := by have := H35.out; have := HLE.out; omega
    go_upto_region 11 with (first
      | (go_at_call 37; refine (size_any _ _).mono ?_; rintro e z ⟨rfl, rfl⟩; rw [HSZ.out])
      | (go_at_call 38; refine (fields_any _ _ ⟨_, _, _, rfl⟩).mono ?_; rintro e w2 ⟨rfl, rfl⟩))
    have HQ : Hid (w.heap.size < W.heap.size) := Lib.hid (lt_of_block H0.out)
    have HBX : Hid (Below w.heap.size w (W.alloc (.cells #[.slice (some ⟨b, off + 4, none⟩) (n - 4) (cap - 4)] 31))) := Lib.hid (HW.out.alloc (Nat.le_of_lt HQ.out) _)
    have HZX : Hid ((W.alloc (.cells #[.slice (some ⟨b, off + 4, none⟩) (n - 4) (cap - 4)] 31)).heap[w.heap.size]? = some (.cells (rowM 0 0 0 0 0 0 0 0 0 0) 26 (0, 0))) := Lib.hid ((Below.heap_alloc _ _ _ HQ.out).trans H0.out)
    have HN4 : Hid (Nx (W.alloc (.cells #[.slice (some ⟨b, off + 4, none⟩) (n - 4) (cap - 4)] 31)) W.heap.size b off cap bs 4) := Lib.hid (by
      refine ⟨?_, ?_, Nat.lt_trans HBW.out HQ.out⟩
      · rw [← HN.out]; exact heap_alloc_new _ _
      · rw [← HN.out]; exact HRW.out.below ((Below.refl _ _).alloc (Nat.le_refl _) _))
    have HGE : Hid (getE bs = if mayG bs = true ∧ (kindOf bs = 3 → bs[35]? = some 0) then 0 else 5) := Lib.hid (by
      conv => lhs; unfold getE
      rw [if_neg (by have := HN.out; have := HLE.out; omega), if_neg (by rw [HKD.out]; exact hK0), if_neg (by rw [HKD.out, ← HN.out]; exact hs), if_neg (by rw [HKD.out]; exact h2)])
    have HGV : Hid (getE bs = 0 → getV bs = msgV (kindOf bs) (fld bs 4 1) (fld bs 5 8) (fld bs 17 8) (fld bs 13 4) (fld bs 25 2) (fld bs 27 2) (fld bs 29 2) (fld bs 31 2) (fld bs 33 2)) := Lib.hid (fun h => by unfold getV; rw [if_pos h, if_neg (by rw [HKD.out]; exact h2)])
    have HS3 : Hid (K = 3 → 36 ≤ n) := Lib.hid (fun h => by subst h; have : sizeI 3 = 36 := rfl; omega)
    clear HRW HW H0 hs hsi h2 hK0 hc4 hni hci HSZ
    generalize (W.alloc (.cells #[.slice (some ⟨b, off + 4, none⟩) (n - 4) (cap - 4)] 31)) = X at *
    generalize W.heap.size = q at *
    obtain ⟨zf, hzf⟩ : ∃ z, fld bs 4 1 = z := ⟨_, rfl⟩
    have bf := fld_bounds bs 4 1 HB.out (by have := H35.out; have := HN.out; omega)
    rw [pow1, hzf] at bf
    have HFf := Lib.hid hzf
    clear hzf
    have wf : IntKind.u8.wrap zf = zf := by simp [IntKind.wrap, IntKind.bits, IntKind.signed]; omega
    obtain ⟨zr, hzr⟩ : ∃ z, fld bs 5 8 = z := ⟨_, rfl⟩
    have br := fld_bounds bs 5 8 HB.out (by have := H35.out; have := HN.out; omega)
    rw [pow8, hzr] at br
    have HFr := Lib.hid hzr
    clear hzr
    obtain ⟨zc, hzc⟩ : ∃ z, fld bs 13 4 = z := ⟨_, rfl⟩
    have bc := fld_bounds bs 13 4 HB.out (by have := H35.out; have := HN.out; omega)
    rw [pow4, hzc] at bc
    have HFc := Lib.hid hzc
    clear hzc
    have wc : IntKind.u32.wrap zc = zc := by simp [IntKind.wrap, IntKind.bits, IntKind.signed]; omega
    obtain ⟨zb, hzb⟩ : ∃ z, fld bs 17 8 = z := ⟨_, rfl⟩
    have bb := fld_bounds bs 17 8 HB.out (by have := H35.out; have := HN.out; omega)
    rw [pow8, hzb] at bb
    have HFb := Lib.hid hzb
    clear hzb
    obtain ⟨zp, hzp⟩ : ∃ z, fld bs 25 2 = z := ⟨_, rfl⟩
    have bp := fld_bounds bs 25 2 HB.out (by have := H35.out; have := HN.out; omega)
    rw [pow2, hzp] at bp
    have HFp := Lib.hid hzp
    clear hzp
    have wp : IntKind.u16.wrap zp = zp := by simp [IntKind.wrap, IntKind.bits, IntKind.signed]; omega
    obtain ⟨za, hza⟩ : ∃ z, fld bs 27 2 = z := ⟨_, rfl⟩
    have ba := fld_bounds bs 27 2 HB.out (by have := H35.out; have := HN.out; omega)
    rw [pow2, hza] at ba
    have HFa := Lib.hid hza
    clear hza
    have wa : IntKind.u16.wrap za = za := by simp [IntKind.wrap, IntKind.bits, IntKind.signed]; omega
    obtain ⟨zx, hzx⟩ : ∃ z, fld bs 29 2 = z := ⟨_, rfl⟩
    have bx := fld_bounds bs 29 2 HB.out (by have := H35.out; have := HN.out; omega)
    rw [pow2, hzx] at bx
    have HFx := Lib.hid hzx
    clear hzx
    have wx : IntKind.u16.wrap zx = zx := by simp [IntKind.wrap, IntKind.bits, IntKind.signed]; omega
    obtain ⟨zh, hzh⟩ : ∃ z, fld bs 31 2 = z := ⟨_, rfl⟩
    have bh := fld_bounds bs 31 2 HB.out (by have := H35.out; have := HN.out; omega)
    rw [pow2, hzh] at bh
    have HFh := Lib.hid hzh
    clear hzh
    have wh : IntKind.u16.wrap zh = zh := by simp [IntKind.wrap, IntKind.bits, IntKind.signed]; omega
    obtain ⟨zd, hzd⟩ : ∃ z, fld bs 33 2 = z := ⟨_, rfl⟩
    have bd := fld_bounds bs 33 2 HB.out (by have := H35.out; have := HN.out; omega)
    rw [pow2, hzd] at bd
    have HFd := Lib.hid hzd
    clear hzd
    have wd : IntKind.u16.wrap zd = zd := by simp [IntKind.wrap, IntKind.bits, IntKind.signed]; omega
    clear bf br bc bb bp ba bx bh bd
    have HMG : Hid (mayG bs = mayB K zf zr zb zc zp za zx zh zd) := Lib.hid (by unfold mayG; rw [HKD.out, HFf.out, HFr.out, HFb.out, HFc.out, HFp.out, HFa.out, HFx.out, HFh.out, HFd.out])
    go_wp2_with fail
    refine (next_nx 1 q b off cap 4 bs _ HN4.out (by decide) (by decide) (by have := H35.out; have := HN.out; omega) HB.out).mono ?_
    rintro e y1 ⟨rfl, ⟨u, hu⟩, hN⟩
    rw [HFf.out]
    have HN5 : Hid (Nx y1 q b off cap bs 5) := Lib.hid hN
    have HBX : Hid (Below w.heap.size w y1) := Lib.hid (by rw [hu]; exact HBX.out.setCell (p := ⟨q, 0, none⟩) (Nat.le_of_lt HQ.out) _)
    have HZX : Hid (y1.heap[w.heap.size]? = some (.cells (rowM 0 0 0 0 0 0 0 0 0 0) 26 (0, 0))) := Lib.hid (by rw [hu]; exact (heap_setCell_other _ ⟨q, 0, none⟩ _ _ (Nat.ne_of_lt HQ.out)).trans HZX.out)
    clear hu hN
    go_wp2_with fail
    refine (next_nx 8 q b off cap 5 bs _ HN5.out (by decide) (by decide) (by have := H35.out; have := HN.out; omega) HB.out).mono ?_
    rintro e y2 ⟨rfl, ⟨u, hu⟩, hN⟩
    rw [HFr.out]
    have HN13 : Hid (Nx y2 q b off cap bs 13) := Lib.hid hN
    have HBX : Hid (Below w.heap.size w y2) := Lib.hid (by rw [hu]; exact HBX.out.setCell (p := ⟨q, 0, none⟩) (Nat.le_of_lt HQ.out) _)
    have HZX : Hid (y2.heap[w.heap.size]? = some (.cells (rowM 0 0 0 0 0 0 0 0 0 0) 26 (0, 0))) := Lib.hid (by rw [hu]; exact (heap_setCell_other _ ⟨q, 0, none⟩ _ _ (Nat.ne_of_lt HQ.out)).trans HZX.out)
    clear hu hN
    go_wp2_with fail
    refine (next_nx 4 q b off cap 13 bs _ HN13.out (by decide) (by decide) (by have := H35.out; have := HN.out; omega) HB.out).mono ?_
    rintro e y3 ⟨rfl, ⟨u, hu⟩, hN⟩
    rw [HFc.out]
    have HN17 : Hid (Nx y3 q b off cap bs 17) := Lib.hid hN
    have HBX : Hid (Below w.heap.size w y3) := Lib.hid (by rw [hu]; exact HBX.out.setCell (p := ⟨q, 0, none⟩) (Nat.le_of_lt HQ.out) _)
    have HZX : Hid (y3.heap[w.heap.size]? = some (.cells (rowM 0 0 0 0 0 0 0 0 0 0) 26 (0, 0))) := Lib.hid (by rw [hu]; exact (heap_setCell_other _ ⟨q, 0, none⟩ _ _ (Nat.ne_of_lt HQ.out)).trans HZX.out)
    clear hu hN
    go_wp2_with fail
    refine (next_nx 8 q b off cap 17 bs _ HN17.out (by decide) (by decide) (by have := H35.out; have := HN.out; omega) HB.out).mono ?_
    rintro e y4 ⟨rfl, ⟨u, hu⟩, hN⟩
    rw [HFb.out]
    have HN25 : Hid (Nx y4 q b off cap bs 25) := Lib.hid hN
    have HBX : Hid (Below w.heap.size w y4) := Lib.hid (by rw [hu]; exact HBX.out.setCell (p := ⟨q, 0, none⟩) (Nat.le_of_lt HQ.out) _)
    have HZX : Hid (y4.heap[w.heap.size]? = some (.cells (rowM 0 0 0 0 0 0 0 0 0 0) 26 (0, 0))) := Lib.hid (by rw [hu]; exact (heap_setCell_other _ ⟨q, 0, none⟩ _ _ (Nat.ne_of_lt HQ.out)).trans HZX.out)
    clear hu hN
    go_wp2_with fail
    refine (next_nx 2 q b off cap 25 bs _ HN25.out (by decide) (by decide) (by have := H35.out; have := HN.out; omega) HB.out).mono ?_
    rintro e y5 ⟨rfl, ⟨u, hu⟩, hN⟩
    rw [HFp.out]
    have HN27 : Hid (Nx y5 q b off cap bs 27) := Lib.hid hN
    have HBX : Hid (Below w.heap.size w y5) := Lib.hid (by rw [hu]; exact HBX.out.setCell (p := ⟨q, 0, none⟩) (Nat.le_of_lt HQ.out) _)
    have HZX : Hid (y5.heap[w.heap.size]? = some (.cells (rowM 0 0 0 0 0 0 0 0 0 0) 26 (0, 0))) := Lib.hid (by rw [hu]; exact (heap_setCell_other _ ⟨q, 0, none⟩ _ _ (Nat.ne_of_lt HQ.out)).trans HZX.out)
    clear hu hN
    go_upto_region 12 with (first
      | ((with_reducible show wpList _ _ _ (Oper.mk _ (.build _ _) _ _ _ _ :: _) _ _); refine wpList_buildV rfl 26 _ rfl (rowM K zf zr zb zc zp 0 0 0 0) (by kernel_rfl) ?_; go_frame)
      | ((with_reducible show wpList _ _ _ (Oper.mk _ (.alloc _) _ _ _ _ :: _) _ _); refine wpList_allocV rfl 26 rfl _ al26 ?_; go_frame)
      | ((with_reducible show wpList _ _ _ (Oper.mk _ (.store 26 _ _) _ _ _ _ :: _) _ _); go_loud (refine wpList_store_row rfl 26 (.tmp 7) (.tmp 53) rfl y5.heap.size (rowM K zf zr zb zc zp 0 0 0 0) rfl rfl 26 (rowM 0 0 0 0 0 0 0 0 0 0) (heap_alloc_new _ _) (by kernel_rfl) rfl (one26 K zf zr zb zc zp 0 0 0 0) ?_); go_frame))
    have hYM := setRow_heap (y5.alloc (.cells (rowM 0 0 0 0 0 0 0 0 0 0) 26)) y5.heap.size _ (rowM K zf zr zb zc zp 0 0 0 0) _ _ (heap_alloc_new y5 _)
    have hYB : Below y5.heap.size y5 ((y5.alloc (.cells (rowM 0 0 0 0 0 0 0 0 0 0) 26)).setRow y5.heap.size (rowM K zf zr zb zc zp 0 0 0 0)) := below_setRow ((Below.refl _ _).alloc (Nat.le_refl _) _) (Nat.le_refl _) _
    have HQM : Hid (q < y5.heap.size) := Lib.hid (lt_of_block HN27.out.1)
    have HN27 := Lib.hid (nx_below HN27.out hYB)
    have HZX := Lib.hid ((hYB.block _ (lt_of_block HZX.out)).trans HZX.out)
    have HBX := Lib.hid (HBX.out.trans (hYB.mono HBX.out.size))
    have HM := Lib.hid hYM
    clear hYM hYB
    generalize ((y5.alloc (.cells (rowM 0 0 0 0 0 0 0 0 0 0) 26)).setRow y5.heap.size (rowM K zf zr zb zc zp 0 0 0 0)) = Y at *
    generalize y5.heap.size = m at *
    go_wp2_with fail
    refine (next_nx 2 q b off cap 27 bs _ HN27.out (by decide) (by decide) (by have := H35.out; have := HN.out; omega) HB.out).mono ?_
    rintro e y6 ⟨rfl, ⟨u, hu⟩, hN⟩
    rw [HFa.out]
    have HN29 : Hid (Nx y6 q b off cap bs 29) := Lib.hid hN
    have HBX : Hid (Below w.heap.size w y6) := Lib.hid (by rw [hu]; exact HBX.out.setCell (p := ⟨q, 0, none⟩) (Nat.le_of_lt HQ.out) _)
    have HZX : Hid (y6.heap[w.heap.size]? = some (.cells (rowM 0 0 0 0 0 0 0 0 0 0) 26 (0, 0))) := Lib.hid (by rw [hu]; exact (heap_setCell_other _ ⟨q, 0, none⟩ _ _ (Nat.ne_of_lt HQ.out)).trans HZX.out)
    have HM : Hid (y6.heap[m]? = some (.cells (rowM K zf zr zb zc zp 0 0 0 0) 26 (0, 0))) := Lib.hid (by rw [hu]; exact (heap_setCell_other _ ⟨q, 0, none⟩ _ _ (Nat.ne_of_gt HQM.out)).trans HM.out)
    clear hu hN
    go_wp2_with fail
    refine (next_nx 2 q b off cap 29 bs _ HN29.out (by decide) (by decide) (by have := H35.out; have := HN.out; omega) HB.out).mono ?_
    rintro e y7 ⟨rfl, ⟨u, hu⟩, hN⟩
    rw [HFx.out]
    have HN31 : Hid (Nx y7 q b off cap bs 31) := Lib.hid hN
    have HBX : Hid (Below w.heap.size w y7) := Lib.hid (by rw [hu]; exact HBX.out.setCell (p := ⟨q, 0, none⟩) (Nat.le_of_lt HQ.out) _)
    have HZX : Hid (y7.heap[w.heap.size]? = some (.cells (rowM 0 0 0 0 0 0 0 0 0 0) 26 (0, 0))) := Lib.hid (by rw [hu]; exact (heap_setCell_other _ ⟨q, 0, none⟩ _ _ (Nat.ne_of_lt HQ.out)).trans HZX.out)
    have HM : Hid (y7.heap[m]? = some (.cells (rowM K zf zr zb zc zp 0 0 0 0) 26 (0, 0))) := Lib.hid (by rw [hu]; exact (heap_setCell_other _ ⟨q, 0, none⟩ _ _ (Nat.ne_of_gt HQM.out)).trans HM.out)
    clear hu hN
    go_wp2_with fail
    refine (next_nx 2 q b off cap 31 bs _ HN31.out (by decide) (by decide) (by have := H35.out; have := HN.out; omega) HB.out).mono ?_
    rintro e y8 ⟨rfl, ⟨u, hu⟩, hN⟩
    rw [HFh.out]
    have HN33 : Hid (Nx y8 q b off cap bs 33) := Lib.hid hN
    have HBX : Hid (Below w.heap.size w y8) := Lib.hid (by rw [hu]; exact HBX.out.setCell (p := ⟨q, 0, none⟩) (Nat.le_of_lt HQ.out) _)
    have HZX : Hid (y8.heap[w.heap.size]? = some (.cells (rowM 0 0 0 0 0 0 0 0 0 0) 26 (0, 0))) := Lib.hid (by rw [hu]; exact (heap_setCell_other _ ⟨q, 0, none⟩ _ _ (Nat.ne_of_lt HQ.out)).trans HZX.out)
    have HM : Hid (y8.heap[m]? = some (.cells (rowM K zf zr zb zc zp 0 0 0 0) 26 (0, 0))) := Lib.hid (by rw [hu]; exact (heap_setCell_other _ ⟨q, 0, none⟩ _ _ (Nat.ne_of_gt HQM.out)).trans HM.out)
    clear hu hN
    go_wp2_with fail
    refine (next_end 2 q b off cap 33 bs _ HN33.out (by decide) (by decide) (by have := H35.out; have := HN.out; omega) HB.out).mono ?_
    rintro e y9 ⟨rfl, ⟨u, hu⟩⟩
    rw [HFd.out]
    have HBX : Hid (Below w.heap.size w y9) := Lib.hid (by rw [hu]; exact HBX.out.setCell (p := ⟨q, 0, none⟩) (Nat.le_of_lt HQ.out) _)
    have HZX : Hid (y9.heap[w.heap.size]? = some (.cells (rowM 0 0 0 0 0 0 0 0 0 0) 26 (0, 0))) := Lib.hid (by rw [hu]; exact (heap_setCell_other _ ⟨q, 0, none⟩ _ _ (Nat.ne_of_lt HQ.out)).trans HZX.out)
    have HM : Hid (y9.heap[m]? = some (.cells (rowM K zf zr zb zc zp 0 0 0 0) 26 (0, 0))) := Lib.hid (by rw [hu]; exact (heap_setCell_other _ ⟨q, 0, none⟩ _ _ (Nat.ne_of_gt HQM.out)).trans HM.out)
    clear hu
    have c6 : y9.cell? ⟨m, 6, none⟩ = some (.int .u16 0) := info_cells HM.out rfl
    have c7 : y9.cell? ⟨m, 7, none⟩ = some (.int .u16 0) := info_cells HM.out rfl
    have c8 : y9.cell? ⟨m, 8, none⟩ = some (.int .u16 0) := info_cells HM.out rfl
    have c9 : y9.cell? ⟨m, 9, none⟩ = some (.int .u16 0) := info_cells HM.out rfl
    have fm : ∀ j, y9.frozen? ⟨m, j, none⟩ = false := fun j => by simp [World.frozen?, HM.out]
    go_upto_region 13 with fail
    have hR : ((((y9.setCell ⟨m, 6, none⟩ (.int .u16 za)).setCell ⟨m, 7, none⟩ (.int .u16 zx)).setCell ⟨m, 8, none⟩ (.int .u16 zh)).setCell ⟨m, 9, none⟩ (.int .u16 zd)).heap[m]? = some (.cells (rowM K zf zr zb zc zp za zx zh zd) 26 (0, 0)) := heap_setCell_same _ m 9 _ _ _ (heap_setCell_same _ m 8 _ _ _ (heap_setCell_same _ m 7 _ _ _ (heap_setCell_same _ m 6 _ _ _ HM.out)))
    have HWM : Hid (w.heap.size < m) := Lib.hid (Nat.lt_trans HQ.out HQM.out)
    have hnm := Nat.ne_of_lt HWM.out
    have HZX := Lib.hid ((heap_setCell_other _ ⟨m, 9, none⟩ _ (.int .u16 zd) hnm).trans ((heap_setCell_other _ ⟨m, 8, none⟩ _ (.int .u16 zh) hnm).trans ((heap_setCell_other _ ⟨m, 7, none⟩ _ (.int .u16 zx) hnm).trans ((heap_setCell_other _ ⟨m, 6, none⟩ _ (.int .u16 za) hnm).trans HZX.out))))
    have hle := Nat.le_of_lt HWM.out
    have HBX := Lib.hid ((((HBX.out.setCell (p := ⟨m, 6, none⟩) hle (.int .u16 za)).setCell (p := ⟨m, 7, none⟩) hle (.int .u16 zx)).setCell (p := ⟨m, 8, none⟩) hle (.int .u16 zh)).setCell (p := ⟨m, 9, none⟩) hle (.int .u16 zd))
    have HM := Lib.hid hR
    clear hR hnm hle c6 c7 c8 c9 fm wf wc wp wa wx wh wd
    generalize ((((y9.setCell ⟨m, 6, none⟩ (.int .u16 za)).setCell ⟨m, 7, none⟩ (.int .u16 zx)).setCell ⟨m, 8, none⟩ (.int .u16 zh)).setCell ⟨m, 9, none⟩ (.int .u16 zd)) = Z at *
    by_cases hmay : mayB K zf zr zb zc zp za zx zh zd = true
    rotate_left
    · have hE : getE bs = 5 := by rw [HGE.out, if_neg (by rintro ⟨h, _⟩; rw [HMG.out] at h; exact hmay h)]
      have hV := (get_no (by rw [hE]; decide)).2
      have HMAY : Hid (mayB K zf zr zb zc zp za zx zh zd = false) := Lib.hid (by simpa using hmay)
      clear hmay
      go_wp2_with (first
        | ((with_reducible show wpList _ _ _ (Oper.mk _ (.load 26 _) _ _ _ _ :: _) _ _); go_loud (refine wpList_load_row rfl 26 (.tmp 7) rfl m rfl 26 (rowM K zf zr zb zc zp za zx zh zd) (0, 0) _ HM.out Tryd.underlying26 rfl (by kernel_rfl) ?_); go_frame)
        | (go_at_call 20; refine (may_any _ _ _ _ _ _ _ _ _ _ _).mono ?_; rintro e z ⟨rfl, hbz⟩; rw [HMAY.out]; have HZX := Lib.hid ((hbz.block _ (lt_of_block HZX.out)).trans HZX.out); have HM := Lib.hid ((hbz.block _ (lt_of_block HM.out)).trans HM.out); have HBX := Lib.hid (HBX.out.trans (hbz.mono HBX.out.size)); clear hbz)
        | ((with_reducible show wpList _ _ _ (Oper.mk _ (.build _ _) _ _ _ _ :: _) _ _); refine wpList_buildV rfl 26 _ rfl (rowM 0 0 0 0 0 0 0 0 0 0) (by kernel_rfl) ?_; go_frame)
        | ((with_reducible show wpList _ _ _ (Oper.mk _ (.store 26 _ _) _ _ _ _ :: _) _ _); go_loud (refine wpList_store_row rfl 26 (.tmp 2) (.tmp 83) rfl w.heap.size (rowM 0 0 0 0 0 0 0 0 0 0) rfl rfl 26 (rowM 0 0 0 0 0 0 0 0 0 0) HZX.out (by kernel_rfl) rfl (one26 0 0 0 0 0 0 0 0 0 0) ?_); go_frame))
      refine bodyPost_ret (results_cell_row2 (P := Tryd.prog) Tryd.results19 _ _ w.heap.size 26 (rowM 0 0 0 0 0 0 0 0 0 0) (0, 0) _ rfl (setRow_heap _ _ _ _ _ _ HZX.out) Tryd.underlying26 rfl (by kernel_rfl)) rfl ⟨by rw [hE, hV]; first | done | rfl, below_setRow HBX.out (Nat.le_refl _) _⟩
    have HMAY := Lib.hid hmay
    have hmg : mayG bs = true := HMG.out.trans hmay
    clear hmay
    rcases HKK.out with h1 | h3
    · have hE : getE bs = 0 := by rw [HGE.out, if_pos ⟨hmg, fun h => by rw [HKD.out, h1] at h; cases h⟩]
      have hV : getV bs = msgV K zf zr zb zc zp za zx zh zd := by rw [HGV.out hE, HKD.out, HFf.out, HFr.out, HFb.out, HFc.out, HFp.out, HFa.out, HFx.out, HFh.out, HFd.out]
      subst h1
      go_wp2_with (first
        | ((with_reducible show wpList _ _ _ (Oper.mk _ (.load 26 _) _ _ _ _ :: _) _ _); go_loud (refine wpList_load_row rfl 26 (.tmp 7) rfl m rfl 26 (rowM 1 zf zr zb zc zp za zx zh zd) (0, 0) _ HM.out Tryd.underlying26 rfl (by kernel_rfl) ?_); go_frame)
        | (go_at_call 20; refine (may_any _ _ _ _ _ _ _ _ _ _ _).mono ?_; rintro e z ⟨rfl, hbz⟩; rw [HMAY.out]; have HZX := Lib.hid ((hbz.block _ (lt_of_block HZX.out)).trans HZX.out); have HM := Lib.hid ((hbz.block _ (lt_of_block HM.out)).trans HM.out); have HBX := Lib.hid (HBX.out.trans (hbz.mono HBX.out.size)); clear hbz)
        | ((with_reducible show wpList _ _ _ (Oper.mk _ (.store 26 _ _) _ _ _ _ :: _) _ _); go_loud (refine wpList_store_row rfl 26 (.tmp 2) (.tmp 84) rfl w.heap.size (rowM 1 zf zr zb zc zp za zx zh zd) rfl rfl 26 (rowM 0 0 0 0 0 0 0 0 0 0) HZX.out (by kernel_rfl) rfl (one26 1 zf zr zb zc zp za zx zh zd) ?_); go_frame))
      refine bodyPost_ret (results_cell_row2 (P := Tryd.prog) Tryd.results19 _ _ w.heap.size 26 (rowM 1 zf zr zb zc zp za zx zh zd) (0, 0) _ rfl (setRow_heap _ _ _ _ _ _ HZX.out) Tryd.underlying26 rfl (by kernel_rfl)) rfl ⟨by rw [hE, hV]; first | done | rfl, below_setRow HBX.out (Nat.le_refl _) _⟩
    · have h36 := HS3.out h3
      obtain ⟨y, hy⟩ : ∃ y, bs[35]? = some y := ⟨_, List.getElem?_eq_getElem (by have := HN.out; omega)⟩
      have HCY : Hid (w.cell? ⟨b, off + 35, none⟩ = some (.int .u8 y)) := Lib.hid (HC.out 35 _ (by rw [List.getElem?_map, hy]; rfl))
      have h35i : (35 : Int) < n := by omega
      by_cases hy0 : y = 0
      · have hE : getE bs = 0 := by rw [HGE.out, if_pos ⟨hmg, fun _ => by rw [hy, hy0]⟩]
        have hV : getV bs = msgV K zf zr zb zc zp za zx zh zd := by rw [HGV.out hE, HKD.out, HFf.out, HFr.out, HFb.out, HFc.out, HFp.out, HFa.out, HFx.out, HFh.out, HFd.out]
        subst h3 hy0
        go_wp2_with (first
          | ((with_reducible show wpList _ _ _ (Oper.mk _ (.load 26 _) _ _ _ _ :: _) _ _); go_loud (refine wpList_load_row rfl 26 (.tmp 7) rfl m rfl 26 (rowM 3 zf zr zb zc zp za zx zh zd) (0, 0) _ HM.out Tryd.underlying26 rfl (by kernel_rfl) ?_); go_frame)
          | (go_at_call 20; refine (may_any _ _ _ _ _ _ _ _ _ _ _).mono ?_; rintro e z ⟨rfl, hbz⟩; rw [HMAY.out]; have HZX := Lib.hid ((hbz.block _ (lt_of_block HZX.out)).trans HZX.out); have HM := Lib.hid ((hbz.block _ (lt_of_block HM.out)).trans HM.out); have HBX := Lib.hid (HBX.out.trans (hbz.mono HBX.out.size)); clear hbz; have hc35 := (HBX.out.cell (p := ⟨b, off + 35, none⟩) HBW.out).trans HCY.out)
          | ((with_reducible show wpList _ _ _ (Oper.mk _ (.store 26 _ _) _ _ _ _ :: _) _ _); go_loud (refine wpList_store_row rfl 26 (.tmp 2) (.tmp 84) rfl w.heap.size (rowM 3 zf zr zb zc zp za zx zh zd) rfl rfl 26 (rowM 0 0 0 0 0 0 0 0 0 0) HZX.out (by kernel_rfl) rfl (one26 3 zf zr zb zc zp za zx zh zd) ?_); go_frame))
        refine bodyPost_ret (results_cell_row2 (P := Tryd.prog) Tryd.results19 _ _ w.heap.size 26 (rowM 3 zf zr zb zc zp za zx zh zd) (0, 0) _ rfl (setRow_heap _ _ _ _ _ _ HZX.out) Tryd.underlying26 rfl (by kernel_rfl)) rfl ⟨by rw [hE, hV]; first | done | rfl, below_setRow HBX.out (Nat.le_refl _) _⟩
      · have hE : getE bs = 5 := by rw [HGE.out, if_neg (by rintro ⟨_, h⟩; have := h (HKD.out.trans h3); rw [hy] at this; exact hy0 (Option.some.inj this))]
        have hV := (get_no (by rw [hE]; decide)).2
        subst h3
        go_wp2_with (first
          | ((with_reducible show wpList _ _ _ (Oper.mk _ (.load 26 _) _ _ _ _ :: _) _ _); go_loud (refine wpList_load_row rfl 26 (.tmp 7) rfl m rfl 26 (rowM 3 zf zr zb zc zp za zx zh zd) (0, 0) _ HM.out Tryd.underlying26 rfl (by kernel_rfl) ?_); go_frame)
          | (go_at_call 20; refine (may_any _ _ _ _ _ _ _ _ _ _ _).mono ?_; rintro e z ⟨rfl, hbz⟩; rw [HMAY.out]; have HZX := Lib.hid ((hbz.block _ (lt_of_block HZX.out)).trans HZX.out); have HM := Lib.hid ((hbz.block _ (lt_of_block HM.out)).trans HM.out); have HBX := Lib.hid (HBX.out.trans (hbz.mono HBX.out.size)); clear hbz; have hc35 := (HBX.out.cell (p := ⟨b, off + 35, none⟩) HBW.out).trans HCY.out)
          | ((with_reducible show wpList _ _ _ (Oper.mk _ (.build _ _) _ _ _ _ :: _) _ _); refine wpList_buildV rfl 26 _ rfl (rowM 0 0 0 0 0 0 0 0 0 0) (by kernel_rfl) ?_; go_frame)
          | ((with_reducible show wpList _ _ _ (Oper.mk _ (.store 26 _ _) _ _ _ _ :: _) _ _); go_loud (refine wpList_store_row rfl 26 (.tmp 2) (.tmp 83) rfl w.heap.size (rowM 0 0 0 0 0 0 0 0 0 0) rfl rfl 26 (rowM 0 0 0 0 0 0 0 0 0 0) HZX.out (by kernel_rfl) rfl (one26 0 0 0 0 0 0 0 0 0 0) ?_); go_frame))
        refine bodyPost_ret (results_cell_row2 (P := Tryd.prog) Tryd.results19 _ _ w.heap.size 26 (rowM 0 0 0 0 0 0 0 0 0 0) (0, 0) _ rfl (setRow_heap _ _ _ _ _ _ HZX.out) Tryd.underlying26 rfl (by kernel_rfl)) rfl ⟨by rw [hE, hV]; first | done | rfl, below_setRow HBX.out (Nat.le_refl _) _⟩
  refine wp_region_noPanic ?_
  refine wp_region_held_drew (S := fun w' => w'.cell? ⟨b, off, none⟩ = some (.int .u8 x0) ∧ w'.cell? ⟨b, off + 1, none⟩ = some (.int .u8 x1) ∧ w'.cell? ⟨b, off + 2, none⟩ = some (.int .u8 x2) ∧ w'.cell? ⟨b, off + 3, none⟩ = some (.int .u8 x3)) (by kernel_rfl) ⟨d0, d1, d2, d3⟩ (fun hHeld => ?_)
  refine wpAnyH_take (i := 1) (oi := { dst := some 14, op := Op.move (Operand.tmp 0), type := 31, pos := "bpdu.go:84", after := #[], guard := none }) (v := ?_) rfl (by kernel_rfl) (by kernel_rfl) (by kernel_rfl) (fun _ _ _ h => h) (Or.inl ⟨by rfl, ?_⟩) (by assumption) ?_
  rotate_left
  · intro w hSw; (try dsimp only at hSw); go_simp
    all_goals with_reducible rfl
  try simp only [Act.put, List.setIfInBounds_toArray, List.set_cons_zero, List.set_cons_succ]
  refine wpAnyH_take (i := 2) (oi := { dst := some 15, op := Op.slice 31 (Operand.tmp 14) none (some (Operand.const (Value.int IntKind.i64 4))) none, type := 31, pos := "bpdu.go:84", after := #[{ on := 1, ground := Ground.data }], guard := none }) (v := ?_) rfl (by kernel_rfl) (by kernel_rfl) (by kernel_rfl) (fun _ _ _ h => h) (Or.inl ⟨by rfl, ?_⟩) (by assumption) ?_
  rotate_left
  · intro w hSw; (try dsimp only at hSw); go_simp
    all_goals with_reducible rfl
  try simp only [Act.put, List.setIfInBounds_toArray, List.set_cons_zero, List.set_cons_succ]
  refine wpAnyH_take (i := 3) (oi := { dst := some 16, op := Op.sliceToArrayPointer 65 (Operand.tmp 15), type := 0, pos := "bpdu.go:84", after := #[{ on := 2, ground := Ground.data }], guard := none }) (v := ?_) rfl (by kernel_rfl) (by kernel_rfl) (by kernel_rfl) (fun _ _ _ h => h) (Or.inl ⟨by rfl, ?_⟩) (by assumption) ?_
  rotate_left
  · intro w hSw; (try dsimp only at hSw); go_simp
    all_goals with_reducible rfl
  try simp only [Act.put, List.setIfInBounds_toArray, List.set_cons_zero, List.set_cons_succ]
  refine wpAnyH_take (i := 4) (oi := { dst := some 17, op := Op.load 65 (Operand.tmp 16), type := 65, pos := "bpdu.go:84", after := #[{ on := 3, ground := Ground.data }], guard := none }) (v := ?_) rfl (by kernel_rfl) (by kernel_rfl) (by kernel_rfl) (fun _ _ _ h => h) (Or.inl ⟨by rfl, ?_⟩) (by assumption) ?_
  rotate_left
  · intro w hSw; (try dsimp only at hSw); go_simp
    all_goals with_reducible rfl
  try simp only [Act.put, List.setIfInBounds_toArray, List.set_cons_zero, List.set_cons_succ]
  refine wpAnyH_ready (rs := [0]) (by kernel_rfl) (by simp) ?_
  refine AllReadyH.cons (o := { dst := some 13, op := Op.call { callee := Callee.value (Operand.func 22), args := #[], argTypes := #[] }, type := 63, pos := "bpdu.go:84", after := #[], guard := none }) rfl (fun K hK => ?_) AllReadyH.nil
  go_simp
  refine (heads_any _).mono ?_
  rintro e w2 ⟨rfl, hbh, _, es, hes, hmap⟩
  dsimp only
  refine hK.out _ _ ⟨Below.cell_some hbh hHeld.1, Below.cell_some hbh hHeld.2.1, Below.cell_some hbh hHeld.2.2.1, Below.cell_some hbh hHeld.2.2.2⟩ (fun hHeldA => ?_)
  clear hK K
  try simp only [Act.put, List.setIfInBounds_toArray, List.set_cons_zero, List.set_cons_succ]
  refine wpAnyH_ready (rs := [5]) (by kernel_rfl) (by simp) ?_
  refine AllReadyH.cons (o := { dst := some 18, op := Op.lookup 63 (Operand.tmp 13) (Operand.tmp 17) true, type := 83, pos := "bpdu.go:84", after := #[{ on := 0, ground := Ground.data }, { on := 4, ground := Ground.data }], guard := none }) rfl (fun K hK => ?_) AllReadyH.nil
  rw [if_pos (by rfl)]
  refine wp_lookup 63 (.tmp 13) (.tmp 17) rfl _ _ _ rfl rfl (look_heads hes x0 x1 x2 x3 _ _ hmap) ?_
  refine hK.out _ _ hHeldA (fun hHeldB => ?_)
  clear hK K
  try simp only [Act.put, List.setIfInBounds_toArray, List.set_cons_zero, List.set_cons_succ]
  refine wpAnyH_take (i := 6) (oi := { dst := some 12, op := Op.move (Operand.tmp 18), type := 83, pos := "bpdu.go:84", after := #[{ on := 5, ground := Ground.data }], guard := none }) (v := ?_) rfl (by kernel_rfl) (by kernel_rfl) (by kernel_rfl) (fun _ _ _ h => h) (Or.inl ⟨by rfl, ?_⟩) (by assumption) ?_
  rotate_left
  · intro w hSw; (try dsimp only at hSw); go_simp
    all_goals with_reducible rfl
  try simp only [Act.put, List.setIfInBounds_toArray, List.set_cons_zero, List.set_cons_succ]
  refine wpAnyH_take (i := 7) (oi := { dst := some 19, op := Op.extract (Operand.tmp 12) 0, type := 3, pos := "bpdu.go:84", after := #[{ on := 6, ground := Ground.data }], guard := none }) (v := ?_) rfl (by kernel_rfl) (by kernel_rfl) (by kernel_rfl) (fun _ _ _ h => h) (Or.inl ⟨by rfl, ?_⟩) (by assumption) ?_
  rotate_left
  · intro w hSw; (try dsimp only at hSw); go_simp
    all_goals with_reducible rfl
  try simp only [Act.put, List.setIfInBounds_toArray, List.set_cons_zero, List.set_cons_succ]
  refine wpAnyH_take (i := 8) (oi := { dst := some 20, op := Op.extract (Operand.tmp 12) 1, type := 4, pos := "bpdu.go:84", after := #[{ on := 6, ground := Ground.data }, { on := 9, ground := Ground.gcOnly Departure.lateStores }], guard := none }) (v := ?_) rfl (by kernel_rfl) (by kernel_rfl) (by kernel_rfl) (fun _ _ _ h => h) (Or.inl ⟨by rfl, ?_⟩) (by assumption) ?_
  rotate_left
  · intro w hSw; (try dsimp only at hSw); go_simp
    all_goals with_reducible rfl
  try simp only [Act.put, List.setIfInBounds_toArray, List.set_cons_zero, List.set_cons_succ]
  refine wpAnyH_take (i := 9) (oi := { dst := some 4, op := Op.assign (Operand.tmp 19), type := 3, pos := "bpdu.go:84", after := #[{ on := 7, ground := Ground.data }, { on := 0, ground := Ground.chain }, { on := 0, ground := Ground.phase }, { on := 1, ground := Ground.phase }, { on := 2, ground := Ground.phase }, { on := 3, ground := Ground.phase }, { on := 4, ground := Ground.phase }, { on := 5, ground := Ground.phase }, { on := 6, ground := Ground.phase }, { on := 7, ground := Ground.phase }, { on := 8, ground := Ground.textOnly Departure.lateStores }], guard := none }) (v := ?_) rfl (by kernel_rfl) (by kernel_rfl) (by kernel_rfl) (fun _ _ _ h => h) (Or.inl ⟨by rfl, ?_⟩) (by assumption) ?_
  rotate_left
  · intro w hSw; (try dsimp only at hSw); go_simp
    all_goals with_reducible rfl
  try simp only [Act.put, List.setIfInBounds_toArray, List.set_cons_zero, List.set_cons_succ]
  refine wpAnyH_take (i := 10) (oi := { dst := some 5, op := Op.assign (Operand.tmp 20), type := 4, pos := "bpdu.go:84", after := #[{ on := 8, ground := Ground.data }, { on := 9, ground := Ground.chain }, { on := 0, ground := Ground.phase }, { on := 1, ground := Ground.phase }, { on := 2, ground := Ground.phase }, { on := 3, ground := Ground.phase }, { on := 4, ground := Ground.phase }, { on := 5, ground := Ground.phase }, { on := 6, ground := Ground.phase }, { on := 7, ground := Ground.phase }, { on := 8, ground := Ground.phase }, { on := 9, ground := Ground.phase }], guard := none }) (v := ?_) rfl (by kernel_rfl) (by kernel_rfl) (by kernel_rfl) (fun _ _ _ h => h) (Or.inl ⟨by rfl, ?_⟩) (by assumption) ?_
  rotate_left
  · intro w hSw; (try dsimp only at hSw); go_simp
    all_goals with_reducible rfl
  try simp only [Act.put, List.setIfInBounds_toArray, List.set_cons_zero, List.set_cons_succ]
  refine wpAnyH_done (by kernel_rfl) ?_ _
  exact NoPanic.normal ⟨_, _, _, _, _, _, _, _, _, _, _, _, rfl, rfl, (bd (n := 1) (Below.refl _ _)).trans hbh⟩
end Go.Proofs.YtcahlponmbnkcaaDoor
