/- BPDU: the document's Compare. -/
import Derived.Test.YtcahlponmbnkcaaDoorA2
namespace Go.Proofs.YtcahlponmbnkcaaDoor
open Go Go.RowKit

set_option maxRecDepth 100000 in
set_option maxHeartbeats 2000000 in
theorem refCompare_nn (k f r b c p a x h d k' f' r' b' c' p' a' x' h' d' : Int) (w : World) (wc : IntKind.u64.wrap c = c) (wp : IntKind.u64.wrap p = p) (wc' : IntKind.u64.wrap c' = c') (wp' : IntKind.u64.wrap p' = p') (hk : (k != 2) = true) (hk' : (k' != 2) = true) :
    Calls Tryd.prog 10 #[msgV k f r b c p a x h d, msgV k' f' r' b' c' p' a' x' h' d'] w fun e w' => e = .returned (.int .i64 (orL [cmpI r r', cmpI c c', cmpI b b', cmpI p p'])) ∧ Below w.heap.size w w' := by
  go_enter Tryd.func10, Tryd.ntmps10
  go_wp2_with fail
  obtain ⟨W, hW⟩ : ∃ W : World, W = ((((w.alloc (.cells #[.int .i64 k, .int .u8 f, .int .u64 r, .int .u64 b, .int .u32 c, .int .u16 p, .int .u16 a, .int .u16 x, .int .u16 h, .int .u16 d] 39)).alloc (.cells #[.int .i64 k', .int .u8 f', .int .u64 r', .int .u64 b', .int .u32 c', .int .u16 p', .int .u16 a', .int .u16 x', .int .u16 h', .int .u16 d'] 39)).alloc (.cells #[.int .u64 (r), .int .u64 (c), .int .u64 (b), .int .u64 (p)] 72)).alloc (.cells #[.int .u64 (r'), .int .u64 (c'), .int .u64 (b'), .int .u64 (p')] 72)) := ⟨_, rfl⟩
  have HB : Hid (Below w.heap.size w W) := by rw [hW]; exact ((((Below.refl _ _).alloc (Nat.le_refl _) _).alloc (by simp) _).alloc (by simp; omega) _).alloc (by simp; omega) _
  have HX : Hid (∀ j, j < 4 → W.cell? ⟨w.heap.size + 1 + 1, j, none⟩ = some (.int .u64 (([r, c, b, p] : List Int).getD j 0))) := by
    intro j hj; rw [hW]
    match j, hj with
    | 0, _ => simp [go_sem]
    | 1, _ => simp [go_sem]
    | 2, _ => simp [go_sem]
    | 3, _ => simp [go_sem]
  have HY : Hid (∀ j, j < 4 → W.cell? ⟨w.heap.size + 1 + 1 + 1, j, none⟩ = some (.int .u64 (([r', c', b', p'] : List Int).getD j 0))) := by
    intro j hj; rw [hW]
    match j, hj with
    | 0, _ => simp [go_sem]
    | 1, _ => simp [go_sem]
    | 2, _ => simp [go_sem]
    | 3, _ => simp [go_sem]
  rw [← hW]
  clear hW
  obtain ⟨xs, hxs⟩ : ∃ xs : List Int, xs = ([r, c, b, p] : List Int) := ⟨_, rfl⟩
  obtain ⟨ys, hys⟩ : ∃ ys : List Int, ys = ([r', c', b', p'] : List Int) := ⟨_, rfl⟩
  rw [← hxs] at HX
  rw [← hys] at HY
  have HL : Hid (orL (List.zipWith cmpI xs ys) = orL [cmpI r r', cmpI c c', cmpI b b', cmpI p p']) := by rw [hxs, hys]; rfl
  have HXL : Hid (xs.length = 4) := by rw [hxs]; rfl
  have HYL : Hid (ys.length = 4) := by rw [hys]; rfl
  clear hxs hys
  go_loopw [7] (fun i wr => ∃ j n : Nat, j ≤ 4 ∧ i = .int .i64 j ∧ wr = W.drewN n ∧ orL ((List.zipWith cmpI xs ys).drop j) = orL (List.zipWith cmpI xs ys)) (fun i _ => 4 - (intOf i).toNat)
  case atStart => exact ⟨0, 0, Nat.zero_le _, rfl, rfl, rfl⟩
  case round =>
    obtain ⟨j, n, hj, rfl, rfl, hr⟩ := hrel
    have HR := Lib.hid hr
    clear hr
    by_cases hlt : j < 4
    · have hx := HX.out j hlt
      have hy := HY.out j hlt
      obtain ⟨u, hu⟩ : ∃ u, u = xs.getD j 0 := ⟨_, rfl⟩
      obtain ⟨v, hv⟩ : ∃ v, v = ys.getD j 0 := ⟨_, rfl⟩
      rw [← hu] at hx
      rw [← hv] at hy
      have HD : Hid ((List.zipWith cmpI xs ys).drop j = cmpI u v :: (List.zipWith cmpI xs ys).drop (j + 1)) := by
        have e1 := HXL.out; have e2 := HYL.out
        have h1 : j < (List.zipWith cmpI xs ys).length := by simp [e1, e2]; omega
        show (List.zipWith cmpI xs ys).drop j = _
        rw [List.drop_eq_getElem_cons h1, hu, hv, List.getD, List.getD, List.getElem?_eq_getElem (by omega), List.getElem?_eq_getElem (by omega)]
        simp
      clear hu hv
      by_cases h1 : u < v
      · have HC : Hid (cmpI u v = -1) := by show cmpI u v = -1; simp [cmpI, h1]
        have h1' : decide (u < v) = true := by simpa using h1
        go_wp2_with fail
        go_quiet (fail)
        go_wp2
        go_ret
        exact ⟨ret_int (by rw [← HL.out, ← HR.out, HD.out, HC.out]; rfl), bd (bd HB.out)⟩
      · have h1' : decide (u < v) = false := by simpa using h1
        by_cases h2 : v < u
        · have HC : Hid (cmpI u v = 1) := by show cmpI u v = 1; simp [cmpI, h1, h2]
          have h2' : decide (v < u) = true := by simpa using h2
          go_wp2_with fail
          go_quiet (fail)
          go_wp2_with fail
          go_quiet (fail)
          go_wp2
          go_ret
          exact ⟨ret_int (by rw [← HL.out, ← HR.out, HD.out, HC.out]; rfl), bd (bd (bd HB.out))⟩
        · have HC : Hid (cmpI u v = 0) := by show cmpI u v = 0; simp [cmpI, h1, h2]
          have h2' : decide (v < u) = false := by simpa using h2
          go_wp2_with fail
          go_quiet (fail)
          go_wp2_with fail
          go_quiet (fail)
          go_wp2
          go_roundw
          case rel => exact ⟨j + 1, _, by omega, by go_num, rfl, by rw [← HR.out, HD.out, HC.out]; rfl⟩
          case measure => simp [intOf]; omega
    · go_wp2
      go_ret
      exact ⟨ret_int (by rw [← HL.out, ← HR.out, List.drop_of_length_le (by have := HXL.out; have := HYL.out; simp; omega)]; rfl), bd HB.out⟩

set_option maxRecDepth 100000 in
set_option maxHeartbeats 2000000 in
theorem refCompare_nc (k f r b c p a x h d k' f' r' b' c' p' a' x' h' d' : Int) (w : World) (wc : IntKind.u64.wrap c = c) (wp : IntKind.u64.wrap p = p) (_wc' : IntKind.u64.wrap c' = c') (_wp' : IntKind.u64.wrap p' = p') (hk : (k != 2) = true) (hk' : (k' != 2) = false) :
    Calls Tryd.prog 10 #[msgV k f r b c p a x h d, msgV k' f' r' b' c' p' a' x' h' d'] w fun e w' => e = .returned (.int .i64 (orL [cmpI r 0, cmpI c 0, cmpI b 0, cmpI p 0])) ∧ Below w.heap.size w w' := by
  go_enter Tryd.func10, Tryd.ntmps10
  go_wp2_with fail
  obtain ⟨W, hW⟩ : ∃ W : World, W = ((((w.alloc (.cells #[.int .i64 k, .int .u8 f, .int .u64 r, .int .u64 b, .int .u32 c, .int .u16 p, .int .u16 a, .int .u16 x, .int .u16 h, .int .u16 d] 39)).alloc (.cells #[.int .i64 k', .int .u8 f', .int .u64 r', .int .u64 b', .int .u32 c', .int .u16 p', .int .u16 a', .int .u16 x', .int .u16 h', .int .u16 d'] 39)).alloc (.cells #[.int .u64 (r), .int .u64 (c), .int .u64 (b), .int .u64 (p)] 72)).alloc (.cells #[.int .u64 (0), .int .u64 (0), .int .u64 (0), .int .u64 (0)] 72)) := ⟨_, rfl⟩
  have HB : Hid (Below w.heap.size w W) := by rw [hW]; exact ((((Below.refl _ _).alloc (Nat.le_refl _) _).alloc (by simp) _).alloc (by simp; omega) _).alloc (by simp; omega) _
  have HX : Hid (∀ j, j < 4 → W.cell? ⟨w.heap.size + 1 + 1, j, none⟩ = some (.int .u64 (([r, c, b, p] : List Int).getD j 0))) := by
    intro j hj; rw [hW]
    match j, hj with
    | 0, _ => simp [go_sem]
    | 1, _ => simp [go_sem]
    | 2, _ => simp [go_sem]
    | 3, _ => simp [go_sem]
  have HY : Hid (∀ j, j < 4 → W.cell? ⟨w.heap.size + 1 + 1 + 1, j, none⟩ = some (.int .u64 (([0, 0, 0, 0] : List Int).getD j 0))) := by
    intro j hj; rw [hW]
    match j, hj with
    | 0, _ => simp [go_sem]
    | 1, _ => simp [go_sem]
    | 2, _ => simp [go_sem]
    | 3, _ => simp [go_sem]
  rw [← hW]
  clear hW
  obtain ⟨xs, hxs⟩ : ∃ xs : List Int, xs = ([r, c, b, p] : List Int) := ⟨_, rfl⟩
  obtain ⟨ys, hys⟩ : ∃ ys : List Int, ys = ([0, 0, 0, 0] : List Int) := ⟨_, rfl⟩
  rw [← hxs] at HX
  rw [← hys] at HY
  have HL : Hid (orL (List.zipWith cmpI xs ys) = orL [cmpI r 0, cmpI c 0, cmpI b 0, cmpI p 0]) := by rw [hxs, hys]; rfl
  have HXL : Hid (xs.length = 4) := by rw [hxs]; rfl
  have HYL : Hid (ys.length = 4) := by rw [hys]; rfl
  clear hxs hys
  go_loopw [7] (fun i wr => ∃ j n : Nat, j ≤ 4 ∧ i = .int .i64 j ∧ wr = W.drewN n ∧ orL ((List.zipWith cmpI xs ys).drop j) = orL (List.zipWith cmpI xs ys)) (fun i _ => 4 - (intOf i).toNat)
  case atStart => exact ⟨0, 0, Nat.zero_le _, rfl, rfl, rfl⟩
  case round =>
    obtain ⟨j, n, hj, rfl, rfl, hr⟩ := hrel
    have HR := Lib.hid hr
    clear hr
    by_cases hlt : j < 4
    · have hx := HX.out j hlt
      have hy := HY.out j hlt
      obtain ⟨u, hu⟩ : ∃ u, u = xs.getD j 0 := ⟨_, rfl⟩
      obtain ⟨v, hv⟩ : ∃ v, v = ys.getD j 0 := ⟨_, rfl⟩
      rw [← hu] at hx
      rw [← hv] at hy
      have HD : Hid ((List.zipWith cmpI xs ys).drop j = cmpI u v :: (List.zipWith cmpI xs ys).drop (j + 1)) := by
        have e1 := HXL.out; have e2 := HYL.out
        have h1 : j < (List.zipWith cmpI xs ys).length := by simp [e1, e2]; omega
        show (List.zipWith cmpI xs ys).drop j = _
        rw [List.drop_eq_getElem_cons h1, hu, hv, List.getD, List.getD, List.getElem?_eq_getElem (by omega), List.getElem?_eq_getElem (by omega)]
        simp
      clear hu hv
      by_cases h1 : u < v
      · have HC : Hid (cmpI u v = -1) := by show cmpI u v = -1; simp [cmpI, h1]
        have h1' : decide (u < v) = true := by simpa using h1
        go_wp2_with fail
        go_quiet (fail)
        go_wp2
        go_ret
        exact ⟨ret_int (by rw [← HL.out, ← HR.out, HD.out, HC.out]; rfl), bd (bd HB.out)⟩
      · have h1' : decide (u < v) = false := by simpa using h1
        by_cases h2 : v < u
        · have HC : Hid (cmpI u v = 1) := by show cmpI u v = 1; simp [cmpI, h1, h2]
          have h2' : decide (v < u) = true := by simpa using h2
          go_wp2_with fail
          go_quiet (fail)
          go_wp2_with fail
          go_quiet (fail)
          go_wp2
          go_ret
          exact ⟨ret_int (by rw [← HL.out, ← HR.out, HD.out, HC.out]; rfl), bd (bd (bd HB.out))⟩
        · have HC : Hid (cmpI u v = 0) := by show cmpI u v = 0; simp [cmpI, h1, h2]
          have h2' : decide (v < u) = false := by simpa using h2
          go_wp2_with fail
          go_quiet (fail)
          go_wp2_with fail
          go_quiet (fail)
          go_wp2
          go_roundw
          case rel => exact ⟨j + 1, _, by omega, by go_num, rfl, by rw [← HR.out, HD.out, HC.out]; rfl⟩
          case measure => simp [intOf]; omega
    · go_wp2
      go_ret
      exact ⟨ret_int (by rw [← HL.out, ← HR.out, List.drop_of_length_le (by have := HXL.out; have := HYL.out; simp; omega)]; rfl), bd HB.out⟩

set_option maxRecDepth 100000 in
set_option maxHeartbeats 2000000 in
theorem refCompare_cn (k f r b c p a x h d k' f' r' b' c' p' a' x' h' d' : Int) (w : World) (_wc : IntKind.u64.wrap c = c) (_wp : IntKind.u64.wrap p = p) (wc' : IntKind.u64.wrap c' = c') (wp' : IntKind.u64.wrap p' = p') (hk : (k != 2) = false) (hk' : (k' != 2) = true) :
    Calls Tryd.prog 10 #[msgV k f r b c p a x h d, msgV k' f' r' b' c' p' a' x' h' d'] w fun e w' => e = .returned (.int .i64 (orL [cmpI 0 r', cmpI 0 c', cmpI 0 b', cmpI 0 p'])) ∧ Below w.heap.size w w' := by
  go_enter Tryd.func10, Tryd.ntmps10
  go_wp2_with fail
  obtain ⟨W, hW⟩ : ∃ W : World, W = ((((w.alloc (.cells #[.int .i64 k, .int .u8 f, .int .u64 r, .int .u64 b, .int .u32 c, .int .u16 p, .int .u16 a, .int .u16 x, .int .u16 h, .int .u16 d] 39)).alloc (.cells #[.int .i64 k', .int .u8 f', .int .u64 r', .int .u64 b', .int .u32 c', .int .u16 p', .int .u16 a', .int .u16 x', .int .u16 h', .int .u16 d'] 39)).alloc (.cells #[.int .u64 (0), .int .u64 (0), .int .u64 (0), .int .u64 (0)] 72)).alloc (.cells #[.int .u64 (r'), .int .u64 (c'), .int .u64 (b'), .int .u64 (p')] 72)) := ⟨_, rfl⟩
  have HB : Hid (Below w.heap.size w W) := by rw [hW]; exact ((((Below.refl _ _).alloc (Nat.le_refl _) _).alloc (by simp) _).alloc (by simp; omega) _).alloc (by simp; omega) _
  have HX : Hid (∀ j, j < 4 → W.cell? ⟨w.heap.size + 1 + 1, j, none⟩ = some (.int .u64 (([0, 0, 0, 0] : List Int).getD j 0))) := by
    intro j hj; rw [hW]
    match j, hj with
    | 0, _ => simp [go_sem]
    | 1, _ => simp [go_sem]
    | 2, _ => simp [go_sem]
    | 3, _ => simp [go_sem]
  have HY : Hid (∀ j, j < 4 → W.cell? ⟨w.heap.size + 1 + 1 + 1, j, none⟩ = some (.int .u64 (([r', c', b', p'] : List Int).getD j 0))) := by
    intro j hj; rw [hW]
    match j, hj with
    | 0, _ => simp [go_sem]
    | 1, _ => simp [go_sem]
    | 2, _ => simp [go_sem]
    | 3, _ => simp [go_sem]
  rw [← hW]
  clear hW
  obtain ⟨xs, hxs⟩ : ∃ xs : List Int, xs = ([0, 0, 0, 0] : List Int) := ⟨_, rfl⟩
  obtain ⟨ys, hys⟩ : ∃ ys : List Int, ys = ([r', c', b', p'] : List Int) := ⟨_, rfl⟩
  rw [← hxs] at HX
  rw [← hys] at HY
  have HL : Hid (orL (List.zipWith cmpI xs ys) = orL [cmpI 0 r', cmpI 0 c', cmpI 0 b', cmpI 0 p']) := by rw [hxs, hys]; rfl
  have HXL : Hid (xs.length = 4) := by rw [hxs]; rfl
  have HYL : Hid (ys.length = 4) := by rw [hys]; rfl
  clear hxs hys
  go_loopw [7] (fun i wr => ∃ j n : Nat, j ≤ 4 ∧ i = .int .i64 j ∧ wr = W.drewN n ∧ orL ((List.zipWith cmpI xs ys).drop j) = orL (List.zipWith cmpI xs ys)) (fun i _ => 4 - (intOf i).toNat)
  case atStart => exact ⟨0, 0, Nat.zero_le _, rfl, rfl, rfl⟩
  case round =>
    obtain ⟨j, n, hj, rfl, rfl, hr⟩ := hrel
    have HR := Lib.hid hr
    clear hr
    by_cases hlt : j < 4
    · have hx := HX.out j hlt
      have hy := HY.out j hlt
      obtain ⟨u, hu⟩ : ∃ u, u = xs.getD j 0 := ⟨_, rfl⟩
      obtain ⟨v, hv⟩ : ∃ v, v = ys.getD j 0 := ⟨_, rfl⟩
      rw [← hu] at hx
      rw [← hv] at hy
      have HD : Hid ((List.zipWith cmpI xs ys).drop j = cmpI u v :: (List.zipWith cmpI xs ys).drop (j + 1)) := by
        have e1 := HXL.out; have e2 := HYL.out
        have h1 : j < (List.zipWith cmpI xs ys).length := by simp [e1, e2]; omega
        show (List.zipWith cmpI xs ys).drop j = _
        rw [List.drop_eq_getElem_cons h1, hu, hv, List.getD, List.getD, List.getElem?_eq_getElem (by omega), List.getElem?_eq_getElem (by omega)]
        simp
      clear hu hv
      by_cases h1 : u < v
      · have HC : Hid (cmpI u v = -1) := by show cmpI u v = -1; simp [cmpI, h1]
        have h1' : decide (u < v) = true := by simpa using h1
        go_wp2_with fail
        go_quiet (fail)
        go_wp2
        go_ret
        exact ⟨ret_int (by rw [← HL.out, ← HR.out, HD.out, HC.out]; rfl), bd (bd HB.out)⟩
      · have h1' : decide (u < v) = false := by simpa using h1
        by_cases h2 : v < u
        · have HC : Hid (cmpI u v = 1) := by show cmpI u v = 1; simp [cmpI, h1, h2]
          have h2' : decide (v < u) = true := by simpa using h2
          go_wp2_with fail
          go_quiet (fail)
          go_wp2_with fail
          go_quiet (fail)
          go_wp2
          go_ret
          exact ⟨ret_int (by rw [← HL.out, ← HR.out, HD.out, HC.out]; rfl), bd (bd (bd HB.out))⟩
        · have HC : Hid (cmpI u v = 0) := by show cmpI u v = 0; simp [cmpI, h1, h2]
          have h2' : decide (v < u) = false := by simpa using h2
          go_wp2_with fail
          go_quiet (fail)
          go_wp2_with fail
          go_quiet (fail)
          go_wp2
          go_roundw
          case rel => exact ⟨j + 1, _, by omega, by go_num, rfl, by rw [← HR.out, HD.out, HC.out]; rfl⟩
          case measure => simp [intOf]; omega
    · go_wp2
      go_ret
      exact ⟨ret_int (by rw [← HL.out, ← HR.out, List.drop_of_length_le (by have := HXL.out; have := HYL.out; simp; omega)]; rfl), bd HB.out⟩

set_option maxRecDepth 100000 in
set_option maxHeartbeats 2000000 in
theorem refCompare_cc (k f r b c p a x h d k' f' r' b' c' p' a' x' h' d' : Int) (w : World) (_wc : IntKind.u64.wrap c = c) (_wp : IntKind.u64.wrap p = p) (_wc' : IntKind.u64.wrap c' = c') (_wp' : IntKind.u64.wrap p' = p') (hk : (k != 2) = false) (hk' : (k' != 2) = false) :
    Calls Tryd.prog 10 #[msgV k f r b c p a x h d, msgV k' f' r' b' c' p' a' x' h' d'] w fun e w' => e = .returned (.int .i64 (orL [cmpI 0 0, cmpI 0 0, cmpI 0 0, cmpI 0 0])) ∧ Below w.heap.size w w' := by
  go_enter Tryd.func10, Tryd.ntmps10
  go_wp2_with fail
  obtain ⟨W, hW⟩ : ∃ W : World, W = ((((w.alloc (.cells #[.int .i64 k, .int .u8 f, .int .u64 r, .int .u64 b, .int .u32 c, .int .u16 p, .int .u16 a, .int .u16 x, .int .u16 h, .int .u16 d] 39)).alloc (.cells #[.int .i64 k', .int .u8 f', .int .u64 r', .int .u64 b', .int .u32 c', .int .u16 p', .int .u16 a', .int .u16 x', .int .u16 h', .int .u16 d'] 39)).alloc (.cells #[.int .u64 (0), .int .u64 (0), .int .u64 (0), .int .u64 (0)] 72)).alloc (.cells #[.int .u64 (0), .int .u64 (0), .int .u64 (0), .int .u64 (0)] 72)) := ⟨_, rfl⟩
  have HB : Hid (Below w.heap.size w W) := by rw [hW]; exact ((((Below.refl _ _).alloc (Nat.le_refl _) _).alloc (by simp) _).alloc (by simp; omega) _).alloc (by simp; omega) _
  have HX : Hid (∀ j, j < 4 → W.cell? ⟨w.heap.size + 1 + 1, j, none⟩ = some (.int .u64 (([0, 0, 0, 0] : List Int).getD j 0))) := by
    intro j hj; rw [hW]
    match j, hj with
    | 0, _ => simp [go_sem]
    | 1, _ => simp [go_sem]
    | 2, _ => simp [go_sem]
    | 3, _ => simp [go_sem]
  have HY : Hid (∀ j, j < 4 → W.cell? ⟨w.heap.size + 1 + 1 + 1, j, none⟩ = some (.int .u64 (([0, 0, 0, 0] : List Int).getD j 0))) := by
    intro j hj; rw [hW]
    match j, hj with
    | 0, _ => simp [go_sem]
    | 1, _ => simp [go_sem]
    | 2, _ => simp [go_sem]
    | 3, _ => simp [go_sem]
  rw [← hW]
  clear hW
  obtain ⟨xs, hxs⟩ : ∃ xs : List Int, xs = ([0, 0, 0, 0] : List Int) := ⟨_, rfl⟩
  obtain ⟨ys, hys⟩ : ∃ ys : List Int, ys = ([0, 0, 0, 0] : List Int) := ⟨_, rfl⟩
  rw [← hxs] at HX
  rw [← hys] at HY
  have HL : Hid (orL (List.zipWith cmpI xs ys) = orL [cmpI 0 0, cmpI 0 0, cmpI 0 0, cmpI 0 0]) := by rw [hxs, hys]; rfl
  have HXL : Hid (xs.length = 4) := by rw [hxs]; rfl
  have HYL : Hid (ys.length = 4) := by rw [hys]; rfl
  clear hxs hys
  go_loopw [7] (fun i wr => ∃ j n : Nat, j ≤ 4 ∧ i = .int .i64 j ∧ wr = W.drewN n ∧ orL ((List.zipWith cmpI xs ys).drop j) = orL (List.zipWith cmpI xs ys)) (fun i _ => 4 - (intOf i).toNat)
  case atStart => exact ⟨0, 0, Nat.zero_le _, rfl, rfl, rfl⟩
  case round =>
    obtain ⟨j, n, hj, rfl, rfl, hr⟩ := hrel
    have HR := Lib.hid hr
    clear hr
    by_cases hlt : j < 4
    · have hx := HX.out j hlt
      have hy := HY.out j hlt
      obtain ⟨u, hu⟩ : ∃ u, u = xs.getD j 0 := ⟨_, rfl⟩
      obtain ⟨v, hv⟩ : ∃ v, v = ys.getD j 0 := ⟨_, rfl⟩
      rw [← hu] at hx
      rw [← hv] at hy
      have HD : Hid ((List.zipWith cmpI xs ys).drop j = cmpI u v :: (List.zipWith cmpI xs ys).drop (j + 1)) := by
        have e1 := HXL.out; have e2 := HYL.out
        have h1 : j < (List.zipWith cmpI xs ys).length := by simp [e1, e2]; omega
        show (List.zipWith cmpI xs ys).drop j = _
        rw [List.drop_eq_getElem_cons h1, hu, hv, List.getD, List.getD, List.getElem?_eq_getElem (by omega), List.getElem?_eq_getElem (by omega)]
        simp
      clear hu hv
      by_cases h1 : u < v
      · have HC : Hid (cmpI u v = -1) := by show cmpI u v = -1; simp [cmpI, h1]
        have h1' : decide (u < v) = true := by simpa using h1
        go_wp2_with fail
        go_quiet (fail)
        go_wp2
        go_ret
        exact ⟨ret_int (by rw [← HL.out, ← HR.out, HD.out, HC.out]; rfl), bd (bd HB.out)⟩
      · have h1' : decide (u < v) = false := by simpa using h1
        by_cases h2 : v < u
        · have HC : Hid (cmpI u v = 1) := by show cmpI u v = 1; simp [cmpI, h1, h2]
          have h2' : decide (v < u) = true := by simpa using h2
          go_wp2_with fail
          go_quiet (fail)
          go_wp2_with fail
          go_quiet (fail)
          go_wp2
          go_ret
          exact ⟨ret_int (by rw [← HL.out, ← HR.out, HD.out, HC.out]; rfl), bd (bd (bd HB.out))⟩
        · have HC : Hid (cmpI u v = 0) := by show cmpI u v = 0; simp [cmpI, h1, h2]
          have h2' : decide (v < u) = false := by simpa using h2
          go_wp2_with fail
          go_quiet (fail)
          go_wp2_with fail
          go_quiet (fail)
          go_wp2
          go_roundw
          case rel => exact ⟨j + 1, _, by omega, by go_num, rfl, by rw [← HR.out, HD.out, HC.out]; rfl⟩
          case measure => simp [intOf]; omega
    · go_wp2
      go_ret
      exact ⟨ret_int (by rw [← HL.out, ← HR.out, List.drop_of_length_le (by have := HXL.out; have := HYL.out; simp; omega)]; rfl), bd HB.out⟩

theorem refCompare_any (k f r b c p a x h d k' f' r' b' c' p' a' x' h' d' : Int) (w : World) (wc : IntKind.u64.wrap c = c) (wp : IntKind.u64.wrap p = p) (wc' : IntKind.u64.wrap c' = c') (wp' : IntKind.u64.wrap p' = p') :
    Calls Tryd.prog 10 #[msgV k f r b c p a x h d, msgV k' f' r' b' c' p' a' x' h' d'] w fun e w' => e = .returned (.int .i64 (cmpM k r c b p k' r' c' b' p')) ∧ Below w.heap.size w w' := by
  by_cases hk : k = 2 <;> by_cases hk' : k' = 2
  · have e : cmpM k r c b p k' r' c' b' p' = orL [cmpI 0 0, cmpI 0 0, cmpI 0 0, cmpI 0 0] := by simp [cmpM, cnt, hk, hk']
    rw [e]; exact refCompare_cc _ _ _ _ _ _ _ _ _ _ _ _ _ _ _ _ _ _ _ _ w wc wp wc' wp' (by simpa using hk) (by simpa using hk')
  · have e : cmpM k r c b p k' r' c' b' p' = orL [cmpI 0 r', cmpI 0 c', cmpI 0 b', cmpI 0 p'] := by simp [cmpM, cnt, hk, hk']
    rw [e]; exact refCompare_cn _ _ _ _ _ _ _ _ _ _ _ _ _ _ _ _ _ _ _ _ w wc wp wc' wp' (by simpa using hk) (by simpa using hk')
  · have e : cmpM k r c b p k' r' c' b' p' = orL [cmpI r 0, cmpI c 0, cmpI b 0, cmpI p 0] := by simp [cmpM, cnt, hk, hk']
    rw [e]; exact refCompare_nc _ _ _ _ _ _ _ _ _ _ _ _ _ _ _ _ _ _ _ _ w wc wp wc' wp' (by simpa using hk) (by simpa using hk')
  · have e : cmpM k r c b p k' r' c' b' p' = orL [cmpI r r', cmpI c c', cmpI b b', cmpI p p'] := by simp [cmpM, cnt, hk, hk']
    rw [e]; exact refCompare_nn _ _ _ _ _ _ _ _ _ _ _ _ _ _ _ _ _ _ _ _ w wc wp wc' wp' (by simpa using hk) (by simpa using hk')
end Go.Proofs.YtcahlponmbnkcaaDoor
