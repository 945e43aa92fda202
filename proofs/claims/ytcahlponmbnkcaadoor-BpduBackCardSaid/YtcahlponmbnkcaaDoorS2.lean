/- The library's slices at bytes: Concat; ether.words. -/
import Derived.Test.YtcahlponmbnkcaaDoorS1
namespace Go.Proofs.YtcahlponmbnkcaaDoor
open Go Go.RowKit

/-- Slices that lie in a row of the call's own, and read as these. -/
def Parts (w : World) (b : Nat) (vs : List Value) (yss : List (List Int)) : Prop :=
  vs.length = yss.length ∧ (∀ j, j < vs.length → w.cell? ⟨b, j, none⟩ = some (vs.getD j undef)) ∧ ∀ j, j < vs.length → Rd w (vs.getD j undef) (yss.getD j [])

theorem Parts.below {w w' : World} {b : Nat} {vs : List Value} {yss : List (List Int)} (h : Parts w b vs yss) (hb : Below w.heap.size w w') : Parts w' b vs yss :=
  ⟨h.1, fun j hj => by have := h.2.1 j hj; rw [hb.cell (World.block_lt_of_cell? w _ this)]; exact this, fun j hj => (h.2.2 j hj).below hb⟩

def lens (yss : List (List Int)) (k : Nat) : Nat := ((yss.take k).map List.length).sum

theorem lens_succ (yss : List (List Int)) (k : Nat) (h : k < yss.length) : lens yss (k + 1) = lens yss k + (yss.getD k []).length := by
  unfold lens
  rw [List.take_succ_eq_append_getElem h, List.map_append, List.sum_append, List.getD, List.getElem?_eq_getElem h]
  simp only [List.map_cons, List.map_nil, List.sum_cons, List.sum_nil, Nat.add_zero, Option.getD_some]
theorem flat_succ (yss : List (List Int)) (k : Nat) (h : k < yss.length) : (yss.take (k + 1)).flatten = (yss.take k).flatten ++ yss.getD k [] := by
  rw [List.take_succ_eq_append_getElem h, List.flatten_append, List.getD, List.getElem?_eq_getElem h]
  simp only [List.flatten_cons, List.flatten_nil, List.append_nil, Option.getD_some]
theorem flat_len (yss : List (List Int)) (k : Nat) : (yss.take k).flatten.length = lens yss k := by
  simp [lens, List.length_flatten]
theorem lens_mono (yss : List (List Int)) (k : Nat) : lens yss k ≤ lens yss yss.length := by
  induction yss generalizing k with
  | nil => simp [lens]
  | cons y yss ih =>
    cases k with
    | zero => simp [lens]
    | succ k => have := ih k; simp [lens] at this ⊢; omega

set_option maxRecDepth 100000 in
set_option maxHeartbeats 2000000 in
theorem concat_any (b : Nat) (vs : List Value) (yss : List (List Int)) (w : World) (n : Nat) (hn : n = vs.length) (hp : Parts w b vs yss) (hl : lens yss yss.length ≤ 100000) (hn9 : n ≤ 9) :
    Calls Tryd.prog 32 #[.slice (some ⟨b, 0, none⟩) n n] w fun e w' => ∃ v', e = .returned v' ∧ Bytes w.heap.size w' v' yss.flatten ∧ Below w.heap.size w w' := by
  have HP := Lib.hid hp
  have HN := Lib.hid hn
  have HNY : Hid (n = yss.length) := hn.trans hp.1
  have HL := Lib.hid hl
  clear hp hn hl
  go_enter Tryd.func32, Tryd.ntmps32
  go_wp2_with fail
  go_loop [3, 11] (fun s i => ∃ k : Nat, k ≤ n ∧ i = .int .i64 k ∧ s = .int .i64 (lens yss k : Nat)) (fun _ i => n - (intOf i).toNat)
  case atStart => exact ⟨0, Nat.zero_le _, rfl, rfl⟩
  case round =>
    obtain ⟨k, hk, rfl, rfl⟩ := hrel
    by_cases hlt : k < n
    · have hc := HP.out.2.1 k (by rw [← HN.out]; exact hlt)
      obtain ⟨a0, c0, hv⟩ := (HP.out.2.2 k (by rw [← HN.out]; exact hlt)).form
      rw [hv] at hc
      have HS : Hid (lens yss (k + 1) = lens yss k + (yss.getD k []).length) := lens_succ yss k (by rw [← HNY.out]; exact hlt)
      have HM : Hid (lens yss (k + 1) ≤ 100000) := Nat.le_trans (lens_mono yss _) HL.out
      have hb1 : ((lens yss k : Nat) : Int) + ((yss.getD k []).length : Nat) ≤ 100000 := by have := HS.out; have := HM.out; omega
      have hb2 : ¬ ((lens yss k : Nat) : Int) + ((yss.getD k []).length : Nat) < 0 := by omega
      clear hv
      generalize yss.getD k [] = yk at *
      generalize hlk : lens yss k = lk at *
      clear hlk
      go_wp2_with fail
      go_round
      case rel => exact ⟨k + 1, by omega, by go_num, congrArg (Value.int .i64) (by rw [HS.out]; simp)⟩
      case measure => simp [intOf]; omega
    · obtain rfl : k = n := by omega
      have hl2 : lens yss k ≤ 400000 := by have := lens_mono yss k; have := HL.out; omega
      go_wp2_with fail
      refine (grow_any (lens yss k) _ hl2).mono ?_
      rintro e w1 ⟨v1, rfl, hv1, hb1⟩
      have HV1 := Lib.hid hv1
      have HB1 := Lib.hid hb1
      clear hv1 hb1
      go_wp2_with fail
      go_loopw [6, 27] (fun v i wr => ∃ j : Nat, j ≤ k ∧ i = .int .i64 j ∧ Bytes w.heap.size wr v ((yss.take j).flatten) ∧ Below w.heap.size w wr) (fun _ i _ => k - (intOf i).toNat)
      case atStart => exact ⟨0, Nat.zero_le _, rfl, HV1.out, HB1.out⟩
      case round =>
        obtain ⟨j, hj, rfl, hbv, hbw⟩ := hrel
        have HBV := Lib.hid hbv
        have HBW := Lib.hid hbw
        clear hbv hbw
        by_cases hlt2 : j < k
        · have hPj := HP.out.below HBW.out
          have hc := hPj.2.1 j (by rw [← HN.out]; exact hlt2)
          have hrd := Lib.hid (hPj.2.2 j (by rw [← HN.out]; exact hlt2))
          have HF : Hid ((yss.take (j + 1)).flatten = (yss.take j).flatten ++ yss.getD j []) := flat_succ yss j (by rw [← HNY.out]; exact hlt2)
          have HL1 : Hid ((yss.take j).flatten.length ≤ 100000 ∧ (yss.getD j []).length ≤ 100000) := by
            have h1 := flat_len yss j
            have h2 := lens_mono yss (j + 1)
            have h3 := lens_succ yss j (by rw [← HNY.out]; exact hlt2)
            have h4 := HL.out
            exact ⟨by omega, by omega⟩
          have HSZ : Hid (w.heap.size ≤ wr.heap.size) := HBW.out.size
          clear hPj
          rename_i vcur
          generalize vs.getD j undef = vj at *
          generalize (yss.take j).flatten = fj at *
          generalize yss.getD j [] = yj at *
          go_wp2_with (at_builtin; refine wpList_appendR rfl (.tmp 31) (.tmp 32) rfl w.heap.size _ _ fj yj rfl HBV rfl hrd HL1.out.1 HL1.out.2 HSZ.out ?_; intro v' w2 h1 h2)
          go_roundw
          case rel => exact ⟨j + 1, by omega, by go_num, by rw [HF.out]; exact h1.out, HBW.out.trans h2.out⟩
          case measure => simp [intOf]; omega
        · obtain rfl : j = k := by omega
          go_wp2_with fail
          go_ret
          refine ⟨_, rfl, ?_, HBW.out⟩
          have := HBV.out
          rwa [List.take_of_length_le (by rw [← HNY.out]; exact Nat.le_refl _)] at this
end Go.Proofs.YtcahlponmbnkcaaDoor
