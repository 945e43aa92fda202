/- BPDU: the chapter's rows. -/
import Derived.Test.YtcahlponmbnkcaaDoorD2
namespace Go.Proofs.YtcahlponmbnkcaaDoor
open Go Go.RowKit

/-- Bytes as a string. -/
def strOf (bs : List Int) : ByteArray := bs.foldl (fun r n => r.push (UInt8.ofNat n.toNat)) ByteArray.empty

theorem conv_bytes {B : Nat} {w : World} {v : Value} {bs : List Int} (h : Bytes B w v bs) : (convert 31 9 v).run Tryd.prog w = .ok (.string (strOf bs)) w := by
  rcases h.2 with ⟨rfl, h0⟩ | ⟨g, cap, cur, rfl, hB, hg, hn, hc, hs, ht⟩
  · obtain rfl : bs = [] := List.eq_nil_of_length_eq_zero h0
    rw [run_convert_bytes_string w 31 9 5 _ _ _ Tryd.underlying31 Tryd.underlying5 Tryd.underlying9]
    rfl
  · rw [run_convert_bytes_string w 31 9 5 _ _ _ Tryd.underlying31 Tryd.underlying5 Tryd.underlying9]
    refine run_bytesToString w ⟨g, 0, none⟩ bs.length cap bs ?_
    have := run_loadCells_list (P := Tryd.prog) w ⟨g, 0, none⟩ (bs.map (Value.int .u8)) (World.ownsRow.cells h rfl)
    simpa using this

theorem Bytes.below {B : Nat} {w w' : World} {v : Value} {bs : List Int} (h : Bytes B w v bs) (hb : Below w.heap.size w w') : Bytes B w' v bs :=
  World.ownsRow.kept h (row := none) ⟨hb.os, hb.tape, hb.output, hb.size, fun k hk _ => hb.block k hk⟩ (by cases v.ownBlock <;> simp)

theorem putL_len1 (f r b c p a x h d : Int) : (putL 1 f r b c p a x h d).length = 35 := by simp [putL, hd, beI_len]
theorem putL_len3 (f r b c p a x h d : Int) : (putL 3 f r b c p a x h d).length = 36 := by simp [putL, hd, beI_len]

set_option maxRecDepth 100000 in
set_option maxHeartbeats 1000000 in
theorem tells_any (w : World) : Calls Tryd.prog 14 #[] w fun e w' => e = .returned (.bool true) ∧ Below w.heap.size w w' := by
  have H2 : Hid (∀ W, Calls Tryd.prog 6 #[msgV 2 0 0 0 0 0 0 0 0 0] W fun e w' => ∃ v, e = .returned (.tuple #[v, .int .i64 0]) ∧ Bytes W.heap.size w' v (putL 2 0 0 0 0 0 0 0 0 0) ∧ Below W.heap.size W w') := fun W => put_2 0 0 0 0 0 0 0 0 0 W rfl
  have H1 : Hid (∀ W, Calls Tryd.prog 6 #[msgV 1 0 0 0 0 0 0 1 0 0] W fun e w' => ∃ v, e = .returned (.tuple #[v, .int .i64 0]) ∧ Bytes W.heap.size w' v (putL 1 0 0 0 0 0 0 1 0 0) ∧ Below W.heap.size W w') := fun W => put_1 0 0 0 0 0 0 1 0 0 W (by decide) (by decide) (by decide) (by decide) (by decide) (by decide) (by decide) (by decide) (by decide) rfl rfl rfl rfl rfl rfl rfl rfl
  have H3 : Hid (∀ W, Calls Tryd.prog 6 #[msgV 3 0 0 0 0 0 0 1 0 0] W fun e w' => ∃ v, e = .returned (.tuple #[v, .int .i64 0]) ∧ Bytes W.heap.size w' v (putL 3 0 0 0 0 0 0 1 0 0) ∧ Below W.heap.size W w') := fun W => put_3 0 0 0 0 0 0 1 0 0 W (by decide) (by decide) (by decide) (by decide) (by decide) (by decide) (by decide) (by decide) (by decide) rfl rfl rfl rfl rfl rfl rfl rfl
  go_enter Tryd.func14, Tryd.ntmps14
  go_wp2_with fail
  refine (H2.out _).mono ?_
  rintro e w1 ⟨v1, rfl, hv1, hb1⟩
  have HV1 := Lib.hid hv1
  have HB1 := Lib.hid hb1
  clear hv1 hb1
  go_wp2_with fail
  refine (H1.out _).mono ?_
  rintro e w2 ⟨v2, rfl, hv2, hb2⟩
  obtain ⟨g2, c2, rfl, _, _⟩ := World.ownsRow.form hv2 (by rw [putL_len1]; decide)
  rw [putL_len1]
  have HB2 := Lib.hid hb2
  clear hv2 hb2
  go_wp2_with fail
  refine (H3.out _).mono ?_
  rintro e w3 ⟨v3, rfl, hv3, hb3⟩
  obtain ⟨g3, c3, rfl, _, _⟩ := World.ownsRow.form hv3 (by rw [putL_len3]; decide)
  rw [putL_len3]
  have HB3 := Lib.hid hb3
  clear hv3 hb3
  have hcv := conv_bytes ((HV1.out.below HB2.out).below HB3.out)
  rw [show strOf (putL 2 0 0 0 0 0 0 0 0 0) = ⟨#[0, 0, 0, 128]⟩ from by decide +kernel] at hcv
  go_wp2_with fail
  go_ret
  exact ⟨rfl, (HB1.out.trans (HB2.out.mono HB1.out.size)).trans (HB3.out.mono (Nat.le_trans HB1.out.size HB2.out.size))⟩
end Go.Proofs.YtcahlponmbnkcaaDoor
