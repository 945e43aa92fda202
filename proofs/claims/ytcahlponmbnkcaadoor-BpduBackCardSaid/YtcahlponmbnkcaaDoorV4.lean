/- tag: a tag's two words; a pad of bytes. -/
import Derived.Test.YtcahlponmbnkcaaDoorV3
namespace Go.Proofs.YtcahlponmbnkcaaDoor
open Go Go.RowKit Go.Sort

set_option maxRecDepth 100000 in
set_option maxHeartbeats 1000000 in
theorem tword_any (n : Int) (w : World) (h0 : 0 ≤ n) (h1 : n ≤ 4095) :
    Calls Tryd.prog 55 #[tagV n] w fun e w' => e = .returned (.int .u16 n) ∧ Below w.heap.size w w' := by
  have hz : bits BinOp.or IntKind.u16 0 n = n := by
    have := bits_join .u16 16 (by decide) wraps_u16 13 0 n (by omega) (by omega) (by omega) h0 (by omega) (by omega)
    simpa using this
  unfold tagV
  go_enter Tryd.func55, Tryd.ntmps55
  go_wp2_with fail
  go_ret
  exact ⟨rfl, (Below.refl _ _).alloc (Nat.le_refl _) _⟩

set_option maxRecDepth 100000 in
set_option maxHeartbeats 1000000 in
theorem tof_any (n : Int) (w : World) (h0 : 0 ≤ n) (h1 : n ≤ 4095) :
    Calls Tryd.prog 49 #[.int .u16 33024, .int .u16 n] w fun e w' => e = .returned (tagV n) ∧ Below w.heap.size w w' := by
  have hz : bits BinOp.and IntKind.u16 n 4095 = n := by
    have := bits_mask .u16 16 (by decide) wraps_u16 12 (by decide) n h0 (by omega)
    rw [show (2 : Int) ^ 12 - 1 = 4095 by decide] at this
    rw [this]; omega
  have h8 : n / 8192 = 0 := by omega
  have h4 : n / 4096 = 0 := by omega
  have hb : bits BinOp.and IntKind.u16 0 1 = 0 := by decide
  unfold tagV
  go_enter Tryd.func49, Tryd.ntmps49
  go_wp2_with fail
  refine bodyPost_ret (results_cell_row (P := Tryd.prog) Tryd.results49 _ _ w.heap.size 52 #[.int .u16 33024, .int .u8 0, .bool false, .int .u16 n] (0, 0) _ rfl (heap_alloc_new _ _) Tryd.underlying52 rfl (by kernel_rfl)) rfl ⟨rfl, (Below.refl _ _).alloc (Nat.le_refl _) _⟩

/-- A pad that holds these. -/
def PadAt (w : World) (B g : Nat) (bs : List Int) : Prop := B ≤ g ∧ ∃ v, w.heap[g]? = some (.cells #[v, .bool true] 113 (0, 0)) ∧ Bytes B w v bs

set_option maxRecDepth 100000 in
set_option maxHeartbeats 1000000 in
theorem plaid_any (w : World) :
    Calls Tryd.prog 54 #[] w fun e w' => ∃ g, e = .returned (.pointer (some ⟨g, 0, none⟩)) ∧ PadAt w' w.heap.size g [] ∧ Below w.heap.size w w' := by
  go_enter Tryd.func54, Tryd.ntmps54
  go_wp2_with fail
  go_ret
  exact ⟨w.heap.size, rfl, ⟨Nat.le_refl _, _, heap_alloc_new _ _, World.ownsRow_nil _ _ _ _⟩, (Below.refl _ _).alloc (Nat.le_refl _) _⟩

theorem Bytes.apart {B g : Nat} {w w' : World} {v : Value} {bs : List Int} {cs : Array Value} (h : Bytes B w v bs) (hg : w.heap[g]? = some (.cells cs 113 (0, 0))) (hb : ∀ k, k ≠ g → w'.heap[k]? = w.heap[k]?) : Bytes B w' v bs := by
  rcases h.2 with ⟨rfl, h0⟩ | ⟨b, cap, cur, rfl, hB, hh, hn, hc, hs, ht⟩
  · exact ⟨h.1, .inl ⟨rfl, h0⟩⟩
  · have hne : b ≠ g := by
      rintro rfl
      rw [hh] at hg
      injection hg with hg
      injection hg with _ h2 _
      exact absurd h2 (by decide)
    exact ⟨h.1, .inr ⟨b, cap, cur, rfl, hB, (hb _ hne).trans hh, hn, hc, hs, ht⟩⟩

set_option maxRecDepth 100000 in
set_option maxHeartbeats 1000000 in
theorem pnone_any (g : Nat) (w : World) (hc : w.cell? ⟨g, 1, none⟩ = some (.bool true)) :
    Calls Tryd.prog 60 #[.pointer (some ⟨g, 0, none⟩)] w fun e w' => e = .returned (.bool false) ∧ w' = w := by
  go_enter Tryd.func60, Tryd.ntmps60
  go_wp2_with fail
  go_ret
  exact ⟨rfl, rfl⟩

theorem own_ne {B g : Nat} {w : World} {v : Value} {bs : List Int} {cs : Array Value} (h : Bytes B w v bs) (hg : w.heap[g]? = some (.cells cs 113 (0, 0))) : v.ownBlock ≠ some g := by
  rcases h.2 with ⟨rfl, h0⟩ | ⟨b, cap, cur, rfl, hB, hh, hn, hc, hs, ht⟩
  · intro e; cases e
  · intro e
    have e' : b = g := by injection e
    subst e'
    rw [hh] at hg
    injection hg with hg
    injection hg with _ h2 _
    exact absurd h2 (by decide)

/-- Rows that are neither bytes nor a pad stay. -/
def Kept24 (w w' : World) : Prop := ∀ (k : Nat) (cs : Array Value) (t : Nat), t ≠ 5 → t ≠ 113 → w.heap[k]? = some (Obj.cells cs t (0, 0)) → w'.heap[k]? = some (Obj.cells cs t (0, 0))

theorem Kept24.trans {w w' w2 : World} (h : Kept24 w w') (h' : Kept24 w' w2) : Kept24 w w2 := fun k cs t a b c => h' k cs t a b (h k cs t a b c)
theorem Kept24.of {w w' : World} (h : Below w.heap.size w w') : Kept24 w w' := fun k _ _ _ _ c => (h.block k (lt_of_block c)).trans c

set_option maxRecDepth 100000 in
set_option maxHeartbeats 1000000 in
theorem pbyte_two (B g b c : Nat) (x y : Int) (bs : List Int) (w : World) (hB : B ≤ w.heap.size) (hp : PadAt w B g bs) (h0 : w.cell? ⟨b, 0, none⟩ = some (.int .u8 x)) (h1 : w.cell? ⟨b, 1, none⟩ = some (.int .u8 y)) (hl : bs.length ≤ 100) :
    Calls Tryd.prog 59 #[.pointer (some ⟨g, 0, none⟩), .slice (some ⟨b, 0, none⟩) 2 c] w fun e w' => e = .returned (.pointer (some ⟨g, 0, none⟩)) ∧ PadAt w' B g (bs ++ [x, y]) ∧ Below B w w' ∧ Kept24 w w' ∧ w.heap.size ≤ w'.heap.size := by
  obtain ⟨hg, v, hh, hown⟩ := hp
  have hfr : w.frozen? ⟨g, 0, none⟩ = false := by simp [World.frozen?, hh]
  have hv := info_cells (k := 0) (u := v) hh rfl
  have hm := info_cells (k := 1) (u := .bool true) hh rfl
  have HC : Hid (∀ j u, ([x, y].map (Value.int .u8))[j]? = some u → w.cell? ((⟨b, 0, none⟩ : Addr).add j) = some u) := Lib.hid fun j u hu => by
    rw [Addr.add_lit]
    match j, hu with
    | 0, hu => cases hu; exact h0
    | 1, hu => cases hu; exact h1
    | j + 2, hu => cases hu
  have HO := Lib.hid hown
  have HH := Lib.hid hh
  have HG := Lib.hid hg
  have HBs := Lib.hid hB
  clear hg hh hown h0 h1 hB
  go_enter Tryd.func59, Tryd.ntmps59
  go_wp2_with (first
    | (go_at_call 60; refine (pnone_any _ _ hm).mono ?_; rintro e w1 ⟨rfl, hw⟩; rw [hw]; clear hw w1)
    | (at_builtin; go_loud (refine wpList_appendB rfl (.tmp 12) (.tmp 13) rfl B v bs [x, y] rfl HO ⟨b, 0, none⟩ 2 c rfl rfl HC.out (by omega) (by simp) HBs.out ?_; intro v' w2 k1 k2 k3; obtain ⟨a', c', rfl⟩ := k1.out.rd.form; have HH2 : Hid (w2.heap[g]? = some (.cells #[v, .bool true] 113 (0, 0))) := (k2.out.block g (lt_of_block HH.out) (own_ne HO.out HH.out).symm).trans HH.out; have hf2 : w2.frozen? ⟨g, 0, none⟩ = false := (by simp [World.frozen?, HH2.out]); have hc2 := info_cells (k := 0) (u := v) HH2.out rfl)))
  go_ret
  have hk : Bytes B w2 (.slice a' (bs.length + 2) c') (bs ++ [x, y]) := by
    have := k1.out
    simpa using this
  refine ⟨rfl, ⟨HG.out, _, ?_, hk.apart HH2.out fun k h => Below.heap_setCell _ _ _ _ h⟩, ?_, ?_, by simpa [World.setCell] using k2.out.size⟩
  · simp [World.setCell, Array.getElem?_modify, HH2.out]
  · refine Below.setCell ((Below.refl _ _).grown k2.out HBs.out fun j hj => ?_) HG.out _
    rcases k3.out with h3 | ⟨k', h3, h4⟩
    · rw [h3] at hj; cases hj
    · rw [h3] at hj; cases hj; exact h4
  · intro k cs t0 ht5 ht113 hk
    have hne : k ≠ g := by
      rintro rfl
      rw [HH.out] at hk
      injection hk with hk
      injection hk with _ h2 _
      exact ht113 h2.symm
    rw [Below.heap_setCell _ _ _ _ hne, k2.out.block k (lt_of_block hk) ?_]
    · exact hk
    · intro e
      rcases HO.out.2 with ⟨rfl, h0⟩ | ⟨b, cap, cur, rfl, hB, hh, hn, hc, hs, ht⟩
      · cases e
      · have e' : k = b := by injection e
        subst e'
        rw [hh] at hk
        injection hk with hk
        injection hk with _ h2 _
        exact ht5 h2.symm

theorem PadAt.below {w w' : World} {B g : Nat} {bs : List Int} (h : PadAt w B g bs) (hb : Below w.heap.size w w') : PadAt w' B g bs := by
  obtain ⟨h1, v, h2, h3⟩ := h
  exact ⟨h1, v, (hb.block _ (lt_of_block h2)).trans h2, h3.below hb⟩

set_option maxRecDepth 100000 in
set_option maxHeartbeats 1000000 in
theorem pdone_any (B g : Nat) (bs : List Int) (w : World) (hp : PadAt w B g bs) (hl : bs.length ≤ 100) :
    Calls Tryd.prog 57 #[.pointer (some ⟨g, 0, none⟩)] w fun e w' => ∃ v, e = .returned v ∧ Rd w' v bs ∧ Below w.heap.size w w' := by
  obtain ⟨hg, v, hh, hown⟩ := hp
  have hv := info_cells (k := 0) (u := v) hh rfl
  have hm := info_cells (k := 1) (u := .bool true) hh rfl
  have HO := Lib.hid hown
  have hl2 : bs.length ≤ 100000 := by omega
  clear hg hh hown
  go_enter Tryd.func57, Tryd.ntmps57
  go_wp2_with (first
    | (go_at_call 60; refine (pnone_any _ _ hm).mono ?_; rintro e w1 ⟨rfl, hw⟩; rw [hw]; clear hw w1)
    | (go_at_call 48; refine (clone_any v bs _ HO.out.rd hl2).mono ?_; rintro e w1 ⟨v', rfl, h1, h2⟩))
  go_ret
  exact ⟨_, rfl, h1.rd, h2⟩

set_option maxRecDepth 100000 in
set_option maxHeartbeats 1000000 in
/-- Two numbers of two bytes are laid. -/
theorem ptwo_any (B g b c : Nat) (k n : Int) (w : World) (hB : B ≤ w.heap.size) (hp : PadAt w B g []) (hb : w.heap[b]? = some (.cells #[.int .u16 k, .int .u16 n] 24 (0, 0)))
    (hk0 : 0 ≤ k) (hk1 : k < 65536) (hn0 : 0 ≤ n) (hn1 : n < 65536) :
    Calls Tryd.prog 56 #[.pointer (some ⟨g, 0, none⟩), .slice (some ⟨b, 0, none⟩) 2 c] w fun e w' => e = .returned (.pointer (some ⟨g, 0, none⟩)) ∧ PadAt w' B g [k / 256, k % 256, n / 256, n % 256] ∧ Below B w w' ∧ Kept24 w w' := by
  have HP := Lib.hid hp
  have HB := Lib.hid hB
  have HH := Lib.hid hb
  clear hp hB hb
  go_enter Tryd.func56, Tryd.ntmps56
  go_wp2_with fail
  go_loopw [9] (fun i wr => (i = .int .i64 0 ∧ wr = w) ∨ (i = .int .i64 1 ∧ PadAt wr B g [k / 256, k % 256] ∧ Below B w wr ∧ wr.heap[b]? = some (.cells #[.int .u16 k, .int .u16 n] 24 (0, 0)) ∧ B ≤ wr.heap.size ∧ Kept24 w wr)
     ∨ (i = .int .i64 2 ∧ PadAt wr B g [k / 256, k % 256, n / 256, n % 256] ∧ Below B w wr ∧ Kept24 w wr)) (fun i _ => 2 - (intOf i).toNat)
  case atStart => exact .inl ⟨rfl, rfl⟩
  case round =>
    rcases hrel with ⟨rfl, rfl⟩ | ⟨rfl, hpad, hbel, hhb, hsz, hkp⟩ | ⟨rfl, hpad, hbel, hkp⟩
    · have hx := info_cells (k := 0) (u := .int .u16 k) HH.out rfl
      have HA : Hid (Below wr.heap.size wr (wr.alloc (.cells #[.int .u8 (k / 256), .int .u8 (k % 256)] 5))) := (Below.refl wr.heap.size wr).alloc (Nat.le_refl _) _
      have HN := Lib.hid (HP.out.below HA.out)
      have HHN : Hid ((wr.alloc (.cells #[.int .u8 (k / 256), .int .u8 (k % 256)] 5)).heap[b]? = some (.cells #[.int .u16 k, .int .u16 n] 24 (0, 0))) := (HA.out.block b (lt_of_block HH.out)).trans HH.out
      go_wp2_with (go_at_call 59; refine (pbyte_two B g wr.heap.size 2 (k / 256) (k % 256) [] _ (Nat.le_trans HB.out HA.out.size) HN.out (cell_new _ _ _ 0 _ rfl) (cell_new _ _ _ 1 _ rfl) (by simp)).mono ?_; rintro e w1 ⟨rfl, h1, h2, h3, h4⟩)
      have HBB : Below B wr w1 := (HA.out.mono HB.out).trans h2
      refine ⟨.inr (.inl ⟨rfl, h1, HBB, h3 b _ 24 (by decide) (by decide) HHN.out, Nat.le_trans HB.out HBB.size, (Kept24.of HA.out).trans h3⟩), by simp [intOf]⟩
    · have HPD := Lib.hid hpad
      have HHB := Lib.hid hhb
      have HSZ := Lib.hid hsz
      have HBL := Lib.hid hbel
      have HKP := Lib.hid hkp
      clear hpad hhb hsz hbel hkp
      have hx := info_cells (k := 1) (u := .int .u16 n) HHB.out rfl
      have HA : Hid (Below wr.heap.size wr (wr.alloc (.cells #[.int .u8 (n / 256), .int .u8 (n % 256)] 5))) := (Below.refl wr.heap.size wr).alloc (Nat.le_refl _) _
      have HN := Lib.hid (HPD.out.below HA.out)
      have HHN : Hid ((wr.alloc (.cells #[.int .u8 (n / 256), .int .u8 (n % 256)] 5)).heap[b]? = some (.cells #[.int .u16 k, .int .u16 n] 24 (0, 0))) := (HA.out.block b (lt_of_block HHB.out)).trans HHB.out
      go_wp2_with (go_at_call 59; refine (pbyte_two B g wr.heap.size 2 (n / 256) (n % 256) [k / 256, k % 256] _ (Nat.le_trans HSZ.out HA.out.size) HN.out (cell_new _ _ _ 0 _ rfl) (cell_new _ _ _ 1 _ rfl) (by simp)).mono ?_; rintro e w1 ⟨rfl, h1, h2, h3, h4⟩)
      have HBB : Below B wr w1 := (HA.out.mono HSZ.out).trans h2
      refine ⟨.inr (.inr ⟨rfl, h1, HBL.out.trans HBB, HKP.out.trans ((Kept24.of HA.out).trans h3)⟩), by simp [intOf]⟩
    · go_wp2_with fail
      go_ret
      exact ⟨rfl, hpad, hbel, hkp⟩
end Go.Proofs.YtcahlponmbnkcaaDoor
