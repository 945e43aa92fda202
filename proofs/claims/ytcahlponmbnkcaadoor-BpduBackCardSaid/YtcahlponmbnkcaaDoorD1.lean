/- BPDU: whether a frame is a bridge's; a frame as the document's. -/
import Derived.Test.YtcahlponmbnkcaaDoorEq
namespace Go.Proofs.YtcahlponmbnkcaaDoor
open Go Go.RowKit

def isB (d0 d1 d2 d3 d4 d5 kind l0 l1 l2 : Int) : Bool := decide (d0 = 1 ∧ d1 = 128 ∧ d2 = 194 ∧ d3 = 0 ∧ d4 = 0 ∧ d5 = 0 ∧ kind = 2 ∧ l0 = 66 ∧ l1 = 66 ∧ l2 = 3)

/-- What the package's two variables hold. -/
structure Gl (w : World) : Prop where
  h0 : w.cell? ⟨0, 0, none⟩ = some (.int .u8 1)
  h1 : w.cell? ⟨0, 1, none⟩ = some (.int .u8 128)
  h2 : w.cell? ⟨0, 2, none⟩ = some (.int .u8 194)
  h3 : w.cell? ⟨0, 3, none⟩ = some (.int .u8 0)
  h4 : w.cell? ⟨0, 4, none⟩ = some (.int .u8 0)
  h5 : w.cell? ⟨0, 5, none⟩ = some (.int .u8 0)
  s0 : w.cell? ⟨1, 0, none⟩ = some (.int .u8 66)
  s1 : w.cell? ⟨1, 1, none⟩ = some (.int .u8 66)
  s2 : w.cell? ⟨1, 2, none⟩ = some (.int .u8 3)

theorem lt_of_cell {w : World} {a : Addr} {v : Value} (h : w.cell? a = some v) : a.block < w.heap.size := World.block_lt_of_cell? w a h

theorem Gl.below {w w' : World} (g : Gl w) (hb : Below w.heap.size w w') : Gl w' := by
  have l0 := lt_of_cell g.h0
  have l1 := lt_of_cell g.s0
  exact ⟨(hb.cell (p := ⟨0, 0, none⟩) l0).trans g.h0, (hb.cell (p := ⟨0, 1, none⟩) l0).trans g.h1, (hb.cell (p := ⟨0, 2, none⟩) l0).trans g.h2, (hb.cell (p := ⟨0, 3, none⟩) l0).trans g.h3, (hb.cell (p := ⟨0, 4, none⟩) l0).trans g.h4,
    (hb.cell (p := ⟨0, 5, none⟩) l0).trans g.h5, (hb.cell (p := ⟨1, 0, none⟩) l1).trans g.s0, (hb.cell (p := ⟨1, 1, none⟩) l1).trans g.s1, (hb.cell (p := ⟨1, 2, none⟩) l1).trans g.s2⟩

set_option maxRecDepth 100000 in
set_option maxHeartbeats 1000000 in
theorem is_any (d0 d1 d2 d3 d4 d5 kind l0 l1 l2 : Int) (s0 s1 s2 s3 s4 s5 tags typ o0 o1 o2 body rest : Value) (w : World) (hG : Gl w) :
    Calls Tryd.prog 11 #[.agg #[.int .u8 d0, .int .u8 d1, .int .u8 d2, .int .u8 d3, .int .u8 d4, .int .u8 d5, s0, s1, s2, s3, s4, s5, tags, .int .i64 kind, typ, .int .u8 l0, .int .u8 l1, .int .u8 l2, o0, o1, o2, body, rest]] w fun e w' => e = .returned (.bool (isB d0 d1 d2 d3 d4 d5 kind l0 l1 l2)) ∧ Below w.heap.size w w' := by
  obtain ⟨c0, c1, c2, c3, c4, c5, e0, e1, e2⟩ := hG
  have z0 : 0 < w.heap.size := lt_of_cell c0
  have z1 : 1 < w.heap.size := lt_of_cell e0
  have q6 := eqArr 28 6 Tryd.underlying28 #[.int .u8 d0, .int .u8 d1, .int .u8 d2, .int .u8 d3, .int .u8 d4, .int .u8 d5] #[.int .u8 1, .int .u8 128, .int .u8 194, .int .u8 0, .int .u8 0, .int .u8 0] [d0, d1, d2, d3, d4, d5] [1, 128, 194, 0, 0, 0] rfl rfl rfl rfl
  have q3 := eqArr 30 3 Tryd.underlying30 #[.int .u8 l0, .int .u8 l1, .int .u8 l2] #[.int .u8 66, .int .u8 66, .int .u8 3] [l0, l1, l2] [66, 66, 3] rfl rfl rfl rfl
  obtain ⟨b6, h6⟩ : ∃ b6, b6 = decide ([d0, d1, d2, d3, d4, d5] = [1, 128, 194, 0, 0, 0]) := ⟨_, rfl⟩
  obtain ⟨b3, h3⟩ : ∃ b3, b3 = decide ([l0, l1, l2] = [66, 66, 3]) := ⟨_, rfl⟩
  rw [← h6] at q6
  rw [← h3] at q3
  have HR : Hid (isB d0 d1 d2 d3 d4 d5 kind l0 l1 l2 = (b6 && decide (kind = 2) && b3)) := by
    show isB d0 d1 d2 d3 d4 d5 kind l0 l1 l2 = _
    rw [h6, h3]; simp [isB, Bool.and_assoc]
  clear h6 h3
  cases b6
  · go_enter Tryd.func11, Tryd.ntmps11
    go_wp2_with fail
    go_ret
    exact ⟨ret_bool (by rw [HR.out]; simp), (Below.refl _ _).alloc (Nat.le_refl _) _⟩
  · by_cases hk : kind = 2
    · have hk' : (kind == 2) = true := by simpa using hk
      have HK := Lib.hid hk
      clear hk
      go_enter Tryd.func11, Tryd.ntmps11
      go_wp2_with fail
      go_ret
      exact ⟨ret_bool (by rw [HR.out, HK.out]; simp), (Below.refl _ _).alloc (Nat.le_refl _) _⟩
    · have hk' : (kind == 2) = false := by simpa using hk
      have HK := Lib.hid hk
      clear hk
      go_enter Tryd.func11, Tryd.ntmps11
      go_wp2_with fail
      go_ret
      exact ⟨ret_bool (by rw [HR.out]; simp [HK.out]), (Below.refl _ _).alloc (Nat.le_refl _) _⟩

set_option maxRecDepth 100000 in
set_option maxHeartbeats 1000000 in
theorem refIs_any (d0 d1 d2 d3 d4 d5 kind l0 l1 l2 : Int) (s0 s1 s2 s3 s4 s5 tags typ o0 o1 o2 body rest : Value) (w : World) :
    Calls Tryd.prog 12 #[.agg #[.int .u8 d0, .int .u8 d1, .int .u8 d2, .int .u8 d3, .int .u8 d4, .int .u8 d5, s0, s1, s2, s3, s4, s5, tags, .int .i64 kind, typ, .int .u8 l0, .int .u8 l1, .int .u8 l2, o0, o1, o2, body, rest]] w fun e w' => e = .returned (.bool (isB d0 d1 d2 d3 d4 d5 kind l0 l1 l2)) ∧ Below w.heap.size w w' := by
  have q6 := eqArr 27 6 Tryd.underlying27 #[.int .u8 d0, .int .u8 d1, .int .u8 d2, .int .u8 d3, .int .u8 d4, .int .u8 d5] #[.int .u8 1, .int .u8 128, .int .u8 194, .int .u8 0, .int .u8 0, .int .u8 0] [d0, d1, d2, d3, d4, d5] [1, 128, 194, 0, 0, 0] rfl rfl rfl rfl
  have q3 := eqArr 30 3 Tryd.underlying30 #[.int .u8 l0, .int .u8 l1, .int .u8 l2] #[.int .u8 66, .int .u8 66, .int .u8 3] [l0, l1, l2] [66, 66, 3] rfl rfl rfl rfl
  obtain ⟨b6, h6⟩ : ∃ b6, b6 = decide ([d0, d1, d2, d3, d4, d5] = [1, 128, 194, 0, 0, 0]) := ⟨_, rfl⟩
  obtain ⟨b3, h3⟩ : ∃ b3, b3 = decide ([l0, l1, l2] = [66, 66, 3]) := ⟨_, rfl⟩
  rw [← h6] at q6
  rw [← h3] at q3
  have HR : Hid (isB d0 d1 d2 d3 d4 d5 kind l0 l1 l2 = (b6 && decide (kind = 2) && b3)) := by
    show isB d0 d1 d2 d3 d4 d5 kind l0 l1 l2 = _
    rw [h6, h3]; simp [isB, Bool.and_assoc]
  clear h6 h3
  cases b6
  · go_enter Tryd.func12, Tryd.ntmps12
    go_wp2_with fail
    go_ret
    exact ⟨ret_bool (by rw [HR.out]; simp), (Below.refl _ _).alloc (Nat.le_refl _) _⟩
  · by_cases hk : kind = 2
    · have hk' : (kind == 2) = true := by simpa using hk
      have HK := Lib.hid hk
      clear hk
      go_enter Tryd.func12, Tryd.ntmps12
      go_wp2_with fail
      go_ret
      exact ⟨ret_bool (by rw [HR.out, HK.out]; simp), (Below.refl _ _).alloc (Nat.le_refl _) _⟩
    · have hk' : (kind == 2) = false := by simpa using hk
      have HK := Lib.hid hk
      clear hk
      go_enter Tryd.func12, Tryd.ntmps12
      go_wp2_with fail
      go_ret
      exact ⟨ret_bool (by rw [HR.out]; simp [HK.out]), (Below.refl _ _).alloc (Nat.le_refl _) _⟩

end Go.Proofs.YtcahlponmbnkcaaDoor
