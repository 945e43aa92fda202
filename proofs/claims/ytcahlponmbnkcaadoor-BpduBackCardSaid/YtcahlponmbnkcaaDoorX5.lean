/- Bytes that are turned in a bit are others. -/
import Derived.Test.YtcahlponmbnkcaaDoorX3
namespace Go.Proofs.YtcahlponmbnkcaaDoor
open Go Go.RowKit

theorem xor_fin : ∀ y : Fin 43, bits BinOp.xor IntKind.u8 1 (1 + (y.val : Int)) ≠ 1 ∧ bits BinOp.xor IntKind.u8 128 (1 + (y.val : Int)) ≠ 128 ∧ bits BinOp.xor IntKind.u8 194 (1 + (y.val : Int)) ≠ 194 ∧
    bits BinOp.xor IntKind.u8 0 (1 + (y.val : Int)) ≠ 0 ∧ bits BinOp.xor IntKind.u8 66 (1 + (y.val : Int)) ≠ 66 ∧ bits BinOp.xor IntKind.u8 3 (1 + (y.val : Int)) ≠ 3 := by decide

theorem xor_ne (y : Nat) (h : y ≤ 42) : bits BinOp.xor IntKind.u8 1 (1 + (y : Int)) ≠ 1 ∧ bits BinOp.xor IntKind.u8 128 (1 + (y : Int)) ≠ 128 ∧ bits BinOp.xor IntKind.u8 194 (1 + (y : Int)) ≠ 194 ∧
    bits BinOp.xor IntKind.u8 0 (1 + (y : Int)) ≠ 0 ∧ bits BinOp.xor IntKind.u8 66 (1 + (y : Int)) ≠ 66 ∧ bits BinOp.xor IntKind.u8 3 (1 + (y : Int)) ≠ 3 := xor_fin ⟨y, by omega⟩

theorem row_dst (q y : Nat) (hq : q < 6) (hy : y ≤ 42) (s0 s1 s2 s3 s4 s5 : Int) (tags body : Value) :
    ∃ dq, (llcF 1 128 194 0 0 0 s0 s1 s2 s3 s4 s5 tags 66 66 3 body)[q]? = some (.int .u8 dq) ∧ ∃ d0 d1 d2 d3 d4 d5,
      (llcF 1 128 194 0 0 0 s0 s1 s2 s3 s4 s5 tags 66 66 3 body).setIfInBounds q (.int .u8 (bits BinOp.xor IntKind.u8 dq (1 + (y : Int)))) = llcF d0 d1 d2 d3 d4 d5 s0 s1 s2 s3 s4 s5 tags 66 66 3 body ∧ isB d0 d1 d2 d3 d4 d5 2 66 66 3 = false := by
  obtain ⟨e1, e128, e194, e0, e66, e3⟩ := xor_ne y hy
  match q, hq with
  | 0, _ => exact ⟨1, rfl, _, _, _, _, _, _, rfl, by simp [isB, e1]⟩
  | 1, _ => exact ⟨128, rfl, _, _, _, _, _, _, rfl, by simp [isB, e128]⟩
  | 2, _ => exact ⟨194, rfl, _, _, _, _, _, _, rfl, by simp [isB, e194]⟩
  | 3, _ => exact ⟨0, rfl, _, _, _, _, _, _, rfl, by simp [isB, e0]⟩
  | 4, _ => exact ⟨0, rfl, _, _, _, _, _, _, rfl, by simp [isB, e0]⟩
  | 5, _ => exact ⟨0, rfl, _, _, _, _, _, _, rfl, by simp [isB, e0]⟩

theorem row_llc (r y : Nat) (hr : r < 3) (hy : y ≤ 42) (s0 s1 s2 s3 s4 s5 : Int) (tags body : Value) :
    ∃ lr, (llcF 1 128 194 0 0 0 s0 s1 s2 s3 s4 s5 tags 66 66 3 body)[15 + r]? = some (.int .u8 lr) ∧ ∃ l0 l1 l2,
      (llcF 1 128 194 0 0 0 s0 s1 s2 s3 s4 s5 tags 66 66 3 body).setIfInBounds (15 + r) (.int .u8 (bits BinOp.xor IntKind.u8 lr (1 + (y : Int)))) = llcF 1 128 194 0 0 0 s0 s1 s2 s3 s4 s5 tags l0 l1 l2 body ∧ isB 1 128 194 0 0 0 2 l0 l1 l2 = false := by
  obtain ⟨e1, e128, e194, e0, e66, e3⟩ := xor_ne y hy
  match r, hr with
  | 0, _ => exact ⟨66, rfl, _, _, _, rfl, by simp [isB, e66]⟩
  | 1, _ => exact ⟨66, rfl, _, _, _, rfl, by simp [isB, e66]⟩
  | 2, _ => exact ⟨3, rfl, _, _, _, rfl, by simp [isB, e3]⟩
end Go.Proofs.YtcahlponmbnkcaaDoor
