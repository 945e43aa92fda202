/- Arrays of bytes held against each other. -/
import Derived.Test.YtcahlponmbnkcaaDoorC2
import Derived.ChangeKeysEq
namespace Go.Proofs.YtcahlponmbnkcaaDoor
open Go Go.RowKit
theorem cells5 : Tryd.prog.cellsOf 5 = 1 := by kernel_rfl
theorem plain5 : Tryd.prog.plainKey 5 = true := by kernel_rfl
theorem eqItem (xs ys : Array Value) (is : List Nat) (w : World) (x y : List Int) (hx : xs.toList = x.map (Value.int .u8)) (hy : ys.toList = y.map (Value.int .u8)) (h : ∀ i ∈ is, i < x.length ∧ i < y.length) :
   (Op.eqItems 9999 5 (Tryd.prog.cellsOf 5) xs ys is).run Tryd.prog w = .ok (is.all fun i => x.getD i 0 == y.getD i 0) w := by
  rw [cells5]
  induction is with
  | nil => simp [Op.eqItems]
  | cons i is ih =>
    have hi := h i (by simp)
    have e1 : ∀ (zs : Array Value) (z : List Int), zs.toList = z.map (Value.int .u8) → i < z.length → (part 5 zs (i * 1)).run Tryd.prog w = .ok (.int .u8 (z.getD i 0)) w := by
      intro zs z hz hl
      refine run_part_plain w plain5 ?_
      rw [Nat.mul_one, ← Array.getElem?_toList, hz]
      simp [hl]
    simp only [Op.eqItems, Sem.run_bind, e1 _ _ hx hi.1, e1 _ _ hy hi.2, Result.andThen_ok, run_equalIn_int w 9998 5 .u8 .u8 _ _ Tryd.underlying5]
    cases hb : (x.getD i 0 == y.getD i 0)
    · rw [List.all_cons, hb]; simp
    · rw [List.all_cons, hb]
      simp only [Bool.not_true, Bool.false_eq_true, if_false, Bool.true_and]
      exact ih (fun j hj => h j (by simp [hj]))

theorem all_range (n : Nat) (x y : List Int) (hx : x.length = n) (hy : y.length = n) : ((List.range n).all fun i => x.getD i 0 == y.getD i 0) = decide (x = y) := by
  rw [Bool.eq_iff_iff]
  simp only [List.all_eq_true, List.mem_range, beq_iff_eq, decide_eq_true_eq]
  constructor
  · intro h
    refine List.ext_getElem (by omega) fun i h1 h2 => ?_
    have := h i (by omega)
    simpa [List.getD, List.getElem?_eq_getElem h1, List.getElem?_eq_getElem h2] using this
  · rintro rfl _ _; rfl

/-- '==' between two arrays of bytes. -/
theorem eqArr (t n : Nat) (ht : Tryd.prog.underlying t = some (.array n 5)) (xs ys : Array Value) (x y : List Int) (hx : xs.toList = x.map (Value.int .u8)) (hy : ys.toList = y.map (Value.int .u8)) (hxl : x.length = n) (hyl : y.length = n) (w : World) :
    (Op.equalIn 10000 t (.agg xs) (.agg ys)).run Tryd.prog w = .ok (decide (x = y)) w := by
  obtain ⟨i0, hi, _⟩ := info_parts Tryd.info5
  rw [run_equalIn_array w 9999 xs ys ht hi, eqItem xs ys _ w x y hx hy (fun i h => by have := List.mem_range.1 h; omega), all_range n x y hxl hyl]
end Go.Proofs.YtcahlponmbnkcaaDoor
