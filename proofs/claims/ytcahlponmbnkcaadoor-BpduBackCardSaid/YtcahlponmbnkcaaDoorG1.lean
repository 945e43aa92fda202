/- BPDU: messages and frames that come in, opened. -/
import Derived.Test.YtcahlponmbnkcaaDoorF2
import Derived.ProofKit
import Derived.OpenShut
import Derived.LaidMore
import Derived.Lib.LaidTab
import Derived.Lib.SmallJoins
namespace Go.Proofs.YtcahlponmbnkcaaDoor
open Go Go.RowKit

theorem len_succ {α : Type} {l : List α} {n : Nat} (h : l.length = n + 1) : ∃ a t, l = a :: t ∧ t.length = n := by
  cases l with
  | nil => simp at h
  | cons a t => exact ⟨a, t, rfl, by simpa using h⟩
theorem len_zero {α : Type} {l : List α} (h : l.length = 0) : l = [] := List.eq_nil_of_length_eq_zero h

theorem bytes_of : ∀ (cs : List Value), (∀ i, i < cs.length → ∃ z : Int, cs[i]? = some (.int .u8 z) ∧ 0 ≤ z ∧ z < 256) → ∃ zs : List Int, cs = zs.map (Value.int .u8) ∧ ∀ z ∈ zs, 0 ≤ z ∧ z < 256
  | [], _ => ⟨[], rfl, by simp⟩
  | c :: cs, h => by
    obtain ⟨z, hz, hb⟩ := h 0 (by simp)
    obtain ⟨zs, rfl, hzs⟩ := bytes_of cs (fun i hi => by have := h (i + 1) (by simpa using hi); simpa using this)
    refine ⟨z :: zs, ?_, ?_⟩
    · simp at hz; simp [hz]
    · intro y hy
      rcases List.mem_cons.1 hy with rfl | hy
      · exact hb
      · exact hzs y hy

section
variable {H : Type} {enc : TypeId × Value → H} {w : World} {base : Nat} {sp : Nat → Bool} {held : Bool}

/-- An array of bytes. -/
theorem arr_open {t n fuel : Nat} (ht : Tryd.prog.underlying t = some (.array n 5)) {cs : List Value} {x : DataW H × List MemPlace} (h : DataW.trod enc Tryd.prog w base sp held fuel t cs = some x) (hcs : cs.length = n) :
    ∃ zs : List Int, cs = zs.map (Value.int .u8) ∧ ∀ z ∈ zs, 0 ≤ z ∧ z < 256 := by
  obtain ⟨xs, m, _, _, _, hxl, hel⟩ := DataW.trod_array ht h
  refine bytes_of cs fun i hi => ?_
  have h1 := hel i (by omega)
  rw [cells5, Nat.mul_one, List.getElem?_eq_getElem (by omega)] at h1
  obtain ⟨z, e, _, hw⟩ := DataW.trod_int Tryd.underlying5 h1
  refine ⟨z, ?_, ?_⟩
  · have := congrArg (·[0]?) e
    simpa [List.getElem?_take, List.getElem?_drop] using this
  · have := bounds_u8 hw
    omega

theorem cells26 : Tryd.prog.cellsOf 26 = 10 := by kernel_rfl
theorem cells33 : Tryd.prog.cellsOf 33 = 23 := by kernel_rfl
theorem cells28 : Tryd.prog.cellsOf 28 = 6 := by kernel_rfl
theorem cells30 : Tryd.prog.cellsOf 30 = 3 := by kernel_rfl
theorem cells29 : Tryd.prog.cellsOf 29 = 1 := by kernel_rfl
theorem cells31 : Tryd.prog.cellsOf 31 = 1 := by kernel_rfl
theorem cells3 : Tryd.prog.cellsOf 3 = 1 := by kernel_rfl
theorem cells22 : Tryd.prog.cellsOf 22 = 1 := by kernel_rfl
theorem cells23 : Tryd.prog.cellsOf 23 = 1 := by kernel_rfl
theorem cells24 : Tryd.prog.cellsOf 24 = 1 := by kernel_rfl

/-- A message. -/
theorem msg_open {fuel : Nat} {cs : List Value} {x : DataW H × List MemPlace} (h : DataW.trod enc Tryd.prog w base sp held fuel 26 cs = some x) :
    ∃ k f r b c p a x h d : Int, cs = [.int .i64 k, .int .u8 f, .int .u64 r, .int .u64 b, .int .u32 c, .int .u16 p, .int .u16 a, .int .u16 x, .int .u16 h, .int .u16 d] ∧ Fits f r b c p a x h d := by
  obtain ⟨xs, n, _, _, hl, hxl, hel⟩ := DataW.trod_struct Tryd.underlying26 h
  rw [cells26] at hl
  obtain ⟨a0, t0, rfl, hl0⟩ := len_succ hl
  obtain ⟨a1, t1, rfl, hl1⟩ := len_succ hl0
  obtain ⟨a2, t2, rfl, hl2⟩ := len_succ hl1
  obtain ⟨a3, t3, rfl, hl3⟩ := len_succ hl2
  obtain ⟨a4, t4, rfl, hl4⟩ := len_succ hl3
  obtain ⟨a5, t5, rfl, hl5⟩ := len_succ hl4
  obtain ⟨a6, t6, rfl, hl6⟩ := len_succ hl5
  obtain ⟨a7, t7, rfl, hl7⟩ := len_succ hl6
  obtain ⟨a8, t8, rfl, hl8⟩ := len_succ hl7
  obtain ⟨a9, t9, rfl, hl9⟩ := len_succ hl8
  obtain rfl := len_zero hl9
  have g0 := hel 0 _ rfl
  rw [List.getElem?_eq_getElem (show 0 < xs.length by rw [hxl]; decide)] at g0
  obtain ⟨z0, e0, _, w0⟩ := DataW.trod_int Tryd.underlying3 g0
  obtain rfl : a0 = .int .i64 z0 := by
    have := congrArg (·[0]?) e0
    simpa [cells3] using this
  have g1 := hel 1 _ rfl
  rw [List.getElem?_eq_getElem (show 1 < xs.length by rw [hxl]; decide)] at g1
  obtain ⟨z1, e1, _, w1⟩ := DataW.trod_int Tryd.underlying5 g1
  obtain rfl : a1 = .int .u8 z1 := by
    have := congrArg (·[0]?) e1
    simpa [cells5] using this
  have g2 := hel 2 _ rfl
  rw [List.getElem?_eq_getElem (show 2 < xs.length by rw [hxl]; decide)] at g2
  obtain ⟨z2, e2, _, w2⟩ := DataW.trod_int Tryd.underlying22 g2
  obtain rfl : a2 = .int .u64 z2 := by
    have := congrArg (·[0]?) e2
    simpa [cells22] using this
  have g3 := hel 3 _ rfl
  rw [List.getElem?_eq_getElem (show 3 < xs.length by rw [hxl]; decide)] at g3
  obtain ⟨z3, e3, _, w3⟩ := DataW.trod_int Tryd.underlying22 g3
  obtain rfl : a3 = .int .u64 z3 := by
    have := congrArg (·[0]?) e3
    simpa [cells22] using this
  have g4 := hel 4 _ rfl
  rw [List.getElem?_eq_getElem (show 4 < xs.length by rw [hxl]; decide)] at g4
  obtain ⟨z4, e4, _, w4⟩ := DataW.trod_int Tryd.underlying23 g4
  obtain rfl : a4 = .int .u32 z4 := by
    have := congrArg (·[0]?) e4
    simpa [cells23] using this
  have g5 := hel 5 _ rfl
  rw [List.getElem?_eq_getElem (show 5 < xs.length by rw [hxl]; decide)] at g5
  obtain ⟨z5, e5, _, w5⟩ := DataW.trod_int Tryd.underlying24 g5
  obtain rfl : a5 = .int .u16 z5 := by
    have := congrArg (·[0]?) e5
    simpa [cells24] using this
  have g6 := hel 6 _ rfl
  rw [List.getElem?_eq_getElem (show 6 < xs.length by rw [hxl]; decide)] at g6
  obtain ⟨z6, e6, _, w6⟩ := DataW.trod_int Tryd.underlying24 g6
  obtain rfl : a6 = .int .u16 z6 := by
    have := congrArg (·[0]?) e6
    simpa [cells24] using this
  have g7 := hel 7 _ rfl
  rw [List.getElem?_eq_getElem (show 7 < xs.length by rw [hxl]; decide)] at g7
  obtain ⟨z7, e7, _, w7⟩ := DataW.trod_int Tryd.underlying24 g7
  obtain rfl : a7 = .int .u16 z7 := by
    have := congrArg (·[0]?) e7
    simpa [cells24] using this
  have g8 := hel 8 _ rfl
  rw [List.getElem?_eq_getElem (show 8 < xs.length by rw [hxl]; decide)] at g8
  obtain ⟨z8, e8, _, w8⟩ := DataW.trod_int Tryd.underlying24 g8
  obtain rfl : a8 = .int .u16 z8 := by
    have := congrArg (·[0]?) e8
    simpa [cells24] using this
  have g9 := hel 9 _ rfl
  rw [List.getElem?_eq_getElem (show 9 < xs.length by rw [hxl]; decide)] at g9
  obtain ⟨z9, e9, _, w9⟩ := DataW.trod_int Tryd.underlying24 g9
  obtain rfl : a9 = .int .u16 z9 := by
    have := congrArg (·[0]?) e9
    simpa [cells24] using this
  refine ⟨z0, z1, z2, z3, z4, z5, z6, z7, z8, z9, rfl, ?_⟩
  have b1 := bounds_u8 w1
  have b2 := bounds_u64 w2
  have b3 := bounds_u64 w3
  have b4 := bounds_u32 w4
  have b5 := bounds_u16 w5
  have b6 := bounds_u16 w6
  have b7 := bounds_u16 w7
  have b8 := bounds_u16 w8
  have b9 := bounds_u16 w9
  clear g0 g1 g2 g3 g4 g5 g6 g7 g8 g9 e0 e1 e2 e3 e4 e5 e6 e7 e8 e9 w0 w1 w2 w3 w4 w5 w6 w7 w8 w9 h hel
  constructor <;> omega

/-- A frame. -/
theorem frame_open {fuel : Nat} {cs : List Value} {x : DataW H × List MemPlace} (h : DataW.trod enc Tryd.prog w base sp held fuel 33 cs = some x) :
    ∃ (e0 e1 e2 e3 e4 e5 s0 s1 s2 s3 s4 s5 kind typ l0 l1 l2 o0 o1 o2 : Int) (ta ba ra : Option Addr) (tn tc bn bc rn rc : Nat), bn ≤ bc ∧ bc ≤ maxLen ∧
      cs = [.int .u8 e0, .int .u8 e1, .int .u8 e2, .int .u8 e3, .int .u8 e4, .int .u8 e5, .int .u8 s0, .int .u8 s1, .int .u8 s2, .int .u8 s3, .int .u8 s4, .int .u8 s5, .slice ta tn tc, .int .i64 kind, .int .i64 typ, .int .u8 l0, .int .u8 l1, .int .u8 l2, .int .u8 o0, .int .u8 o1, .int .u8 o2, .slice ba bn bc, .slice ra rn rc] := by
  obtain ⟨xs, n, _, _, hl, hxl, hel⟩ := DataW.trod_struct Tryd.underlying33 h
  rw [cells33] at hl
  obtain ⟨a0, t0, rfl, hl0⟩ := len_succ hl
  obtain ⟨a1, t1, rfl, hl1⟩ := len_succ hl0
  obtain ⟨a2, t2, rfl, hl2⟩ := len_succ hl1
  obtain ⟨a3, t3, rfl, hl3⟩ := len_succ hl2
  obtain ⟨a4, t4, rfl, hl4⟩ := len_succ hl3
  obtain ⟨a5, t5, rfl, hl5⟩ := len_succ hl4
  obtain ⟨a6, t6, rfl, hl6⟩ := len_succ hl5
  obtain ⟨a7, t7, rfl, hl7⟩ := len_succ hl6
  obtain ⟨a8, t8, rfl, hl8⟩ := len_succ hl7
  obtain ⟨a9, t9, rfl, hl9⟩ := len_succ hl8
  obtain ⟨a10, t10, rfl, hl10⟩ := len_succ hl9
  obtain ⟨a11, t11, rfl, hl11⟩ := len_succ hl10
  obtain ⟨a12, t12, rfl, hl12⟩ := len_succ hl11
  obtain ⟨a13, t13, rfl, hl13⟩ := len_succ hl12
  obtain ⟨a14, t14, rfl, hl14⟩ := len_succ hl13
  obtain ⟨a15, t15, rfl, hl15⟩ := len_succ hl14
  obtain ⟨a16, t16, rfl, hl16⟩ := len_succ hl15
  obtain ⟨a17, t17, rfl, hl17⟩ := len_succ hl16
  obtain ⟨a18, t18, rfl, hl18⟩ := len_succ hl17
  obtain ⟨a19, t19, rfl, hl19⟩ := len_succ hl18
  obtain ⟨a20, t20, rfl, hl20⟩ := len_succ hl19
  obtain ⟨a21, t21, rfl, hl21⟩ := len_succ hl20
  obtain ⟨a22, t22, rfl, hl22⟩ := len_succ hl21
  obtain rfl := len_zero hl22
  have g0 : DataW.trod enc Tryd.prog w base sp held n 28 (([a0, a1, a2, a3, a4, a5, a6, a7, a8, a9, a10, a11, a12, a13, a14, a15, a16, a17, a18, a19, a20, a21, a22].drop 0).take (Tryd.prog.cellsOf 28)) = xs[0]? := hel 0 _ rfl
  rw [List.getElem?_eq_getElem (show 0 < xs.length by rw [hxl]; decide), cells28] at g0
  simp only [List.drop_zero, List.take_succ_cons, List.take_zero] at g0
  have g1 : DataW.trod enc Tryd.prog w base sp held n 28 (([a0, a1, a2, a3, a4, a5, a6, a7, a8, a9, a10, a11, a12, a13, a14, a15, a16, a17, a18, a19, a20, a21, a22].drop 6).take (Tryd.prog.cellsOf 28)) = xs[1]? := hel 1 _ rfl
  rw [List.getElem?_eq_getElem (show 1 < xs.length by rw [hxl]; decide), cells28] at g1
  simp only [List.drop_succ_cons, List.drop_zero, List.take_succ_cons, List.take_zero] at g1
  have g2 : DataW.trod enc Tryd.prog w base sp held n 29 (([a0, a1, a2, a3, a4, a5, a6, a7, a8, a9, a10, a11, a12, a13, a14, a15, a16, a17, a18, a19, a20, a21, a22].drop 12).take (Tryd.prog.cellsOf 29)) = xs[2]? := hel 2 _ rfl
  rw [List.getElem?_eq_getElem (show 2 < xs.length by rw [hxl]; decide), cells29] at g2
  simp only [List.drop_succ_cons, List.drop_zero, List.take_succ_cons, List.take_zero] at g2
  have g3 : DataW.trod enc Tryd.prog w base sp held n 3 (([a0, a1, a2, a3, a4, a5, a6, a7, a8, a9, a10, a11, a12, a13, a14, a15, a16, a17, a18, a19, a20, a21, a22].drop 13).take (Tryd.prog.cellsOf 3)) = xs[3]? := hel 3 _ rfl
  rw [List.getElem?_eq_getElem (show 3 < xs.length by rw [hxl]; decide), cells3] at g3
  simp only [List.drop_succ_cons, List.drop_zero, List.take_succ_cons, List.take_zero] at g3
  have g4 : DataW.trod enc Tryd.prog w base sp held n 3 (([a0, a1, a2, a3, a4, a5, a6, a7, a8, a9, a10, a11, a12, a13, a14, a15, a16, a17, a18, a19, a20, a21, a22].drop 14).take (Tryd.prog.cellsOf 3)) = xs[4]? := hel 4 _ rfl
  rw [List.getElem?_eq_getElem (show 4 < xs.length by rw [hxl]; decide), cells3] at g4
  simp only [List.drop_succ_cons, List.drop_zero, List.take_succ_cons, List.take_zero] at g4
  have g5 : DataW.trod enc Tryd.prog w base sp held n 30 (([a0, a1, a2, a3, a4, a5, a6, a7, a8, a9, a10, a11, a12, a13, a14, a15, a16, a17, a18, a19, a20, a21, a22].drop 15).take (Tryd.prog.cellsOf 30)) = xs[5]? := hel 5 _ rfl
  rw [List.getElem?_eq_getElem (show 5 < xs.length by rw [hxl]; decide), cells30] at g5
  simp only [List.drop_succ_cons, List.drop_zero, List.take_succ_cons, List.take_zero] at g5
  have g6 : DataW.trod enc Tryd.prog w base sp held n 30 (([a0, a1, a2, a3, a4, a5, a6, a7, a8, a9, a10, a11, a12, a13, a14, a15, a16, a17, a18, a19, a20, a21, a22].drop 18).take (Tryd.prog.cellsOf 30)) = xs[6]? := hel 6 _ rfl
  rw [List.getElem?_eq_getElem (show 6 < xs.length by rw [hxl]; decide), cells30] at g6
  simp only [List.drop_succ_cons, List.drop_zero, List.take_succ_cons, List.take_zero] at g6
  have g7 : DataW.trod enc Tryd.prog w base sp held n 31 (([a0, a1, a2, a3, a4, a5, a6, a7, a8, a9, a10, a11, a12, a13, a14, a15, a16, a17, a18, a19, a20, a21, a22].drop 21).take (Tryd.prog.cellsOf 31)) = xs[7]? := hel 7 _ rfl
  rw [List.getElem?_eq_getElem (show 7 < xs.length by rw [hxl]; decide), cells31] at g7
  simp only [List.drop_succ_cons, List.drop_zero, List.take_succ_cons, List.take_zero] at g7
  have g8 : DataW.trod enc Tryd.prog w base sp held n 31 (([a0, a1, a2, a3, a4, a5, a6, a7, a8, a9, a10, a11, a12, a13, a14, a15, a16, a17, a18, a19, a20, a21, a22].drop 22).take (Tryd.prog.cellsOf 31)) = xs[8]? := hel 8 _ rfl
  rw [List.getElem?_eq_getElem (show 8 < xs.length by rw [hxl]; decide), cells31] at g8
  simp only [List.drop_succ_cons, List.drop_zero, List.take_succ_cons, List.take_zero] at g8
  obtain ⟨zs0, hz0, _⟩ := arr_open Tryd.underlying28 g0 rfl
  have hn0 : zs0.length = 6 := by have := congrArg List.length hz0; simpa using this.symm
  obtain ⟨y0_0, u0_0, rfl, hn0_0⟩ := len_succ hn0
  obtain ⟨y0_1, u0_1, rfl, hn0_1⟩ := len_succ hn0_0
  obtain ⟨y0_2, u0_2, rfl, hn0_2⟩ := len_succ hn0_1
  obtain ⟨y0_3, u0_3, rfl, hn0_3⟩ := len_succ hn0_2
  obtain ⟨y0_4, u0_4, rfl, hn0_4⟩ := len_succ hn0_3
  obtain ⟨y0_5, u0_5, rfl, hn0_5⟩ := len_succ hn0_4
  obtain rfl := len_zero hn0_5
  simp only [List.map_cons, List.map_nil, List.cons.injEq, and_true] at hz0
  obtain ⟨rfl, rfl, rfl, rfl, rfl, rfl⟩ := hz0
  obtain ⟨zs1, hz1, _⟩ := arr_open Tryd.underlying28 g1 rfl
  have hn1 : zs1.length = 6 := by have := congrArg List.length hz1; simpa using this.symm
  obtain ⟨y1_0, u1_0, rfl, hn1_0⟩ := len_succ hn1
  obtain ⟨y1_1, u1_1, rfl, hn1_1⟩ := len_succ hn1_0
  obtain ⟨y1_2, u1_2, rfl, hn1_2⟩ := len_succ hn1_1
  obtain ⟨y1_3, u1_3, rfl, hn1_3⟩ := len_succ hn1_2
  obtain ⟨y1_4, u1_4, rfl, hn1_4⟩ := len_succ hn1_3
  obtain ⟨y1_5, u1_5, rfl, hn1_5⟩ := len_succ hn1_4
  obtain rfl := len_zero hn1_5
  simp only [List.map_cons, List.map_nil, List.cons.injEq, and_true] at hz1
  obtain ⟨rfl, rfl, rfl, rfl, rfl, rfl⟩ := hz1
  obtain ⟨sa2, sn2, sc2, e2, hle2, hmx2⟩ : ∃ a n c, [a12] = [Value.slice a n c] ∧ n ≤ c ∧ c ≤ maxLen := by
    rcases DataW.trod_slice Tryd.underlying29 g2 with ⟨e, _⟩ | ⟨a, len, cap, _, _, _, _, e, _, _, h1, h2, _⟩
    · exact ⟨_, _, _, e, Nat.le_refl _, Nat.zero_le _⟩
    · exact ⟨_, _, _, e, h1, h2⟩
  simp only [List.cons.injEq, and_true] at e2
  subst e2
  obtain ⟨z3, e3, _, _⟩ := DataW.trod_int Tryd.underlying3 g3
  simp only [List.cons.injEq, and_true] at e3
  subst e3
  obtain ⟨z4, e4, _, _⟩ := DataW.trod_int Tryd.underlying3 g4
  simp only [List.cons.injEq, and_true] at e4
  subst e4
  obtain ⟨zs5, hz5, _⟩ := arr_open Tryd.underlying30 g5 rfl
  have hn5 : zs5.length = 3 := by have := congrArg List.length hz5; simpa using this.symm
  obtain ⟨y5_0, u5_0, rfl, hn5_0⟩ := len_succ hn5
  obtain ⟨y5_1, u5_1, rfl, hn5_1⟩ := len_succ hn5_0
  obtain ⟨y5_2, u5_2, rfl, hn5_2⟩ := len_succ hn5_1
  obtain rfl := len_zero hn5_2
  simp only [List.map_cons, List.map_nil, List.cons.injEq, and_true] at hz5
  obtain ⟨rfl, rfl, rfl⟩ := hz5
  obtain ⟨zs6, hz6, _⟩ := arr_open Tryd.underlying30 g6 rfl
  have hn6 : zs6.length = 3 := by have := congrArg List.length hz6; simpa using this.symm
  obtain ⟨y6_0, u6_0, rfl, hn6_0⟩ := len_succ hn6
  obtain ⟨y6_1, u6_1, rfl, hn6_1⟩ := len_succ hn6_0
  obtain ⟨y6_2, u6_2, rfl, hn6_2⟩ := len_succ hn6_1
  obtain rfl := len_zero hn6_2
  simp only [List.map_cons, List.map_nil, List.cons.injEq, and_true] at hz6
  obtain ⟨rfl, rfl, rfl⟩ := hz6
  obtain ⟨sa7, sn7, sc7, e7, hle7, hmx7⟩ : ∃ a n c, [a21] = [Value.slice a n c] ∧ n ≤ c ∧ c ≤ maxLen := by
    rcases DataW.trod_slice Tryd.underlying31 g7 with ⟨e, _⟩ | ⟨a, len, cap, _, _, _, _, e, _, _, h1, h2, _⟩
    · exact ⟨_, _, _, e, Nat.le_refl _, Nat.zero_le _⟩
    · exact ⟨_, _, _, e, h1, h2⟩
  simp only [List.cons.injEq, and_true] at e7
  subst e7
  obtain ⟨sa8, sn8, sc8, e8, hle8, hmx8⟩ : ∃ a n c, [a22] = [Value.slice a n c] ∧ n ≤ c ∧ c ≤ maxLen := by
    rcases DataW.trod_slice Tryd.underlying31 g8 with ⟨e, _⟩ | ⟨a, len, cap, _, _, _, _, e, _, _, h1, h2, _⟩
    · exact ⟨_, _, _, e, Nat.le_refl _, Nat.zero_le _⟩
    · exact ⟨_, _, _, e, h1, h2⟩
  simp only [List.cons.injEq, and_true] at e8
  subst e8
  exact ⟨_, _, _, _, _, _, _, _, _, _, _, _, _, _, _, _, _, _, _, _, _, _, _, _, _, _, _, _, _, hle7, hmx7, rfl⟩
end

theorem gGroup : Tryd.prog.globalNamed "toll/bpdu.group" = some 0 := by kernel_rfl
theorem gSap : Tryd.prog.globalNamed "toll/bpdu.sap" = some 1 := by kernel_rfl
theorem tGroup : (Tryd.prog.globals[0]?).map (·.type) = some 28 := by kernel_rfl
theorem tSap : (Tryd.prog.globals[1]?).map (·.type) = some 30 := by kernel_rfl

theorem gl_of {W : World} {f0 f1 : Nat} {c0 c1 : Array Value} {p0 p1 : List MemPlace} {H : Type} {enc : TypeId × Value → H} {sp0 sp1 : Nat → Bool} {h0 h1 : Bool}
    (hv0 : W.var? Tryd.prog "toll/bpdu.group" = some c0) (hd0 : DataW.trod enc Tryd.prog W 0 sp0 h0 f0 28 c0.toList = some (Rows.laid_toll_bpdu_group, p0))
    (hv1 : W.var? Tryd.prog "toll/bpdu.sap" = some c1) (hd1 : DataW.trod enc Tryd.prog W 0 sp1 h1 f1 30 c1.toList = some (Rows.laid_toll_bpdu_sap, p1)) : Gl W := by
  have e0 := Lib.cells_of_tab (zs := [1, 128, 194, 0, 0, 0]) Tryd.underlying28 Tryd.underlying5 cells5 cells28 hd0
  have e1 := Lib.cells_of_tab (zs := [66, 66, 3]) Tryd.underlying30 Tryd.underlying5 cells5 cells30 hd1
  obtain ⟨c0⟩ := c0
  obtain ⟨c1⟩ := c1
  simp only at e0 e1
  subst e0 e1
  have k0 := World.var?_cell gGroup hv0
  have k1 := World.var?_cell gSap hv1
  exact ⟨by simpa using k0 0, by simpa using k0 1, by simpa using k0 2, by simpa using k0 3, by simpa using k0 4, by simpa using k0 5, by simpa using k1 0, by simpa using k1 1, by simpa using k1 2⟩
end Go.Proofs.YtcahlponmbnkcaaDoor
