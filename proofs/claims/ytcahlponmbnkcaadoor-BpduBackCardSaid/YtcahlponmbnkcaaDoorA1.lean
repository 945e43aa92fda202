/- BPDU, the small functions: contracts of sign, size, may and the comparisons. -/
import Derived.Test.YtcahlponmbnkcaaDoorRows
import Derived.WalkKit
import Derived.WalkSpells
import Derived.WalkLawsBesides
import Derived.Deep.QuietTactic
import Derived.BigQuiet
import Derived.Lib.Hide
import Derived.StillTailTactics
namespace Go.Proofs.YtcahlponmbnkcaaDoor
open Go.RowKit

theorem ret_int {k : IntKind} {a b : Int} (h : a = b) : Ending.returned (.int k a) = .returned (.int k b) := by rw [h]
theorem ret_bool {a b : Bool} (h : a = b) : Ending.returned (.bool a) = .returned (.bool b) := by rw [h]

/-- May a message be? -/
def mayB (k f r b c p a x h d : Int) : Bool := if k = 2 then decide (f = 0 ∧ r = 0 ∧ b = 0 ∧ c = 0 ∧ p = 0 ∧ a = 0 ∧ x = 0 ∧ h = 0 ∧ d = 0) else decide ((k = 1 ∨ k = 3) ∧ a < x)

/-- A message as a value. -/
abbrev msgV (k f r b c p a x h d : Int) : Value := .agg #[.int .i64 k, .int .u8 f, .int .u64 r, .int .u64 b, .int .u32 c, .int .u16 p, .int .u16 a, .int .u16 x, .int .u16 h, .int .u16 d]

set_option maxHeartbeats 1000000 in
theorem may_any (k f r b c p a x h d : Int) (w : World) :
    Calls Tryd.prog 20 #[msgV k f r b c p a x h d] w fun e w' => e = .returned (.bool (mayB k f r b c p a x h d)) ∧ Below w.heap.size w w' := by
  go_enter Tryd.func20, Tryd.ntmps20
  go_wp2_with fail
  all_goals (go_ret; refine ⟨ret_bool ?_, (Below.refl _ _).alloc (Nat.le_refl _) _⟩)
  all_goals (simp_all [mayB])

set_option maxHeartbeats 400000 in
theorem sign_any (n : Int) (w : World) :
    Calls Tryd.prog 8 #[.int .i64 n] w fun e w' => e = .returned (.int .i64 (max (-1) (min n 1))) ∧ w = w' := by
  go_enter Tryd.func8, Tryd.ntmps8
  go_wp2_with fail
  all_goals (go_ret; refine ⟨ret_int ?_, rfl⟩; omega)

set_option maxHeartbeats 400000 in
theorem size_any (n : Int) (w : World) :
    Calls Tryd.prog 37 #[.int .i64 n] w fun e w' => e = .returned (.int .i64 (if n = 2 then 4 else if n = 3 then 36 else 35)) ∧ w = w' := by
  go_enter Tryd.func37, Tryd.ntmps37
  go_wp2_with fail
  all_goals (go_ret; refine ⟨ret_int ?_, rfl⟩; simp_all)

def cmpI (x y : Int) : Int := if x < y then -1 else if y < x then 1 else 0

set_option maxHeartbeats 400000 in
theorem cmp64_any (x y : Int) (w : World) :
    Calls Tryd.prog 25 #[.int .u64 x, .int .u64 y] w fun e w' => e = .returned (.int .i64 (cmpI x y)) ∧ w' = w := by
  go_enter Tryd.func25, Tryd.ntmps25
  go_wp2
  all_goals (go_ret; refine ⟨ret_int ?_, rfl⟩; simp_all [cmpI] <;> omega)
set_option maxHeartbeats 400000 in
theorem cmp32_any (x y : Int) (w : World) :
    Calls Tryd.prog 26 #[.int .u32 x, .int .u32 y] w fun e w' => e = .returned (.int .i64 (cmpI x y)) ∧ w' = w := by
  go_enter Tryd.func26, Tryd.ntmps26
  go_wp2
  all_goals (go_ret; refine ⟨ret_int ?_, rfl⟩; simp_all [cmpI] <;> omega)
set_option maxHeartbeats 400000 in
theorem cmp16_any (x y : Int) (w : World) :
    Calls Tryd.prog 27 #[.int .u16 x, .int .u16 y] w fun e w' => e = .returned (.int .i64 (cmpI x y)) ∧ w' = w := by
  go_enter Tryd.func27, Tryd.ntmps27
  go_wp2
  all_goals (go_ret; refine ⟨ret_int ?_, rfl⟩; simp_all [cmpI] <;> omega)

def orL : List Int → Int
  | [] => 0
  | x :: l => if x = 0 then orL l else x

theorem orL_step (x : Int) (l : List Int) (h : x = 0) : orL (x :: l) = orL l := by simp [orL, h]
theorem orL_stop (x : Int) (l : List Int) (h : ¬ x = 0) : orL (x :: l) = x := by simp [orL, h]

set_option maxHeartbeats 1000000 in
theorem or_any (b : Nat) (xs : List Int) (w : World) (hl : xs.length ≤ 100) (hc : ∀ j, j < xs.length → w.cell? ⟨b, 0 + j, none⟩ = some (.int .i64 (xs.getD j 0))) (cap : Nat) :
    Calls Tryd.prog 24 #[.slice (some ⟨b, 0, none⟩) xs.length cap] w fun e w' => e = .returned (.int .i64 (orL xs)) ∧ w = w' := by
  obtain ⟨n, hn⟩ : ∃ n, n = xs.length := ⟨_, rfl⟩
  rw [← hn]
  have HN := Lib.hid hn
  have hn2 : n ≤ 100 := by omega
  have HC := Lib.hid hc
  clear hn hl hc
  go_enter Tryd.func24, Tryd.ntmps24
  go_wp2
  go_loop [8] (fun i => ∃ k : Nat, k ≤ n ∧ i = .int .i64 k ∧ orL (xs.drop k) = orL xs) (fun i => n - (intOf i).toNat)
  case atStart => exact ⟨0, Nat.zero_le _, rfl, rfl⟩
  case round =>
    obtain ⟨k, hk, rfl, hr⟩ := hrel
    have HR := Lib.hid hr
    clear hr
    by_cases hlt : k < n
    · have hx := HC.out k (by have := HN.out; omega)
      obtain ⟨x, hxx⟩ : ∃ x, x = xs.getD k 0 := ⟨_, rfl⟩
      rw [← hxx] at hx
      have HX := Lib.hid hxx
      clear hxx
      simp only [Nat.zero_add] at hx
      have hd : xs.drop k = x :: xs.drop (k + 1) := by
        rw [List.drop_eq_getElem_cons (by have := HN.out; omega), HX.out, List.getD, List.getElem?_eq_getElem (by have := HN.out; omega)]
        rfl
      have HD := Lib.hid hd
      clear hd
      by_cases h0 : x = 0
      · have h0' : (x != 0) = false := by simp [h0]
        have H0 := Lib.hid h0
        clear h0
        go_wp2
        go_round
        case rel => exact ⟨k + 1, by omega, by go_num, by rw [← HR.out, HD.out, orL_step _ _ H0.out]⟩
        case measure => simp [intOf]; omega
      · have h0' : (x != 0) = true := by simp [h0]
        have H0 := Lib.hid h0
        clear h0
        go_wp2
        go_ret
        exact ⟨ret_int (by rw [← HR.out, HD.out, orL_stop _ _ H0.out]), rfl⟩
    · go_wp2
      go_ret
      exact ⟨ret_int (by rw [← HR.out, List.drop_of_length_le (by have := HN.out; omega)]; rfl), rfl⟩

end Go.Proofs.YtcahlponmbnkcaaDoor
