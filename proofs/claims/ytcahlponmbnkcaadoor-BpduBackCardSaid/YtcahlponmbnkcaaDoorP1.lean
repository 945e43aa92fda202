/- Numbers and their bytes, the highest first: there and back. -/
import Derived.Test.YtcahlponmbnkcaaDoorB1
namespace Go.Proofs.YtcahlponmbnkcaaDoor
open Go

/-- The number that bytes are. -/
def beN (bs : List Int) : Int := bs.foldl (fun n c => n * 256 + c) 0

theorem beN_nil : beN [] = 0 := rfl
theorem beN_snoc (bs : List Int) (x : Int) : beN (bs ++ [x]) = beN bs * 256 + x := by simp [beN, List.foldl_append]

theorem snoc_of_len {m : Nat} {bs : List Int} (h : bs.length = m + 1) : ∃ a x, bs = a ++ [x] ∧ a.length = m := by
  have hne : bs ≠ [] := by intro e; rw [e] at h; simp at h
  refine ⟨bs.dropLast, bs.getLast hne, (List.dropLast_concat_getLast hne).symm, by rw [List.length_dropLast, h]; rfl⟩

theorem beN_bounds : ∀ (m : Nat) (bs : List Int), bs.length = m → (∀ z ∈ bs, 0 ≤ z ∧ z < 256) → 0 ≤ beN bs ∧ beN bs < 256 ^ m
  | 0, bs, h, _ => by
    have : bs = [] := List.eq_nil_of_length_eq_zero h
    subst this; exact ⟨Int.le_refl _, by decide⟩
  | m + 1, bs, h, hb => by
    obtain ⟨a, x, rfl, ha⟩ := snoc_of_len h
    have h1 := beN_bounds m a ha (fun z hz => hb z (by simp [hz]))
    have h2 := hb x (by simp)
    rw [beN_snoc, Int.pow_succ]
    omega

theorem beI_succ (n : Int) (m : Nat) : beI n (m + 1) = beI (n / 256) m ++ [n % 256] := by
  unfold beI
  rw [List.range_succ, List.map_append]
  congr 1
  · refine List.map_congr_left fun i hi => ?_
    have hi' : i < m := List.mem_range.1 hi
    have e : 8 * (m + 1 - 1 - i) = 8 + 8 * (m - 1 - i) := by omega
    rw [e, Int.pow_add, ← Int.ediv_ediv_of_nonneg (by decide)]
    rfl
  · simp

theorem beN_beI : ∀ (m : Nat) (n : Int), 0 ≤ n → n < 256 ^ m → beN (beI n m) = n
  | 0, n, h0, h1 => by
    have : n = 0 := by rw [Int.pow_zero] at h1; omega
    subst this; rfl
  | m + 1, n, h0, h1 => by
    rw [beI_succ, beN_snoc, beN_beI m (n / 256) (by omega) (by rw [Int.pow_succ] at h1; omega)]
    omega

theorem beI_beN : ∀ (m : Nat) (bs : List Int), bs.length = m → (∀ z ∈ bs, 0 ≤ z ∧ z < 256) → beI (beN bs) m = bs
  | 0, bs, h, _ => by
    have : bs = [] := List.eq_nil_of_length_eq_zero h
    subst this; rfl
  | m + 1, bs, h, hb => by
    obtain ⟨a, x, rfl, ha⟩ := snoc_of_len h
    have h2 := hb x (by simp)
    have ih := beI_beN m a ha (fun z hz => hb z (by simp [hz]))
    rw [beI_succ, beN_snoc, show (beN a * 256 + x) / 256 = beN a by omega, show (beN a * 256 + x) % 256 = x by omega, ih]

theorem beI_range (n : Int) (m : Nat) : ∀ z ∈ beI n m, 0 ≤ z ∧ z < 256 := by
  intro z hz
  unfold beI at hz
  obtain ⟨i, _, rfl⟩ := List.mem_map.1 hz
  omega
end Go.Proofs.YtcahlponmbnkcaaDoor
