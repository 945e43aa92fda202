/- BPDU: Compare. -/
import Derived.Test.YtcahlponmbnkcaaDoorA1
namespace Go.Proofs.YtcahlponmbnkcaaDoor
open Go Go.RowKit

def cnt (k x : Int) : Int := if k = 2 then 0 else x
def cmpM (k r c b p k' r' c' b' p' : Int) : Int := orL [cmpI (cnt k r) (cnt k' r'), cmpI (cnt k c) (cnt k' c'), cmpI (cnt k b) (cnt k' b'), cmpI (cnt k p) (cnt k' p')]

theorem or4_any (b : Nat) (x0 x1 x2 x3 : Int) (w : World) (hc : w.cell? ⟨b, 0, none⟩ = some (.int .i64 x0) ∧ w.cell? ⟨b, 1, none⟩ = some (.int .i64 x1) ∧ w.cell? ⟨b, 2, none⟩ = some (.int .i64 x2) ∧ w.cell? ⟨b, 3, none⟩ = some (.int .i64 x3)) :
    Calls Tryd.prog 24 #[.slice (some ⟨b, 0, none⟩) 4 4] w fun e w' => e = .returned (.int .i64 (orL [x0, x1, x2, x3])) ∧ w = w' :=
  or_any b [x0, x1, x2, x3] w (by simp) (fun j hj => by
    obtain ⟨h0, h1, h2, h3⟩ := hc
    match j, hj with
    | 0, _ => exact h0
    | 1, _ => exact h1
    | 2, _ => exact h2
    | 3, _ => exact h3
    | n + 4, h => exact absurd h (by simp)) 4

theorem bd {B : Nat} {a w : World} (h : Below B a w) {n : Nat} : Below B a (w.drewN n) := ⟨h.os, h.tape, h.output, h.size, h.block⟩

/-- The library's law on a still head and a forced tail, the world behind the draw under its name. -/
theorem still_tail_drew {P : Program} {id : Nat} {Q : Exit → Act → World → Prop} {a : Act} {w : World} {l : List Oper} (n : Nat) (hm : P.follows .mixedOrders = true) (hB : Region.lexTailB .any l.toArray n = true)
    (h : wpStill P l.toArray w.drew (fun a' => wpList P l.toArray Q (l.drop n) a' w.drew) (l.take n) a) : (Code.region id l.toArray true).wp P Q a w :=
  wp_region_still_tail n hm hB h

set_option maxRecDepth 100000 in
set_option maxHeartbeats 1000000 in
theorem compare_nn (k f r b c p a x h d k' f' r' b' c' p' a' x' h' d' : Int) (w : World) (hk : (k == 2) = false) (hk' : (k' == 2) = false) :
    Calls Tryd.prog 9 #[msgV k f r b c p a x h d, msgV k' f' r' b' c' p' a' x' h' d'] w fun e w' => e = .returned (.int .i64 (orL [cmpI r r', cmpI c c', cmpI b b', cmpI p p'])) ∧ Below w.heap.size w w' := by
  go_enter Tryd.func9, Tryd.ntmps9
  go_wp2_with fail
  refine still_tail_drew 20 (by kernel_rfl) (by kernel_rfl) ?_
  simp only [List.take_succ_cons, List.take_zero, List.drop_succ_cons, List.drop_zero]
  iterate 4 still_step
  still_call (cmp64_any _ _ _)
  iterate 4 still_step
  still_call (cmp32_any _ _ _)
  iterate 4 still_step
  still_call (cmp64_any _ _ _)
  iterate 4 still_step
  still_call (cmp16_any _ _ _)
  refine wpStill_nil ?_
  go_wp2_with (go_at_call 24; refine (or4_any _ (cmpI r r') (cmpI c c') (cmpI b b') (cmpI p p') _ (by simp [go_sem])).mono ?_; rintro e w1 ⟨rfl, rfl⟩)
  go_ret
  exact ⟨rfl, ((((Below.refl _ _).alloc (Nat.le_refl _) _).alloc (by simp) _).drew).alloc (by simp; omega) _⟩

set_option maxRecDepth 100000 in
set_option maxHeartbeats 1000000 in
theorem compare_nc (k f r b c p a x h d k' f' r' b' c' p' a' x' h' d' : Int) (w : World) (hk : (k == 2) = false) (hk' : (k' == 2) = true) :
    Calls Tryd.prog 9 #[msgV k f r b c p a x h d, msgV k' f' r' b' c' p' a' x' h' d'] w fun e w' => e = .returned (.int .i64 (orL [cmpI r 0, cmpI c 0, cmpI b 0, cmpI p 0])) ∧ Below w.heap.size w w' := by
  go_enter Tryd.func9, Tryd.ntmps9
  go_wp2_with fail
  refine still_tail_drew 20 (by kernel_rfl) (by kernel_rfl) ?_
  simp only [List.take_succ_cons, List.take_zero, List.drop_succ_cons, List.drop_zero]
  iterate 4 still_step
  still_call (cmp64_any _ _ _)
  iterate 4 still_step
  still_call (cmp32_any _ _ _)
  iterate 4 still_step
  still_call (cmp64_any _ _ _)
  iterate 4 still_step
  still_call (cmp16_any _ _ _)
  refine wpStill_nil ?_
  go_wp2_with (go_at_call 24; refine (or4_any _ (cmpI r 0) (cmpI c 0) (cmpI b 0) (cmpI p 0) _ (by simp [go_sem])).mono ?_; rintro e w1 ⟨rfl, rfl⟩)
  go_ret
  exact ⟨rfl, ((((Below.refl _ _).alloc (Nat.le_refl _) _).alloc (by simp) _).drew).alloc (by simp; omega) _⟩

set_option maxRecDepth 100000 in
set_option maxHeartbeats 1000000 in
theorem compare_cn (k f r b c p a x h d k' f' r' b' c' p' a' x' h' d' : Int) (w : World) (hk : (k == 2) = true) (hk' : (k' == 2) = false) :
    Calls Tryd.prog 9 #[msgV k f r b c p a x h d, msgV k' f' r' b' c' p' a' x' h' d'] w fun e w' => e = .returned (.int .i64 (orL [cmpI 0 r', cmpI 0 c', cmpI 0 b', cmpI 0 p'])) ∧ Below w.heap.size w w' := by
  go_enter Tryd.func9, Tryd.ntmps9
  go_wp2_with fail
  refine still_tail_drew 20 (by kernel_rfl) (by kernel_rfl) ?_
  simp only [List.take_succ_cons, List.take_zero, List.drop_succ_cons, List.drop_zero]
  iterate 4 still_step
  still_call (cmp64_any _ _ _)
  iterate 4 still_step
  still_call (cmp32_any _ _ _)
  iterate 4 still_step
  still_call (cmp64_any _ _ _)
  iterate 4 still_step
  still_call (cmp16_any _ _ _)
  refine wpStill_nil ?_
  go_wp2_with (go_at_call 24; refine (or4_any _ (cmpI 0 r') (cmpI 0 c') (cmpI 0 b') (cmpI 0 p') _ (by simp [go_sem])).mono ?_; rintro e w1 ⟨rfl, rfl⟩)
  go_ret
  exact ⟨rfl, ((((Below.refl _ _).alloc (Nat.le_refl _) _).alloc (by simp) _).drew).alloc (by simp; omega) _⟩

set_option maxRecDepth 100000 in
set_option maxHeartbeats 1000000 in
theorem compare_cc (k f r b c p a x h d k' f' r' b' c' p' a' x' h' d' : Int) (w : World) (hk : (k == 2) = true) (hk' : (k' == 2) = true) :
    Calls Tryd.prog 9 #[msgV k f r b c p a x h d, msgV k' f' r' b' c' p' a' x' h' d'] w fun e w' => e = .returned (.int .i64 (orL [cmpI 0 0, cmpI 0 0, cmpI 0 0, cmpI 0 0])) ∧ Below w.heap.size w w' := by
  go_enter Tryd.func9, Tryd.ntmps9
  go_wp2_with fail
  refine still_tail_drew 20 (by kernel_rfl) (by kernel_rfl) ?_
  simp only [List.take_succ_cons, List.take_zero, List.drop_succ_cons, List.drop_zero]
  iterate 4 still_step
  still_call (cmp64_any _ _ _)
  iterate 4 still_step
  still_call (cmp32_any _ _ _)
  iterate 4 still_step
  still_call (cmp64_any _ _ _)
  iterate 4 still_step
  still_call (cmp16_any _ _ _)
  refine wpStill_nil ?_
  go_wp2_with (go_at_call 24; refine (or4_any _ (cmpI 0 0) (cmpI 0 0) (cmpI 0 0) (cmpI 0 0) _ (by simp [go_sem])).mono ?_; rintro e w1 ⟨rfl, rfl⟩)
  go_ret
  exact ⟨rfl, ((((Below.refl _ _).alloc (Nat.le_refl _) _).alloc (by simp) _).drew).alloc (by simp; omega) _⟩

theorem compare_any (k f r b c p a x h d k' f' r' b' c' p' a' x' h' d' : Int) (w : World) :
    Calls Tryd.prog 9 #[msgV k f r b c p a x h d, msgV k' f' r' b' c' p' a' x' h' d'] w fun e w' => e = .returned (.int .i64 (cmpM k r c b p k' r' c' b' p')) ∧ Below w.heap.size w w' := by
  by_cases hk : k = 2 <;> by_cases hk' : k' = 2
  · have e : cmpM k r c b p k' r' c' b' p' = orL [cmpI 0 0, cmpI 0 0, cmpI 0 0, cmpI 0 0] := by simp [cmpM, cnt, hk, hk']
    rw [e]; exact compare_cc _ _ _ _ _ _ _ _ _ _ _ _ _ _ _ _ _ _ _ _ w (by simpa using hk) (by simpa using hk')
  · have e : cmpM k r c b p k' r' c' b' p' = orL [cmpI 0 r', cmpI 0 c', cmpI 0 b', cmpI 0 p'] := by simp [cmpM, cnt, hk, hk']
    rw [e]; exact compare_cn _ _ _ _ _ _ _ _ _ _ _ _ _ _ _ _ _ _ _ _ w (by simpa using hk) (by simpa using hk')
  · have e : cmpM k r c b p k' r' c' b' p' = orL [cmpI r 0, cmpI c 0, cmpI b 0, cmpI p 0] := by simp [cmpM, cnt, hk, hk']
    rw [e]; exact compare_nc _ _ _ _ _ _ _ _ _ _ _ _ _ _ _ _ _ _ _ _ w (by simpa using hk) (by simpa using hk')
  · have e : cmpM k r c b p k' r' c' b' p' = orL [cmpI r r', cmpI c c', cmpI b b', cmpI p p'] := by simp [cmpM, cnt, hk, hk']
    rw [e]; exact compare_nn _ _ _ _ _ _ _ _ _ _ _ _ _ _ _ _ _ _ _ _ w (by simpa using hk) (by simpa using hk')
end Go.Proofs.YtcahlponmbnkcaaDoor
