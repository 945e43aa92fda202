/- BPDU: the statement BpduTells: the walk. -/
import Derived.Test.YtcahlponmbnkcaaDoorE1
import Derived.Test.YtcahlponmbnkcaaDoorA3
import Derived.Lib.QuietBelow
namespace Go.Proofs.YtcahlponmbnkcaaDoor
open Go Go.RowKit Go.Sort

/-- A whole variable, loaded in a region whose order is open: it lies in a block that no world of the class has turned. -/
theorem quiet_load_row {P : Program} {C : World → Prop} {o : Oper} {a : Act} {K : Act → Prop} (ty : TypeId) (x : Operand) (ho : o.op = .load ty x) (g : Nat) (hx : a.eval x = .pointer (some ⟨g, 0, none⟩))
    (t : TypeId) (cs : Array Value) (fr : Nat × Nat) (d : TypeDesc) (hg : ∀ w, C w → w.heap[g]? = some (.cells cs t fr)) (hu : P.underlying ty = some d) (hd : (match d with | .struct _ | .array _ _ => true | _ => false) = true)
    (hi : (P.info? ty).map (·.size) = some cs.size) (hk : K (a.put o.dst (.agg cs))) : o.quiet P a C K := by
  refine ⟨.agg cs, fun w hw => ?_, hk⟩
  unfold Oper.quietAt execOp
  simp only [ho, hx, Instr.loadAt, Instr.sureAddr, Sem.run_bind, Sem.run_pure, Result.andThen_ok, run_loadVar_row w g t ty cs fr d (hg w hw) hu hd hi]
  exact ⟨rfl, rfl⟩

theorem Calls.regrown_same {P : Program} {f : FuncId} {args : Array Value} {w : World} {d : Nat} {os : Array Obj} {v : Value}
    (h : Calls P f args (grow (redrawn w d) os) fun e w' => e = .returned v ∧ w' = grow (redrawn w d) os) : Calls P f args (grow (redrawn w d) os) fun e w'' => e = .returned v ∧ ∃ p : Regrown, w'' = grow (redrawn w p.d) p.os :=
  h.mono fun _ _ ⟨he, hb⟩ => ⟨he, ⟨d, os⟩, hb⟩

def putR (k f r b c p a x h d : Int) : List Int := if mayB k f r b c p a x h d = true then putL k f r b c p a x h d else []
def putE (k f r b c p a x h d : Int) : Int := if mayB k f r b c p a x h d = true then 0 else 1

/-- Numbers of a message's kinds. -/
structure Fits (f r b c p a x h d : Int) : Prop where
  f0 : 0 ≤ f
  f1 : f < 256
  r0 : 0 ≤ r
  r1 : r < 18446744073709551616
  b0 : 0 ≤ b
  b1 : b < 18446744073709551616
  c0 : 0 ≤ c
  c1 : c < 4294967296
  p0 : 0 ≤ p
  p1 : p < 65536
  a0 : 0 ≤ a
  a1 : a < 65536
  x0 : 0 ≤ x
  x1 : x < 65536
  h0 : 0 ≤ h
  h1 : h < 65536
  d0 : 0 ≤ d
  d1 : d < 65536

theorem wrap_small {n : Int} (h0 : 0 ≤ n) (h1 : n < 4294967296) : IntKind.u64.wrap n = n := by
  simp [IntKind.wrap, IntKind.bits, IntKind.signed]; omega

theorem mayB_kind {k f r b c p a x h d : Int} (h : mayB k f r b c p a x h d = true) : k = 1 ∨ k = 2 ∨ k = 3 := by
  unfold mayB at h
  split at h
  · exact .inr (.inl (by assumption))
  · have := of_decide_eq_true h
    rcases this.1 with h | h
    · exact .inl h
    · exact .inr (.inr h)

theorem put_any (k f r b c p a x h d : Int) (F : Fits f r b c p a x h d) (w : World) :
    Calls Tryd.prog 6 #[msgV k f r b c p a x h d] w fun e w' => ∃ v, e = .returned (.tuple #[v, .int .i64 (putE k f r b c p a x h d)]) ∧ Bytes w.heap.size w' v (putR k f r b c p a x h d) ∧ Below w.heap.size w w' := by
  cases hm : mayB k f r b c p a x h d with
  | false =>
    rw [show putE k f r b c p a x h d = 1 from by simp [putE, hm], show putR k f r b c p a x h d = [] from by simp [putR, hm]]
    exact (put_no k f r b c p a x h d w hm).mono fun e w' ⟨he, hb⟩ => ⟨_, he, World.ownsRow_nil _ _ _ _, hb⟩
  | true =>
    rw [show putE k f r b c p a x h d = 0 from by simp [putE, hm], show putR k f r b c p a x h d = putL k f r b c p a x h d from by simp [putR, hm]]
    obtain ⟨f0, f1, r0, r1, b0, b1, c0, c1, p0, p1, a0, a1, x0, x1, h0, h1, d0, d1⟩ := F
    rcases mayB_kind hm with rfl | rfl | rfl
    · exact put_1 f r b c p a x h d w f0 r0 b0 c0 p0 a0 x0 h0 d0 (wrap_small f0 (by omega)) (wrap_small c0 c1) (wrap_small p0 (by omega)) (wrap_small a0 (by omega)) (wrap_small x0 (by omega)) (wrap_small h0 (by omega)) (wrap_small d0 (by omega)) hm
    · exact put_2 f r b c p a x h d w hm
    · exact put_3 f r b c p a x h d w f0 r0 b0 c0 p0 a0 x0 h0 d0 (wrap_small f0 (by omega)) (wrap_small c0 c1) (wrap_small p0 (by omega)) (wrap_small a0 (by omega)) (wrap_small x0 (by omega)) (wrap_small h0 (by omega)) (wrap_small d0 (by omega)) hm

theorem refPut_any (k f r b c p a x h d : Int) (F : Fits f r b c p a x h d) (w : World) :
    Calls Tryd.prog 7 #[msgV k f r b c p a x h d] w fun e w' => ∃ v, e = .returned (.tuple #[v, .int .i64 (putE k f r b c p a x h d)]) ∧ Bytes w.heap.size w' v (putR k f r b c p a x h d) ∧ Below w.heap.size w w' := by
  cases hm : mayB k f r b c p a x h d with
  | false =>
    rw [show putE k f r b c p a x h d = 1 from by simp [putE, hm], show putR k f r b c p a x h d = [] from by simp [putR, hm]]
    exact (refPut_no k f r b c p a x h d w hm).mono fun e w' ⟨he, hb⟩ => ⟨_, he, World.ownsRow_nil _ _ _ _, hb⟩
  | true =>
    rw [show putE k f r b c p a x h d = 0 from by simp [putE, hm], show putR k f r b c p a x h d = putL k f r b c p a x h d from by simp [putR, hm]]
    obtain ⟨f0, f1, r0, r1, b0, b1, c0, c1, p0, p1, a0, a1, x0, x1, h0, h1, d0, d1⟩ := F
    rcases mayB_kind hm with rfl | rfl | rfl
    · exact refPut_1 f r b c p a x h d w f0 f1 r0 b0 c0 p0 a0 x0 h0 d0 r1 b1 (Int.lt_trans c1 (by decide)) (Int.lt_trans p1 (by decide)) (Int.lt_trans a1 (by decide)) (Int.lt_trans x1 (by decide)) (Int.lt_trans h1 (by decide)) (Int.lt_trans d1 (by decide)) (wrap_small c0 c1) (wrap_small p0 (by omega)) (wrap_small a0 (by omega)) (wrap_small x0 (by omega)) (wrap_small h0 (by omega)) (wrap_small d0 (by omega)) hm
    · exact refPut_2 f r b c p a x h d w hm
    · exact refPut_3 f r b c p a x h d w f0 f1 r0 b0 c0 p0 a0 x0 h0 d0 r1 b1 (Int.lt_trans c1 (by decide)) (Int.lt_trans p1 (by decide)) (Int.lt_trans a1 (by decide)) (Int.lt_trans x1 (by decide)) (Int.lt_trans h1 (by decide)) (Int.lt_trans d1 (by decide)) (wrap_small c0 c1) (wrap_small p0 (by omega)) (wrap_small a0 (by omega)) (wrap_small x0 (by omega)) (wrap_small h0 (by omega)) (wrap_small d0 (by omega)) hm

theorem orL_range (l : List Int) (h : ∀ x ∈ l, -1 ≤ x ∧ x ≤ 1) : -1 ≤ orL l ∧ orL l ≤ 1 := by
  induction l with
  | nil => simp [orL]
  | cons x l ih =>
    unfold orL
    split
    · exact ih (fun y hy => h y (by simp [hy]))
    · exact h x (by simp)
theorem cmpI_range (x y : Int) : -1 ≤ cmpI x y ∧ cmpI x y ≤ 1 := by unfold cmpI; repeat' split <;> omega
theorem sign_cmp (k r c b p k' r' c' b' p' : Int) : max (-1) (min (cmpM k r c b p k' r' c' b' p') 1) = cmpM k r c b p k' r' c' b' p' := by
  have := orL_range [cmpI (cnt k r) (cnt k' r'), cmpI (cnt k c) (cnt k' c'), cmpI (cnt k b) (cnt k' b'), cmpI (cnt k p) (cnt k' p')] (by
    intro x hx
    simp only [List.mem_cons, List.not_mem_nil, or_false] at hx
    rcases hx with rfl | rfl | rfl | rfl <;> exact cmpI_range _ _)
  unfold cmpM
  omega
theorem sign_cmp_any (k r c b p k' r' c' b' p' : Int) (w : World) :
    Calls Tryd.prog 8 #[.int .i64 (cmpM k r c b p k' r' c' b' p')] w fun e w' => e = .returned (.int .i64 (cmpM k r c b p k' r' c' b' p')) ∧ w' = w :=
  (sign_any _ w).mono fun _ _ ⟨he, hw⟩ => ⟨by rw [he, sign_cmp], hw.symm⟩
end Go.Proofs.YtcahlponmbnkcaaDoor
