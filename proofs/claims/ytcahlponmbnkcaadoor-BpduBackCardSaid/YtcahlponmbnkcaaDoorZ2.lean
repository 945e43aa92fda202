/- BPDU: the table of heads is asked; a captured slice that is eaten. -/
import Derived.Test.YtcahlponmbnkcaaDoorZ1
namespace Go.Proofs.YtcahlponmbnkcaaDoor
open Go Go.RowKit

def kind4 (a b c d : Int) : Int := if [a, b, c, d] = [0, 0, 0, 0] then 1 else if [a, b, c, d] = [0, 0, 0, 128] then 2 else if [a, b, c, d] = [0, 0, 2, 2] then 3 else 0

theorem und65 : Tryd.prog.underlying 65 = some (.array 4 5) := by kernel_rfl

theorem eqKey (a b c d x y z u : Int) (W : World) : (Op.equalIn 10000 65 (key4 a b c d) (key4 x y z u)).run Tryd.prog W = .ok (decide ([a, b, c, d] = [x, y, z, u])) W :=
  eqArr 65 4 und65 _ _ [a, b, c, d] [x, y, z, u] rfl rfl rfl rfl W

theorem ask_nil (k : Value) (i : Nat) (W : World) : (Instr.findAsking 65 k [] i).run Tryd.prog W = .ok none W := rfl

theorem ask_cons (a b c d x y z u : Int) (v : Value) (n : Nat) (es : List MapEntry) (i : Nat) (W : World) :
    (Instr.findAsking 65 (key4 a b c d) (⟨key4 x y z u, v, n⟩ :: es) i).run Tryd.prog W = if [a, b, c, d] = [x, y, z, u] then .ok (some (i, v)) W else (Instr.findAsking 65 (key4 a b c d) es (i + 1)).run Tryd.prog W := by
  have h : (Op.equalIn Op.maxDepth 65 (key4 a b c d) (key4 x y z u)).run Tryd.prog W = .ok (decide ([a, b, c, d] = [x, y, z, u])) W := eqKey a b c d x y z u W
  conv => lhs; unfold Instr.findAsking
  simp only [Op.equal, Sem.run_bind, h, Result.andThen]
  by_cases e : [a, b, c, d] = [x, y, z, u]
  · rw [if_pos (decide_eq_true e), if_pos e, Sem.run_pure]
  · rw [decide_eq_false e, if_neg Bool.false_ne_true, if_neg e]

theorem find_ask (a b c d x y z u : Int) (v : Value) (n : Nat) (es : List MapEntry) (W : World) :
    (Instr.findKey 65 (key4 a b c d) (⟨key4 x y z u, v, n⟩ :: es)).run Tryd.prog W = (Instr.findAsking 65 (key4 a b c d) (⟨key4 x y z u, v, n⟩ :: es) 0).run Tryd.prog W := by
  have hu := run_underlying und65 (w := W)
  simp [Instr.findKey, Sem.run_bind, hu, Result.andThen, Instr.findNow, Instr.sameNow]

theorem find_heads {es : Array MapEntry} (h : es ∈ headsEs) (a b c d : Int) (W : World) :
    ∃ i, (Instr.findKey 65 (key4 a b c d) es.toList).run Tryd.prog W = .ok (if kind4 a b c d = 0 then none else some (i, .int .i64 (kind4 a b c d))) W := by
  have hc : ([a, b, c, d] = [0, 0, 0, 0] ∨ [a, b, c, d] = [0, 0, 0, 128] ∨ [a, b, c, d] = [0, 0, 2, 2]) ∨ (¬ [a, b, c, d] = [0, 0, 0, 0] ∧ ¬ [a, b, c, d] = [0, 0, 0, 128] ∧ ¬ [a, b, c, d] = [0, 0, 2, 2]) := by
    by_cases h1 : [a, b, c, d] = [0, 0, 0, 0]
    · exact .inl (.inl h1)
    · by_cases h2 : [a, b, c, d] = [0, 0, 0, 128]
      · exact .inl (.inr (.inl h2))
      · by_cases h3 : [a, b, c, d] = [0, 0, 2, 2]
        · exact .inl (.inr (.inr h3))
        · exact .inr ⟨h1, h2, h3⟩
  simp only [headsEs, List.mem_cons, List.not_mem_nil, or_false] at h
  rcases hc with hc | ⟨h1, h2, h3⟩
  · rcases hc with e | e | e <;> (simp only [List.cons.injEq, and_true] at e; obtain ⟨rfl, rfl, rfl, rfl⟩ := e) <;> rcases h with rfl | rfl | rfl | rfl | rfl | rfl <;>
      (simp only [find_ask, ask_cons]; simp [kind4])
  · refine ⟨0, ?_⟩
    have hk : kind4 a b c d = 0 := by unfold kind4; rw [if_neg h1, if_neg h2, if_neg h3]
    rw [if_pos hk]
    rcases h with rfl | rfl | rfl | rfl | rfl | rfl <;> (simp only [find_ask, ask_cons, ask_nil, if_neg h1, if_neg h2, if_neg h3])

theorem look_heads {es : Array MapEntry} (h : es ∈ headsEs) (a b c d : Int) (r : Nat) (W : World) (hr : W.heap[r]? = some (.map es 3)) :
    (Instr.lookup 63 (.map (some r)) (key4 a b c d) true).run Tryd.prog W = .ok (.tuple #[.int .i64 (kind4 a b c d), .bool (!decide (kind4 a b c d = 0))]) W := by
  obtain ⟨i, hf⟩ := find_heads h a b c d W
  have hu := run_underlying Tryd.underlying63 (w := W)
  have he : es.isEmpty = false := by
    simp only [headsEs, List.mem_cons, List.not_mem_nil, or_false] at h
    rcases h with rfl | rfl | rfl | rfl | rfl | rfl <;> rfl
  have hck : (Instr.checkKey false 10000 65 (key4 a b c d)).run Tryd.prog W = .ok () W := by kernel_rfl
  have hz : (zeroValue 3).run Tryd.prog W = .ok (.int .i64 0) W := by kernel_rfl
  simp only [Instr.lookup, Sem.run_bind, hu, Result.andThen, MapKept.run_getObj_map hr, he, hck, hf, Sem.run_pure]
  by_cases hk : kind4 a b c d = 0
  · simp [hk, hz, Result.andThen]
  · simp [hk]

theorem wp_lookup {P : Program} {o : Oper} {act : Act} {w : World} {K : Act → World → Prop} {Q : Exit → Act → World → Prop} (t : TypeId) (m x : Operand) (ho : o.op = .lookup t m x true) (mv xv v : Value)
    (hm : act.eval m = mv) (hx : act.eval x = xv) (hrun : (Instr.lookup t mv xv true).run P w = .ok v w) (h : K (act.put o.dst v) w) : o.wp P act w K Q := by
  subst hm hx
  unfold Oper.wp
  simp only [execOp, ho, Sem.run_bind, hrun, Result.andThen, Sem.run_pure, Oper.upon]
  exact h

/-- A captured variable (block q) that holds these bytes but for the first o. -/
def Nx (w : World) (q b off cap : Nat) (bs : List Int) (o : Nat) : Prop :=
  w.heap[q]? = some (.cells #[.slice (some ⟨b, off + o, none⟩) (bs.length - o) (cap - o)] 31 (0, 0)) ∧ Rd w (.slice (some ⟨b, off, none⟩) bs.length cap) bs ∧ b < q

theorem next_nx (many q b off cap o : Nat) (bs : List Int) (w : World) (h : Nx w q b off cap bs o) (hm0 : ¬ many = 0) (hm : many ≤ 8) (hmn : o + many < bs.length) (hb : ∀ z ∈ bs, 0 ≤ z ∧ z < 256) :
    Calls Tryd.prog 52 #[.int .i64 many, .pointer (some ⟨q, 0, none⟩)] w fun e w' => e = .returned (.int .u64 (fld bs o many)) ∧ (∃ v, w' = w.setCell ⟨q, 0, none⟩ v) ∧ Nx w' q b off cap bs (o + many) := by
  obtain ⟨hq, hr, hbq⟩ := h
  have hl := hr.split
  refine (next_any many q b (off + o) (cap - o) (bs.length - o) (bs.drop o) w hq (hr.drop o (by omega)) hm0 hm (by omega) (fun z hz => hb z (List.mem_of_mem_drop hz))).mono ?_
  rintro e w' ⟨rfl, rfl⟩
  rw [if_neg (by omega)]
  refine ⟨rfl, ⟨_, rfl⟩, ?_, ?_, hbq⟩
  · have := heap_setCell_same w q 0 _ _ (.slice (some ⟨b, off + o + many, none⟩) (bs.length - o - many) (cap - o - many)) hq
    rw [this, Nat.add_assoc, Nat.sub_sub, Nat.sub_sub]
    rfl
  · exact hr.at (below_set (Below.refl q w)) hbq

/-- The last. -/
theorem next_end (many q b off cap o : Nat) (bs : List Int) (w : World) (h : Nx w q b off cap bs o) (hm0 : ¬ many = 0) (hm : many ≤ 8) (hmn : o + many ≤ bs.length) (hb : ∀ z ∈ bs, 0 ≤ z ∧ z < 256) :
    Calls Tryd.prog 52 #[.int .i64 many, .pointer (some ⟨q, 0, none⟩)] w fun e w' => e = .returned (.int .u64 (fld bs o many)) ∧ (∃ v, w' = w.setCell ⟨q, 0, none⟩ v) := by
  obtain ⟨hq, hr, hbq⟩ := h
  have hl := hr.split
  refine (next_any many q b (off + o) (cap - o) (bs.length - o) (bs.drop o) w hq (hr.drop o (by omega)) hm0 hm (by omega) (fun z hz => hb z (List.mem_of_mem_drop hz))).mono ?_
  rintro e w' ⟨rfl, rfl⟩
  exact ⟨rfl, ⟨_, rfl⟩⟩

theorem fields_any (v : Value) (w : World) (hv : ∃ a n c, v = .slice a n c) : Calls Tryd.prog 38 #[v] w fun e w' => e = .returned (.func (.func 52) #[] #[.pointer (some ⟨w.heap.size, 0, none⟩)]) ∧ w' = w.alloc (.cells #[v] 31) := by
  obtain ⟨a, n, c, rfl⟩ := hv
  go_enter Tryd.func38, Tryd.ntmps38
  go_wp2_with fail
  go_ret
  exact ⟨rfl, rfl⟩
end Go.Proofs.YtcahlponmbnkcaaDoor
