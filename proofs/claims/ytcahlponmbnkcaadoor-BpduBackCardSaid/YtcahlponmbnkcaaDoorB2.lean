/- BPDU: maps: the kinds' first bytes. -/
import Derived.Test.YtcahlponmbnkcaaDoorB1
import Derived.Maps.RangeRun
namespace Go
/-- A block that holds another thing. -/
def World.putObj (w : World) (r : Nat) (o : Obj) : World := { w with heap := w.heap.setIfInBounds r o }
theorem World.putObj_at {w : World} {r : Nat} (o : Obj) (h : r < w.heap.size) : (w.putObj r o).heap[r]? = some o := by simp [World.putObj, h]
theorem World.putObj_other (w : World) {r k : Nat} (o : Obj) (h : k ≠ r) : (w.putObj r o).heap[k]? = w.heap[k]? := by simp [World.putObj, Ne.symm h]
theorem World.putObj_size (w : World) (r : Nat) (o : Obj) : (w.putObj r o).heap.size = w.heap.size := by simp [World.putObj]
theorem World.putObj_grown (w : World) (r : Nat) (o : Obj) : w.grownBy (w.putObj r o) (some r) :=
  ⟨rfl, rfl, rfl, by simp [World.putObj], fun k _ hne => World.putObj_other w o (fun e => hne (by rw [e]))⟩
theorem World.putObj_alloc (w : World) (x o : Obj) : (w.alloc x).putObj w.heap.size o = w.alloc o := by
  have hp : ∀ (h : Array Obj), (h.push x).setIfInBounds h.size o = h.push o := by intro h; apply Array.toList_inj.1; simp
  unfold World.putObj World.alloc
  simp [hp]
theorem run_setObj_map' {P : Program} {w : World} {r : Nat} {es : Array MapEntry} {n : Nat} (o : Obj) (hb : w.heap[r]? = some (.map es n)) : (setObj r o).run P w = .ok () (w.putObj r o) := by
  simp [setObj, Sem.run, hb, World.putObj]
theorem putObj_eq (w : World) (r : Nat) (o : Obj) : ChangeMaps.setBlock w r o = w.putObj r o := rfl
/-- The step at the operation. -/
theorem wpList_next_at {P : Program} (w : World) {ops : Array Oper} {rest : List Oper} {o : Oper} {a : Act} {Q : Exit → Act → World → Prop} (hg : o.guard = none) (it : Operand) (hop : o.op = Op.next it false)
    (r bm since c0 : Nat) (seen : Array Nat) (es : Array MapEntry) (clock : Nat) (hit : a.eval it = .pointer (some ⟨r, 0, none⟩)) (hr : w.heap[r]? = some (.mapIter (some bm) since seen c0)) (hb : w.heap[bm]? = some (.map es clock))
    (hold : ∀ x ∈ es.toList, x.born < since) (hn : (es.toList.map (·.born)).Nodup) (hsc : since ≤ c0) (hne : r ≠ bm)
    (hDone : Go.RowKit.Hid ((leftOf es seen).size = 0) → wpList P ops Q rest (a.put o.dst (.tuple #[.bool false])) w)
    (hMore : ∀ e w', Go.RowKit.Hid (e ∈ (leftOf es seen).toList) → Go.RowKit.Hid (w'.heap[r]? = some (.mapIter (some bm) since (seen.push e.born) clock)) → Go.RowKit.Hid (w.grownBy w' (some r)) → Go.RowKit.Hid (w'.heap.size = w.heap.size) →
      (Instr.entry (.pointer (some ⟨r, 0, none⟩))).run P w' = .ok (.tuple #[e.key, e.val]) w' → wpList P ops Q rest (a.put o.dst (.tuple #[.bool true, e.key, e.val])) w') :
    wpList P ops Q (o :: rest) a w := by
  refine wpList_plain hg fun K' hK' => ?_
  unfold Oper.wp
  rcases run_next_at (P := P) w o.type r bm since c0 seen es clock hr hb hold hsc with ⟨h0, hrun⟩ | ⟨e, he, w1, hal, hrun⟩
  · simp [execOp, hop, hit, hrun, Result.andThen]
    exact hK' _ _ (hDone h0)
  · simp [execOp, hop, hit, hrun, Result.andThen]
    refine hK' _ _ ?_
    have hhp : w1.heap = w.heap := by rcases hal with rfl | rfl <;> rfl
    have hsz : w1.heap.size = w.heap.size := by rw [hhp]
    have hlt : r < w1.heap.size := by
      rw [hsz]
      rcases Nat.lt_or_ge r w.heap.size with h | h
      · exact h
      · rw [Array.getElem?_eq_none h] at hr; cases hr
    have hgr : w.grownBy (w1.putObj r (.mapIter (some bm) since (seen.push e.born) clock)) (some r) := by
      rcases hal with rfl | rfl
      · exact World.putObj_grown _ _ _
      · exact have h := World.putObj_grown w.drew r (.mapIter (some bm) since (seen.push e.born) clock); ⟨h.os, h.tape, h.output, h.size, h.block⟩
    have hb1 : (w1.putObj r (.mapIter (some bm) since (seen.push e.born) clock)).heap[bm]? = some (.map es clock) := by
      rw [World.putObj_other _ _ (Ne.symm hne), hhp]; exact hb
    exact hMore e _ he (World.putObj_at _ hlt) hgr (show (w1.putObj r (.mapIter (some bm) since (seen.push e.born) clock)).heap.size = w.heap.size from by rw [World.putObj_size, hsz]) (run_entry_at _ r bm since seen es clock e (World.putObj_at _ hlt) hb1 (mem_left he).1 hn)
end Go
namespace Go.Proofs.YtcahlponmbnkcaaDoor
open Go Go.RowKit

abbrev key4 (a b c d : Int) : Value := .agg #[.int .u8 a, .int .u8 b, .int .u8 c, .int .u8 d]

theorem ins_run (w : World) (es : Array MapEntry) (n : Nat) (k v : Value) (hf : ∀ W, (Instr.findKey 65 k es.toList).run Tryd.prog W = .ok none W) (hc : ∀ W, (Instr.checkKey false 10000 65 k).run Tryd.prog W = .ok () W) :
    (Instr.mapUpdate 63 (.map (some w.heap.size)) k v).run Tryd.prog (w.alloc (.map es n)).drew = .ok () (w.alloc (.map (es.push ⟨k, v, n⟩) (n + 1))).drew := by
  have hb : ((w.alloc (.map es n)).drew).heap[w.heap.size]? = some (.map es n) := heap_alloc_new w _
  have hu := run_underlying Tryd.underlying63 (w := (w.alloc (.map es n)).drew)
  simp [Instr.mapUpdate, hu, MapKept.run_getObj_map hb, hc, hf, run_setObj_map' _ hb, Result.andThen]
  exact congrArg World.drew (World.putObj_alloc w _ _)

def headsEs : List (Array MapEntry) := [#[⟨(key4 0 0 0 0), .int .i64 1, 0⟩, ⟨(key4 0 0 0 128), .int .i64 2, 1⟩, ⟨(key4 0 0 2 2), .int .i64 3, 2⟩],
  #[⟨(key4 0 0 0 0), .int .i64 1, 0⟩, ⟨(key4 0 0 2 2), .int .i64 3, 1⟩, ⟨(key4 0 0 0 128), .int .i64 2, 2⟩],
  #[⟨(key4 0 0 0 128), .int .i64 2, 0⟩, ⟨(key4 0 0 0 0), .int .i64 1, 1⟩, ⟨(key4 0 0 2 2), .int .i64 3, 2⟩],
  #[⟨(key4 0 0 0 128), .int .i64 2, 0⟩, ⟨(key4 0 0 2 2), .int .i64 3, 1⟩, ⟨(key4 0 0 0 0), .int .i64 1, 2⟩],
  #[⟨(key4 0 0 2 2), .int .i64 3, 0⟩, ⟨(key4 0 0 0 0), .int .i64 1, 1⟩, ⟨(key4 0 0 0 128), .int .i64 2, 2⟩],
  #[⟨(key4 0 0 2 2), .int .i64 3, 0⟩, ⟨(key4 0 0 0 128), .int .i64 2, 1⟩, ⟨(key4 0 0 0 0), .int .i64 1, 2⟩]]

set_option maxRecDepth 100000 in
set_option maxHeartbeats 1000000 in
theorem heads_any (w : World) :
    Calls Tryd.prog 22 #[] w fun e w' => e = .returned (.map (some w.heap.size)) ∧ Below w.heap.size w w' ∧ w'.heap.size = w.heap.size + 1 ∧ ∃ es ∈ headsEs, w'.heap[w.heap.size]? = some (.map es 3) := by
  have hmm := @run_makeMap Tryd.prog
  have i_1 := ins_run w #[] 0 (key4 0 0 0 0) (.int .i64 1) (fun W => by kernel_rfl) (fun W => by kernel_rfl)
  have i_2 := ins_run w #[] 0 (key4 0 0 0 128) (.int .i64 2) (fun W => by kernel_rfl) (fun W => by kernel_rfl)
  have i_3 := ins_run w #[] 0 (key4 0 0 2 2) (.int .i64 3) (fun W => by kernel_rfl) (fun W => by kernel_rfl)
  have i1_2 := ins_run w #[⟨(key4 0 0 0 0), .int .i64 1, 0⟩] 1 (key4 0 0 0 128) (.int .i64 2) (fun W => by kernel_rfl) (fun W => by kernel_rfl)
  have i1_3 := ins_run w #[⟨(key4 0 0 0 0), .int .i64 1, 0⟩] 1 (key4 0 0 2 2) (.int .i64 3) (fun W => by kernel_rfl) (fun W => by kernel_rfl)
  have i2_1 := ins_run w #[⟨(key4 0 0 0 128), .int .i64 2, 0⟩] 1 (key4 0 0 0 0) (.int .i64 1) (fun W => by kernel_rfl) (fun W => by kernel_rfl)
  have i2_3 := ins_run w #[⟨(key4 0 0 0 128), .int .i64 2, 0⟩] 1 (key4 0 0 2 2) (.int .i64 3) (fun W => by kernel_rfl) (fun W => by kernel_rfl)
  have i3_1 := ins_run w #[⟨(key4 0 0 2 2), .int .i64 3, 0⟩] 1 (key4 0 0 0 0) (.int .i64 1) (fun W => by kernel_rfl) (fun W => by kernel_rfl)
  have i3_2 := ins_run w #[⟨(key4 0 0 2 2), .int .i64 3, 0⟩] 1 (key4 0 0 0 128) (.int .i64 2) (fun W => by kernel_rfl) (fun W => by kernel_rfl)
  have i12_3 := ins_run w #[⟨(key4 0 0 0 0), .int .i64 1, 0⟩, ⟨(key4 0 0 0 128), .int .i64 2, 1⟩] 2 (key4 0 0 2 2) (.int .i64 3) (fun W => by kernel_rfl) (fun W => by kernel_rfl)
  have i13_2 := ins_run w #[⟨(key4 0 0 0 0), .int .i64 1, 0⟩, ⟨(key4 0 0 2 2), .int .i64 3, 1⟩] 2 (key4 0 0 0 128) (.int .i64 2) (fun W => by kernel_rfl) (fun W => by kernel_rfl)
  have i21_3 := ins_run w #[⟨(key4 0 0 0 128), .int .i64 2, 0⟩, ⟨(key4 0 0 0 0), .int .i64 1, 1⟩] 2 (key4 0 0 2 2) (.int .i64 3) (fun W => by kernel_rfl) (fun W => by kernel_rfl)
  have i23_1 := ins_run w #[⟨(key4 0 0 0 128), .int .i64 2, 0⟩, ⟨(key4 0 0 2 2), .int .i64 3, 1⟩] 2 (key4 0 0 0 0) (.int .i64 1) (fun W => by kernel_rfl) (fun W => by kernel_rfl)
  have i31_2 := ins_run w #[⟨(key4 0 0 2 2), .int .i64 3, 0⟩, ⟨(key4 0 0 0 0), .int .i64 1, 1⟩] 2 (key4 0 0 0 128) (.int .i64 2) (fun W => by kernel_rfl) (fun W => by kernel_rfl)
  have i32_1 := ins_run w #[⟨(key4 0 0 2 2), .int .i64 3, 0⟩, ⟨(key4 0 0 0 128), .int .i64 2, 1⟩] 2 (key4 0 0 0 0) (.int .i64 1) (fun W => by kernel_rfl) (fun W => by kernel_rfl)
  go_enter Tryd.func22, Tryd.ntmps22
  go_wp2_with fail
  go_region
  all_goals
    go_wp2
    go_ret
    refine ⟨rfl, ((Below.refl _ _).alloc (Nat.le_refl _) _).drew, by simp, _, ?_, heap_alloc_new w _⟩
    simp [headsEs]
end Go.Proofs.YtcahlponmbnkcaaDoor
