/- BPDU: a frame as the document's. -/
import Derived.Test.YtcahlponmbnkcaaDoorD1
import Derived.Laws.CopyOwn
import Derived.Deep.CutBlock
import Derived.Deep.DeepCutAuto
namespace Go.Proofs.YtcahlponmbnkcaaDoor
open Go Go.RowKit

/-- A frame's value. -/
abbrev frameV (d0 d1 d2 d3 d4 d5 s0 s1 s2 s3 s4 s5 : Int) (tags : Value) (kind typ l0 l1 l2 o0 o1 o2 : Int) (body rest : Value) : Value :=
  .agg #[.int .u8 d0, .int .u8 d1, .int .u8 d2, .int .u8 d3, .int .u8 d4, .int .u8 d5, .int .u8 s0, .int .u8 s1, .int .u8 s2, .int .u8 s3, .int .u8 s4, .int .u8 s5, tags, .int .i64 kind, .int .i64 typ, .int .u8 l0, .int .u8 l1, .int .u8 l2, .int .u8 o0, .int .u8 o1, .int .u8 o2, body, rest]

theorem wpList_buildV {P : Program} {ops : Array Oper} {rest : List Oper} {o : Oper} {a : Act} {w : World} {Q : Exit → Act → World → Prop} (hg : o.guard = none) (t : TypeId) (parts : Array (Nat × Operand)) (ho : o.op = .build t parts)
    (cells : Array Value) (hb : P.built t (parts.map fun (i, x) => (i, a.eval x)).toList = some cells) (h : wpList P ops Q rest (a.put o.dst (.agg cells)) w) : wpList P ops Q (o :: rest) a w := by
  refine wpList_build hg t parts ho (by rw [hb]; rfl) ?_
  rw [hb]
  exact h

/-- A variable of a great type, by one closed fact. -/
theorem wpList_allocV {P : Program} {ops : Array Oper} {rest : List Oper} {o : Oper} {a : Act} {w : World} {Q : Exit → Act → World → Prop} (hg : o.guard = none) (t : TypeId) (ho : o.op = .alloc t) (cs : Array Value)
    (hz : ∀ w, (Instr.alloc t true (.tuple #[])).run P w = .ok (.pointer (some ⟨w.heap.size, 0, none⟩)) (w.alloc (.cells cs t)))
    (h : wpList P ops Q rest (a.put o.dst (.pointer (some ⟨w.heap.size, 0, none⟩))) (w.alloc (.cells cs t))) : wpList P ops Q (o :: rest) a w := by
  refine wpList_plain hg fun K hK => ?_
  unfold Oper.wp
  simp only [execOp, ho, Sem.run_bind, hz, Result.andThen, Sem.run_pure, Oper.upon]
  exact hK _ _ h

abbrev zeros47 : Array Value := #[.int .u8 0, .int .u8 0, .int .u8 0, .int .u8 0, .int .u8 0, .int .u8 0, .int .u8 0, .int .u8 0, .int .u8 0, .int .u8 0, .int .u8 0, .int .u8 0, .slice none 0 0, .int .i64 0, .int .i64 0, .int .u8 0, .int .u8 0, .int .u8 0, .int .u8 0, .int .u8 0, .int .u8 0, .slice none 0 0, .slice none 0 0]
theorem al47 (w : World) : (Instr.alloc 47 true (.tuple #[])).run Tryd.prog w = .ok (.pointer (some ⟨w.heap.size, 0, none⟩)) (w.alloc (.cells zeros47 47)) := by kernel_rfl

theorem one23 (d0 d1 d2 d3 d4 d5 s0 s1 s2 s3 s4 s5 kind typ l0 l1 l2 o0 o1 o2 : Int) (ao : Option Addr) (n c : Nat) : (#[.int .u8 d0, .int .u8 d1, .int .u8 d2, .int .u8 d3, .int .u8 d4, .int .u8 d5, .int .u8 s0, .int .u8 s1, .int .u8 s2, .int .u8 s3, .int .u8 s4, .int .u8 s5, .slice none 0 0, .int .i64 kind, .int .i64 typ, .int .u8 l0, .int .u8 l1, .int .u8 l2, .int .u8 o0, .int .u8 o1, .int .u8 o2, .slice ao n c, .slice none 0 0] : Array Value).all (·.oneCell') = true := by
  simp [Value.oneCell']

set_option maxRecDepth 100000 in
set_option maxHeartbeats 1000000 in
theorem of_nil (d0 d1 d2 d3 d4 d5 s0 s1 s2 s3 s4 s5 kind typ l0 l1 l2 o0 o1 o2 : Int) (ao : Option Addr) (n c : Nat) (w : World) :
    Calls Tryd.prog 13 #[frameV d0 d1 d2 d3 d4 d5 s0 s1 s2 s3 s4 s5 (.slice none 0 0) kind typ l0 l1 l2 o0 o1 o2 (.slice ao n c) (.slice none 0 0)] w fun e w' => e = .returned (frameV d0 d1 d2 d3 d4 d5 s0 s1 s2 s3 s4 s5 (.slice none 0 0) kind typ l0 l1 l2 o0 o1 o2 (.slice ao n c) (.slice none 0 0)) ∧ Below w.heap.size w w' := by
  go_enter Tryd.func13, Tryd.ntmps13
  go_upto_region 1 with ((with_reducible show wpList _ _ _ (Oper.mk _ (.alloc _) _ _ _ _ :: _) _ _); refine wpList_allocV rfl 47 rfl _ al47 ?_; go_frame)
  simp only [World.size_alloc]
  obtain ⟨W, hW⟩ : ∃ W, W = (w.alloc (.cells #[.int .u8 d0, .int .u8 d1, .int .u8 d2, .int .u8 d3, .int .u8 d4, .int .u8 d5, .int .u8 s0, .int .u8 s1, .int .u8 s2, .int .u8 s3, .int .u8 s4, .int .u8 s5, .slice none 0 0, .int .i64 kind, .int .i64 typ, .int .u8 l0, .int .u8 l1, .int .u8 l2, .int .u8 o0, .int .u8 o1, .int .u8 o2, .slice ao n c, .slice none 0 0] 33)).alloc (.cells zeros47 47) := ⟨_, rfl⟩
  rw [← hW]
  have hbx : W.heap[w.heap.size]? = some (.cells #[.int .u8 d0, .int .u8 d1, .int .u8 d2, .int .u8 d3, .int .u8 d4, .int .u8 d5, .int .u8 s0, .int .u8 s1, .int .u8 s2, .int .u8 s3, .int .u8 s4, .int .u8 s5, .slice none 0 0, .int .i64 kind, .int .i64 typ, .int .u8 l0, .int .u8 l1, .int .u8 l2, .int .u8 o0, .int .u8 o1, .int .u8 o2, .slice ao n c, .slice none 0 0] 33 (0, 0)) := by rw [hW, Below.heap_alloc _ _ _ (by simp)]; exact heap_alloc_new _ _
  have HZ : Hid (W.heap[w.heap.size + 1]? = some (.cells zeros47 47 (0, 0))) := by show W.heap[_]? = _; rw [hW]; exact heap_new_at _ _ (by simp)
  have HS : Hid (W.heap.size = w.heap.size + 1 + 1) := by show W.heap.size = _; rw [hW]; simp
  have HB : Hid (Below w.heap.size w W) := by rw [hW]; exact ((Below.refl _ _).alloc (Nat.le_refl _) _).alloc (by simp) _
  clear hW
  have c0 : W.cell? ⟨w.heap.size, 0, none⟩ = some (.int .u8 d0) := by rw [cell_of_row _ _ 0 _ _ _ hbx]; rfl
  have c1 : W.cell? ⟨w.heap.size, 1, none⟩ = some (.int .u8 d1) := by rw [cell_of_row _ _ 1 _ _ _ hbx]; rfl
  have c2 : W.cell? ⟨w.heap.size, 2, none⟩ = some (.int .u8 d2) := by rw [cell_of_row _ _ 2 _ _ _ hbx]; rfl
  have c3 : W.cell? ⟨w.heap.size, 3, none⟩ = some (.int .u8 d3) := by rw [cell_of_row _ _ 3 _ _ _ hbx]; rfl
  have c4 : W.cell? ⟨w.heap.size, 4, none⟩ = some (.int .u8 d4) := by rw [cell_of_row _ _ 4 _ _ _ hbx]; rfl
  have c5 : W.cell? ⟨w.heap.size, 5, none⟩ = some (.int .u8 d5) := by rw [cell_of_row _ _ 5 _ _ _ hbx]; rfl
  have c6 : W.cell? ⟨w.heap.size, 6, none⟩ = some (.int .u8 s0) := by rw [cell_of_row _ _ 6 _ _ _ hbx]; rfl
  have c7 : W.cell? ⟨w.heap.size, 7, none⟩ = some (.int .u8 s1) := by rw [cell_of_row _ _ 7 _ _ _ hbx]; rfl
  have c8 : W.cell? ⟨w.heap.size, 8, none⟩ = some (.int .u8 s2) := by rw [cell_of_row _ _ 8 _ _ _ hbx]; rfl
  have c9 : W.cell? ⟨w.heap.size, 9, none⟩ = some (.int .u8 s3) := by rw [cell_of_row _ _ 9 _ _ _ hbx]; rfl
  have c10 : W.cell? ⟨w.heap.size, 10, none⟩ = some (.int .u8 s4) := by rw [cell_of_row _ _ 10 _ _ _ hbx]; rfl
  have c11 : W.cell? ⟨w.heap.size, 11, none⟩ = some (.int .u8 s5) := by rw [cell_of_row _ _ 11 _ _ _ hbx]; rfl
  have c12 : W.cell? ⟨w.heap.size, 12, none⟩ = some (.slice none 0 0) := by rw [cell_of_row _ _ 12 _ _ _ hbx]; rfl
  have c13 : W.cell? ⟨w.heap.size, 13, none⟩ = some (.int .i64 kind) := by rw [cell_of_row _ _ 13 _ _ _ hbx]; rfl
  have c14 : W.cell? ⟨w.heap.size, 14, none⟩ = some (.int .i64 typ) := by rw [cell_of_row _ _ 14 _ _ _ hbx]; rfl
  have c15 : W.cell? ⟨w.heap.size, 15, none⟩ = some (.int .u8 l0) := by rw [cell_of_row _ _ 15 _ _ _ hbx]; rfl
  have c16 : W.cell? ⟨w.heap.size, 16, none⟩ = some (.int .u8 l1) := by rw [cell_of_row _ _ 16 _ _ _ hbx]; rfl
  have c17 : W.cell? ⟨w.heap.size, 17, none⟩ = some (.int .u8 l2) := by rw [cell_of_row _ _ 17 _ _ _ hbx]; rfl
  have c18 : W.cell? ⟨w.heap.size, 18, none⟩ = some (.int .u8 o0) := by rw [cell_of_row _ _ 18 _ _ _ hbx]; rfl
  have c19 : W.cell? ⟨w.heap.size, 19, none⟩ = some (.int .u8 o1) := by rw [cell_of_row _ _ 19 _ _ _ hbx]; rfl
  have c20 : W.cell? ⟨w.heap.size, 20, none⟩ = some (.int .u8 o2) := by rw [cell_of_row _ _ 20 _ _ _ hbx]; rfl
  have c21 : W.cell? ⟨w.heap.size, 21, none⟩ = some (.slice ao n c) := by rw [cell_of_row _ _ 21 _ _ _ hbx]; rfl
  have c22 : W.cell? ⟨w.heap.size, 22, none⟩ = some (.slice none 0 0) := by rw [cell_of_row _ _ 22 _ _ _ hbx]; rfl
  have HBX := Lib.hid hbx
  clear hbx
  go_upto_region 3 with (first
    | ((with_reducible show wpList _ _ _ (Oper.mk _ (.alloc _) _ _ _ _ :: _) _ _); refine wpList_allocV rfl 47 rfl _ al47 ?_; go_frame)
    | ((with_reducible show wpList _ _ _ (Oper.mk _ (.build _ _) _ _ _ _ :: _) _ _); refine wpList_buildV rfl 47 _ rfl #[.int .u8 d0, .int .u8 d1, .int .u8 d2, .int .u8 d3, .int .u8 d4, .int .u8 d5, .int .u8 s0, .int .u8 s1, .int .u8 s2, .int .u8 s3, .int .u8 s4, .int .u8 s5, .slice none 0 0, .int .i64 kind, .int .i64 typ, .int .u8 l0, .int .u8 l1, .int .u8 l2, .int .u8 o0, .int .u8 o1, .int .u8 o2, .slice ao n c, .slice none 0 0] (by kernel_rfl) ?_; go_frame)
    | ((with_reducible show wpList _ _ _ (Oper.mk _ (.store _ _ _) _ _ _ _ :: _) _ _); refine wpList_store_row rfl 47 (.tmp 3) (.tmp 21) rfl W.heap.size #[.int .u8 d0, .int .u8 d1, .int .u8 d2, .int .u8 d3, .int .u8 d4, .int .u8 d5, .int .u8 s0, .int .u8 s1, .int .u8 s2, .int .u8 s3, .int .u8 s4, .int .u8 s5, .slice none 0 0, .int .i64 kind, .int .i64 typ, .int .u8 l0, .int .u8 l1, .int .u8 l2, .int .u8 o0, .int .u8 o1, .int .u8 o2, .slice ao n c, .slice none 0 0] rfl rfl 47 zeros47 (heap_new_at _ _ rfl) (by kernel_rfl) rfl (one23 d0 d1 d2 d3 d4 d5 s0 s1 s2 s3 s4 s5 kind typ l0 l1 l2 o0 o1 o2 ao n c) ?_; go_frame))
  obtain ⟨V, hV⟩ : ∃ V, V = (W.alloc (.cells zeros47 47)).setRow W.heap.size #[.int .u8 d0, .int .u8 d1, .int .u8 d2, .int .u8 d3, .int .u8 d4, .int .u8 d5, .int .u8 s0, .int .u8 s1, .int .u8 s2, .int .u8 s3, .int .u8 s4, .int .u8 s5, .slice none 0 0, .int .i64 kind, .int .i64 typ, .int .u8 l0, .int .u8 l1, .int .u8 l2, .int .u8 o0, .int .u8 o1, .int .u8 o2, .slice ao n c, .slice none 0 0] := ⟨_, rfl⟩
  rw [← hV]
  have HV3 : Hid (V.heap[W.heap.size]? = some (.cells #[.int .u8 d0, .int .u8 d1, .int .u8 d2, .int .u8 d3, .int .u8 d4, .int .u8 d5, .int .u8 s0, .int .u8 s1, .int .u8 s2, .int .u8 s3, .int .u8 s4, .int .u8 s5, .slice none 0 0, .int .i64 kind, .int .i64 typ, .int .u8 l0, .int .u8 l1, .int .u8 l2, .int .u8 o0, .int .u8 o1, .int .u8 o2, .slice ao n c, .slice none 0 0] 47 (0, 0))) := by
    show V.heap[_]? = _; rw [hV]; exact setRow_heap _ _ _ _ _ _ (heap_alloc_new _ _)
  have HVZ : Hid (V.heap[w.heap.size + 1]? = some (.cells zeros47 47 (0, 0))) := by
    show V.heap[_]? = _
    have := HS.out
    rw [hV, setRow_other _ _ _ _ (by omega), Below.heap_alloc _ _ _ (by omega)]; exact HZ.out
  have HVB : Hid (Below w.heap.size w V) := by
    have := HS.out
    rw [hV]; exact below_setRow (HB.out.alloc (by omega) _) (by omega) _
  have hv12 : V.cell? ⟨w.heap.size, 12, none⟩ = some (.slice none 0 0) := by
    have := HS.out
    rw [hV, cell_setRow_other _ _ _ _ (by show w.heap.size ≠ _; omega)]
    exact (World.cell?_alloc_lt W _ _ (by show w.heap.size < _; omega)).trans c12
  clear hV c0 c1 c2 c3 c4 c5 c6 c7 c8 c9 c10 c11 c12 c13 c14 c15 c16 c17 c18 c19 c20 c21 c22
  refine wp_loop_rounds 1 ?_
  rw [rounds_succ]
  go_wp2_with (first
    | ((with_reducible show wpList _ _ _ (Oper.mk _ (.load 47 _) _ _ _ _ :: _) _ _); refine wpList_load_row rfl 47 (.tmp 3) rfl W.heap.size rfl 47 #[.int .u8 d0, .int .u8 d1, .int .u8 d2, .int .u8 d3, .int .u8 d4, .int .u8 d5, .int .u8 s0, .int .u8 s1, .int .u8 s2, .int .u8 s3, .int .u8 s4, .int .u8 s5, .slice none 0 0, .int .i64 kind, .int .i64 typ, .int .u8 l0, .int .u8 l1, .int .u8 l2, .int .u8 o0, .int .u8 o1, .int .u8 o2, .slice ao n c, .slice none 0 0] (0, 0) _ HV3.out Tryd.underlying47 rfl (by kernel_rfl) ?_; go_frame)
    | ((with_reducible show wpList _ _ _ (Oper.mk _ (.store 47 _ _) _ _ _ _ :: _) _ _); refine wpList_store_row rfl 47 (.tmp 2) (.tmp 39) rfl (w.heap.size + 1) #[.int .u8 d0, .int .u8 d1, .int .u8 d2, .int .u8 d3, .int .u8 d4, .int .u8 d5, .int .u8 s0, .int .u8 s1, .int .u8 s2, .int .u8 s3, .int .u8 s4, .int .u8 s5, .slice none 0 0, .int .i64 kind, .int .i64 typ, .int .u8 l0, .int .u8 l1, .int .u8 l2, .int .u8 o0, .int .u8 o1, .int .u8 o2, .slice ao n c, .slice none 0 0] rfl rfl 47 zeros47 HVZ.out (by kernel_rfl) rfl (one23 d0 d1 d2 d3 d4 d5 s0 s1 s2 s3 s4 s5 kind typ l0 l1 l2 o0 o1 o2 ao n c) ?_; go_frame))
  refine bodyPost_ret (v := frameV d0 d1 d2 d3 d4 d5 s0 s1 s2 s3 s4 s5 (.slice none 0 0) kind typ l0 l1 l2 o0 o1 o2 (.slice ao n c) (.slice none 0 0))
    (results_cell_row (P := Tryd.prog) Tryd.results13 _ _ (w.heap.size + 1) 47 #[.int .u8 d0, .int .u8 d1, .int .u8 d2, .int .u8 d3, .int .u8 d4, .int .u8 d5, .int .u8 s0, .int .u8 s1, .int .u8 s2, .int .u8 s3, .int .u8 s4, .int .u8 s5, .slice none 0 0, .int .i64 kind, .int .i64 typ, .int .u8 l0, .int .u8 l1, .int .u8 l2, .int .u8 o0, .int .u8 o1, .int .u8 o2, .slice ao n c, .slice none 0 0] (0, 0) _ rfl (setRow_heap _ _ _ _ _ _ HVZ.out) Tryd.underlying47 rfl (by kernel_rfl)) rfl ⟨rfl, ?_⟩
  exact below_setRow HVB.out (Nat.le_succ _) _
end Go.Proofs.YtcahlponmbnkcaaDoor
