/- ether: what a length counts; whether a frame may be. -/
import Derived.Test.YtcahlponmbnkcaaDoorV2
namespace Go.Proofs.YtcahlponmbnkcaaDoor
open Go Go.RowKit Go.Sort

theorem info_cells {w : World} {g : Nat} {cs : Array Value} {t : TypeId} {k : Nat} {u : Value} (h : w.heap[g]? = some (.cells cs t (0, 0))) (hk : cs[k]? = some u) : w.cell? ⟨g, k, none⟩ = some u := by
  have := World.news_of_block h k u (by simpa using hk)
  rw [Addr.add_lit] at this
  simpa using this

/-- A whole struct is loaded, behind a guard that says yes. -/
theorem wpList_load_rowG {P : Program} {ops : Array Oper} {rest : List Oper} {o : Oper} {a : Act} {w : World} {Q : Exit → Act → World → Prop} (hw : Region.wanted o (yielded ops a.tmps) = true) (ty : TypeId) (x : Operand) (ho : o.op = .load ty x)
    (g : Nat) (hx : a.eval x = .pointer (some ⟨g, 0, none⟩)) (t : TypeId) (cs : Array Value) (fr : Nat × Nat) (d : TypeDesc) (hg : w.heap[g]? = some (.cells cs t fr))
    (hu : P.underlying ty = some d) (hd : (match d with | .struct _ | .array _ _ => true | _ => false) = true) (hi : (P.info? ty).map (·.size) = some cs.size)
    (h : wpList P ops Q rest (a.put o.dst (.agg cs)) w) : wpList P ops Q (o :: rest) a w :=
  wpList_step fun K hK => by
    simp only [hw, if_true]
    exact wp_load_row ty x ho g hx t cs fr d hg hu hd hi (hK _ _ h)

abbrev llcF (d0 d1 d2 d3 d4 d5 s0 s1 s2 s3 s4 s5 : Int) (tags : Value) (l0 l1 l2 : Int) (body : Value) : Array Value :=
  #[.int .u8 d0, .int .u8 d1, .int .u8 d2, .int .u8 d3, .int .u8 d4, .int .u8 d5, .int .u8 s0, .int .u8 s1, .int .u8 s2, .int .u8 s3, .int .u8 s4, .int .u8 s5, tags, .int .i64 2, .int .i64 0, .int .u8 l0, .int .u8 l1, .int .u8 l2, .int .u8 0, .int .u8 0, .int .u8 0, body, .slice none 0 0]

set_option maxRecDepth 100000 in
set_option maxHeartbeats 1000000 in
theorem counted_any (d0 d1 d2 d3 d4 d5 s0 s1 s2 s3 s4 s5 l0 l1 l2 : Int) (tags body : Value) (bs : List Int) (w : World) (hr : Rd w body bs) (hl : bs.length ≤ 1000) :
    Calls Tryd.prog 31 #[.agg (llcF d0 d1 d2 d3 d4 d5 s0 s1 s2 s3 s4 s5 tags l0 l1 l2 body)] w fun e w' => ∃ v, e = .returned v ∧ Rd w' v ([l0, l1, l2] ++ bs) ∧ Below w.heap.size w w' := by
  have HR := Lib.hid hr
  clear hr
  have hb1 : bs.length ≤ 100000 := by omega
  go_enter Tryd.func31, Tryd.ntmps31
  go_wp2_with fail
  have HF := Lib.hid (heap_alloc_new w (.cells (llcF d0 d1 d2 d3 d4 d5 s0 s1 s2 s3 s4 s5 tags l0 l1 l2 body) 33))
  have HB : Hid (Below w.heap.size w (w.alloc (.cells (llcF d0 d1 d2 d3 d4 d5 s0 s1 s2 s3 s4 s5 tags l0 l1 l2 body) 33))) := (Below.refl _ _).alloc (Nat.le_refl _) _
  have HR2 := Lib.hid (HR.out.below HB.out)
  have hbd := info_cells (k := 21) HF.out rfl
  generalize w.alloc (.cells (llcF d0 d1 d2 d3 d4 d5 s0 s1 s2 s3 s4 s5 tags l0 l1 l2 body) 33) = W at *
  refine still_tail_drew 4 (by kernel_rfl) (by kernel_rfl) ?_
  simp only [List.take_succ_cons, List.take_zero, List.drop_succ_cons, List.drop_zero]
  iterate 4 still_step
  refine wpStill_nil ?_
  have HC : Hid (∀ j u, ([l0, l1, l2].map (Value.int .u8))[j]? = some u → W.drew.cell? ⟨w.heap.size, 15 + j, none⟩ = some u) := Lib.hid fun j u hu => by
    refine (show W.drew.cell? _ = W.cell? _ from rfl).trans (info_cells HF.out ?_)
    match j, hu with
    | 0, hu => exact hu
    | 1, hu => exact hu
    | 2, hu => exact hu
    | j + 3, hu => cases hu
  have HBD : Hid (Below w.heap.size w W.drew) := bd (n := 1) HB.out
  have HRD : Hid (Rd W.drew body bs) := HR2.out.below (bd (n := 1) (Below.refl _ _))
  clear hbd
  generalize W.drew = V at *
  go_wp2_with (at_builtin; refine wpList_append_full rfl (.tmp 18) (.tmp 20) rfl w.heap.size 15 3 body [l0, l1, l2] bs rfl rfl HC rfl HRD (by simp) hb1 ?_; intro v' w2 h1 h2)
  go_ret
  exact ⟨v', rfl, h1.out, HBD.out.trans (h2.out.mono HBD.out.size)⟩

set_option maxRecDepth 100000 in
set_option maxHeartbeats 1000000 in
theorem fmay_any (d0 d1 d2 d3 d4 d5 s0 s1 s2 s3 s4 s5 l0 l1 l2 : Int) (tags body : Value) (bs : List Int) (w : World) (hG : Gk w) (hr : Rd w body bs) (hl : bs.length ≤ 1000) (hs : [l0, l1, l2] ≠ [170, 170, 3]) :
    Calls Tryd.prog 29 #[.agg (llcF d0 d1 d2 d3 d4 d5 s0 s1 s2 s3 s4 s5 tags l0 l1 l2 body)] w fun e w' => e = .returned (.bool true) ∧ Below w.heap.size w w' := by
  have HR := Lib.hid hr
  have HG := Lib.hid hG
  have HS := Lib.hid hs
  have q3 := eqArr 30 3 Tryd.underlying30 #[.int .u8 l0, .int .u8 l1, .int .u8 l2] #[.int .u8 170, .int .u8 170, .int .u8 3] [l0, l1, l2] [170, 170, 3] rfl rfl rfl rfl
  have q0 := eqArr 30 3 Tryd.underlying30 #[.int .u8 0, .int .u8 0, .int .u8 0] #[.int .u8 0, .int .u8 0, .int .u8 0] [0, 0, 0] [0, 0, 0] rfl rfl rfl rfl
  rw [decide_eq_false hs] at q3
  have g0 := hG.s0
  have g1 := hG.s1
  have g2 := hG.s2
  have hz3 : 3 < w.heap.size := lt_of_cell g0
  have hlen : (([l0, l1, l2] ++ bs).length : Int) ≤ 1500 := by simp; omega
  have HF := Lib.hid (heap_alloc_new w (.cells (llcF d0 d1 d2 d3 d4 d5 s0 s1 s2 s3 s4 s5 tags l0 l1 l2 body) 33))
  have HB : Hid (Below w.heap.size w (w.alloc (.cells (llcF d0 d1 d2 d3 d4 d5 s0 s1 s2 s3 s4 s5 tags l0 l1 l2 body) 33))) := (Below.refl _ _).alloc (Nat.le_refl _) _
  clear hr hG hs
  go_enter Tryd.func29, Tryd.ntmps29
  go_wp2_with (first
    | ((with_reducible show wpList _ _ _ (Oper.mk _ (.load 33 _) _ _ _ _ :: _) _ _); refine wpList_load_rowG rfl 33 (.tmp 1) rfl w.heap.size rfl 33 (llcF d0 d1 d2 d3 d4 d5 s0 s1 s2 s3 s4 s5 tags l0 l1 l2 body) (0, 0) _ HF.out Tryd.underlying33 rfl (by kernel_rfl) ?_; go_frame)
    | (go_at_call 31; refine (counted_any d0 d1 d2 d3 d4 d5 s0 s1 s2 s3 s4 s5 l0 l1 l2 tags body bs _ (HR.out.below HB.out) hl).mono ?_; rintro e w1 ⟨v, rfl, h1, h2⟩; obtain ⟨a0, c0, rfl⟩ := h1.form; have H2 := Lib.hid (HB.out.trans (h2.mono HB.out.size)); clear h2 h1))
  go_ret
  exact ⟨ret_bool (decide_eq_true (by omega)), H2.out⟩
end Go.Proofs.YtcahlponmbnkcaaDoor
