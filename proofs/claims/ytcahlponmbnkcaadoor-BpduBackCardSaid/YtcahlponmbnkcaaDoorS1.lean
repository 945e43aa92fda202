/- The library's slices at bytes: Clone, Grow of nil, Concat; ether.words. -/
import Derived.Test.YtcahlponmbnkcaaDoorE1
import Derived.Lib.AppendZeros
import Derived.Laws.AppendOwnNone
namespace Go.Proofs.YtcahlponmbnkcaaDoor
open Go Go.RowKit

/-- A slice of bytes that reads as these. -/
def Rd (w : World) (v : Value) (bs : List Int) : Prop :=
  (v = .slice none 0 0 ∧ bs = []) ∨
  ∃ b off cap, v = .slice (some ⟨b, off, none⟩) bs.length cap ∧ bs.length ≤ cap ∧ cap ≤ maxLen ∧ ∀ j u, (bs.map (Value.int .u8))[j]? = some u → w.cell? ⟨b, off + j, none⟩ = some u

theorem Rd.below {w w' : World} {v : Value} {bs : List Int} (h : Rd w v bs) (hb : Below w.heap.size w w') : Rd w' v bs := by
  rcases h with h | ⟨b, off, cap, e, h1, h2, h3⟩
  · exact .inl h
  · exact .inr ⟨b, off, cap, e, h1, h2, fun j u hu => by
      have := h3 j u hu
      rw [hb.cell (World.block_lt_of_cell? w _ this)]; exact this⟩

theorem Rd.nil (w : World) : Rd w (.slice none 0 0) [] := .inl ⟨rfl, rfl⟩

theorem Bytes.rd {B : Nat} {w : World} {v : Value} {bs : List Int} (h : Bytes B w v bs) : Rd w v bs := by
  rcases h.2 with ⟨rfl, h0⟩ | ⟨g, cap, cur, rfl, hB, hg, hn, hc, hs, ht⟩
  · exact .inl ⟨rfl, List.eq_nil_of_length_eq_zero h0⟩
  · refine .inr ⟨g, 0, cap, rfl, hn, hc, fun j u hu => ?_⟩
    have := World.ownsRow.cells h rfl j u hu
    rw [Addr.add_lit] at this
    simpa using this

theorem Rd.form {w : World} {v : Value} {bs : List Int} (h : Rd w v bs) : ∃ a cap, v = .slice a bs.length cap := by
  rcases h with ⟨rfl, rfl⟩ | ⟨b, off, cap, e, _⟩
  · exact ⟨_, _, rfl⟩
  · exact ⟨_, _, e⟩

/-- 'append(b, ys...)', b the call's own, ys any slice of bytes. -/
theorem wpList_appendR {w : World} {ops : Array Oper} {rest : List Oper} {o : Oper} {a : Act} {Q : Exit → Act → World → Prop} (hg : o.guard = none) (s x : Operand)
    (hop : o.op = Op.call { callee := Callee.builtin Builtin.append, args := #[s, x], argTypes := #[31, 31] }) (B : Nat) (v v2 : Value) (bs ys : List Int) (hs : a.eval s = v) (hown : Hid (Bytes B w v bs))
    (hx : a.eval x = v2) (hr : Hid (Rd w v2 ys)) (h1 : bs.length ≤ 100000) (h2 : ys.length ≤ 100000) (hB : B ≤ w.heap.size)
    (hK : ∀ v' w', Hid (Bytes B w' v' (bs ++ ys)) → Hid (Below B w w') → wpList Tryd.prog ops Q rest (a.put o.dst v') w') :
    wpList Tryd.prog ops Q (o :: rest) a w := by
  rcases hr.out with ⟨e, rfl⟩ | ⟨b, off, cap, e, g1, g2, g3⟩
  · obtain ⟨i0, hi, _⟩ := info_parts Tryd.info5
    refine wpList_append_own_none hg s x 31 hop B 5 i0 1 Tryd.underlying31 hi v bs.length (bs.map (Value.int .u8)) hs hown.out (hx.trans e) ?_
    exact hK v w (by simpa using hown) (Below.refl _ _)
  · refine wpList_appendB hg s x hop B v bs ys hs hown ⟨b, off, none⟩ ys.length cap (hx.trans e) rfl (fun j u hu => by rw [Addr.add_lit]; exact g3 j u hu) h1 h2 hB ?_
    intro v' w' k1 k2 k3
    refine hK v' w' k1 ((Below.refl _ _).grown k2.out hB (fun j hj => ?_))
    rcases k3.out with h3 | ⟨k', h3, h4⟩
    · rw [h3] at hj; cases hj
    · rw [h3] at hj; cases hj; exact h4

theorem bytes_empty (w : World) (t : Nat) (B : Nat) (hB : B ≤ w.heap.size) (ht : t = 5) : Bytes B (w.alloc (.cells #[] t)) (.slice (some ⟨w.heap.size, 0, none⟩) 0 0) [] := by
  subst ht
  exact ⟨rfl, .inr ⟨w.heap.size, 0, #[], rfl, hB, heap_alloc_new _ _, Nat.le_refl _, Nat.zero_le _, rfl, rfl⟩⟩

set_option maxRecDepth 100000 in
set_option maxHeartbeats 1000000 in
theorem clone_any (v : Value) (bs : List Int) (w : World) (hr : Rd w v bs) (hl : bs.length ≤ 100000) :
    Calls Tryd.prog 48 #[v] w fun e w' => ∃ v', e = .returned v' ∧ Bytes w.heap.size w' v' bs ∧ Below w.heap.size w w' := by
  have HR := Lib.hid hr
  rcases hr with ⟨rfl, rfl⟩ | ⟨b, off, cap, rfl, g1, g2, g3⟩
  · have hq : ∀ w, (binOp .eql 31 (.slice none 0 0) (.slice none 0 0)).run Tryd.prog w = .ok (.bool true) w := fun w => Lib.run_eql_slice_nil w 31 5 none 0 0 0 0 Tryd.underlying31
    go_enter Tryd.func48, Tryd.ntmps48
    go_wp2_with fail
    go_ret
    exact ⟨_, rfl, World.ownsRow_nil _ _ _ _, Below.refl _ _⟩
  · clear g1 g2 g3
    have hq : ∀ w, (binOp .eql 31 (.slice (some ⟨b, off, none⟩) bs.length cap) (.slice none 0 0)).run Tryd.prog w = .ok (.bool false) w := fun w => Lib.run_eql_slice_nil w 31 5 _ _ _ 0 0 Tryd.underlying31
    go_enter Tryd.func48, Tryd.ntmps48
    go_wp2_with (at_builtin; refine wpList_appendR rfl (.tmp 5) (.tmp 6) rfl w.heap.size _ _ [] bs rfl (bytes_empty w 5 _ (Nat.le_refl _) rfl) rfl (HR.out.below ((Below.refl _ _).alloc (Nat.le_refl _) _)) (by simp) hl (by simp) ?_; intro v' w2 h1 h2)
    go_ret
    exact ⟨v', rfl, h1.out, ((Below.refl _ _).alloc (Nat.le_refl _) _).trans h2.out⟩

theorem zeroCells_take (z : Array Value) (n : Nat) : ((Builtin.zeroCells z n).toList.take 0) = [] := by simp

set_option maxRecDepth 100000 in
set_option maxHeartbeats 1000000 in
/-- Room for so many. -/
theorem grow_any (n : Nat) (w : World) (hn : n ≤ 400000) :
    Calls Tryd.prog 45 #[.slice none 0 0, .int .i64 n] w fun e w' => ∃ v', e = .returned v' ∧ Bytes w.heap.size w' v' [] ∧ Below w.heap.size w w' := by
  obtain ⟨i0, hi, hz0, hz1, hz2⟩ := info_parts Tryd.info5
  by_cases h0 : n = 0
  · subst h0
    go_enter Tryd.func45, Tryd.ntmps45
    go_wp2_with fail
    go_ret
    exact ⟨_, rfl, World.ownsRow_nil _ _ _ _, Below.refl _ _⟩
  · have hpos : (0 : Int) < n := by omega
    have hrun := fun w => Lib.run_append_nil_zeros (P := Tryd.prog) w 31 3 31 5 i0 (.int .u8 0) .i64 .i64 Tryd.underlying31 Tryd.underlying3 hi hz0 n (by omega) (by omega) (by omega) (by rw [hz2]; omega)
    have HRUN := Lib.hid hrun
    have hcap : n ≤ grownCap w n 0 5 ∧ grownCap w n 0 5 ≤ maxLen := ⟨grownCap_ge _ _ _ _, grownCap_le_maxLen _ _ _ _ (by unfold maxLen; omega)⟩
    have HC := Lib.hid hcap
    have H0 := Lib.hid h0
    clear hrun hcap h0
    go_enter Tryd.func45, Tryd.ntmps45
    go_wp2_with (at_builtin; refine Lib.wpList_append_run _ rfl (.tmp 20) (.tmp 21) 31 3 rfl _ _ rfl rfl _ _ (HRUN.out _) ?_; go_frame)
    go_ret
    refine ⟨_, rfl, ?_, ((Below.refl _ _).drew).alloc (Nat.le_refl _) _⟩
    refine ⟨rfl, .inr ⟨w.heap.size, grownCap w n 0 5, _, rfl, Nat.le_refl _, heap_alloc_new w.drew _, Nat.zero_le _, HC.out.2, ?_, by simp⟩⟩
    have := HC.out.1
    simp [size_zeroCells]
    omega
end Go.Proofs.YtcahlponmbnkcaaDoor
