/- ether: what is laid behind the addresses. -/
import Derived.Test.YtcahlponmbnkcaaDoorV1
namespace Go.Proofs.YtcahlponmbnkcaaDoor
open Go Go.RowKit

set_option maxRecDepth 100000 in
set_option maxHeartbeats 1000000 in
theorem words_any (n : Int) (w : World) (h0 : 0 ≤ n) (h1 : n ≤ 1500) :
    Calls Tryd.prog 30 #[.int .i64 n] w fun e w' => ∃ v, e = .returned v ∧ Rd w' v [n / 256, n % 256] ∧ Below w.heap.size w w' := by
  go_enter Tryd.func30, Tryd.ntmps30
  go_wp2_with fail
  go_ret
  refine ⟨_, rfl, .inr ⟨w.heap.size, 0, 2, rfl, Nat.le_refl _, by decide, fun j u hu => ?_⟩, (Below.refl _ _).alloc (Nat.le_refl _) _⟩
  rw [World.cell?_alloc_at _ _ _ _ rfl]
  match j, hu with
  | 0, hu => exact hu
  | 1, hu => exact hu
  | j + 2, hu => cases hu

set_option maxRecDepth 100000 in
set_option maxHeartbeats 1000000 in
theorem word_any (v : Value) (x y : Int) (w : World) (hr : Rd w v [x, y]) (hx0 : 0 ≤ x) (hx1 : x < 256) (hy0 : 0 ≤ y) (hy1 : y < 256) :
    Calls Tryd.prog 36 #[v] w fun e w' => e = .returned (.int .i64 (x * 256 + y)) ∧ Below w.heap.size w w' := by
  obtain ⟨b', off, cap', rfl, hx', hy'⟩ := Rd.two hr
  have hw : IntKind.i64.wrap (x * 256) = x * 256 := by rw [IntKind.wrap_i64]; omega
  have hz : bits BinOp.or IntKind.i64 (x * 256) y = x * 256 + y :=
    bits_join .i64 63 (by decide) (fun n h0 h1 => by rw [IntKind.wrap_i64]; omega) 8 (x * 256) y (by omega) (by omega) (by omega) hy0 (by omega) (by omega)
  clear hr
  go_enter Tryd.func36, Tryd.ntmps36
  go_wp2_with fail
  go_quiet (fail)
  go_wp2_with fail
  go_ret
  exact ⟨rfl, bd (Below.refl _ _)⟩

/-- 'append(b, ys...)', b full and not the call's own. -/
theorem wpList_append_full {w : World} {ops : Array Oper} {rest : List Oper} {o : Oper} {a : Act} {Q : Exit → Act → World → Prop} (hg : o.guard = none) (s x : Operand)
    (hop : o.op = Op.call { callee := Callee.builtin Builtin.append, args := #[s, x], argTypes := #[31, 31] }) (b off n : Nat) (v2 : Value) (bs ys : List Int) (hn : n = bs.length) (hs : a.eval s = .slice (some ⟨b, off, none⟩) n n)
    (hb : Hid (∀ j u, (bs.map (Value.int .u8))[j]? = some u → w.cell? ⟨b, off + j, none⟩ = some u)) (hx : a.eval x = v2) (hr : Hid (Rd w v2 ys)) (h1 : bs.length ≤ 100000) (h2 : ys.length ≤ 100000)
    (hK : ∀ v' w', Hid (Rd w' v' (bs ++ ys)) → Hid (Below w.heap.size w w') → wpList Tryd.prog ops Q rest (a.put o.dst v') w') :
    wpList Tryd.prog ops Q (o :: rest) a w := by
  obtain ⟨i0, hi, hz0, hz1, hz2⟩ := info_parts Tryd.info5
  have same : Hid (Rd w (.slice (some ⟨b, off, none⟩) n n) (bs ++ [])) := by
    subst hn
    exact .inr ⟨b, off, bs.length, by simp, by simp, by unfold maxLen; omega, by simpa using hb.out⟩
  have run : ∃ v' w', (Builtin.append_ #[31, 31] o.type #[.slice (some ⟨b, off, none⟩) n n, v2]).run Tryd.prog w = .ok v' w' ∧ Rd w' v' (bs ++ ys) ∧ Below w.heap.size w w' := by
    by_cases hy : ys = []
    · subst hy
      refine ⟨_, w, ?_, same.out, Below.refl _ _⟩
      rcases hr.out with ⟨rfl, _⟩ | ⟨b2, off2, c2, rfl, _⟩
      · simp [Builtin.append_, run_underlying Tryd.underlying31, sizeOf, typeInfo, hi, Builtin.lenOf, Builtin.firstCells, storeCells]
      · have hf := run_firstCells_some (P := Tryd.prog) w i0.size 0 ⟨b2, off2, none⟩ 0 c2 [] (by simp) (by simp)
        simp [Builtin.append_, run_underlying Tryd.underlying31, sizeOf, typeInfo, hi, Builtin.lenOf, storeCells, hf]
    · rcases hr.out with ⟨_, e⟩ | ⟨b2, off2, c2, rfl, _, _, h3⟩
      · exact absurd e hy
      · have hpos : 0 < ys.length := List.length_pos_iff.2 hy
        have hnx : Builtin.nextslicecap (n + ys.length) n * 1 ≤ 281474976710656 := growslice_fits (by omega) (by omega)
        refine ⟨_, _, run_append_grow w 31 o.type 5 i0 (.int .u8 0) Tryd.underlying31 hi hz0 ⟨b, off, none⟩ n n (bs.map (Value.int .u8)) (by simp [hz1, hn]) (fun j u hu => by rw [Addr.add_lit]; exact hb.out j u hu)
          ⟨b2, off2, none⟩ ys.length c2 (ys.map (Value.int .u8)) (by simp [hz1]) (fun j u hu => by rw [Addr.add_lit]; exact h3 j u hu) (by omega) (by omega) (by rw [hz2]; exact hnx), ?_, ((Below.refl _ _).drew).alloc (Nat.le_refl _) _⟩
        refine .inr ⟨w.heap.size, 0, grownCap w (n + ys.length) n 5, ?_, ?_, grownCap_le_maxLen _ _ _ _ (by unfold maxLen; omega), fun j u hu => ?_⟩
        · simp [hn]
        · simpa [hn] using grownCap_ge w (n + ys.length) n 5
        · have h4 : (w.drew.alloc (.cells ((bs.map (Value.int .u8)).toArray ++ (ys.map (Value.int .u8)).toArray ++ Builtin.zeroCells (Value.cells (.int .u8 0)) (grownCap w (n + ys.length) n 5 - (n + ys.length))) 5)).cell? ⟨w.heap.size, 0 + j, none⟩ = some u := by
            refine (World.cell?_alloc_at _ _ _ _ rfl).trans ?_
            have hj : j < (bs ++ ys).length := by
              by_cases h : j < (bs ++ ys).length
              · exact h
              · rw [List.getElem?_eq_none (by simp at h ⊢; omega)] at hu; cases hu
            rw [Nat.zero_add, Array.getElem?_append_left (by simp at hj ⊢; omega)]
            simpa using hu
          exact h4
  obtain ⟨v', w', hrun, k1, k2⟩ := run
  refine wpList_plain hg fun K hKK => ?_
  unfold Oper.wp
  simp [execOp, hop, resolve, invoke, builtin, hs, hx, hrun, Result.andThen]
  exact hKK _ _ (hK v' w' (Lib.hid k1) (Lib.hid k2))
end Go.Proofs.YtcahlponmbnkcaaDoor
