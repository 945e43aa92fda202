/- BPDU: the document's laying of a number. -/
import Derived.Test.YtcahlponmbnkcaaDoorB4
namespace Go.Proofs.YtcahlponmbnkcaaDoor
open Go Go.RowKit

/-- The row after t rounds: the last t bytes are laid. -/
def Tail (cs : List Int) (n : Int) (many t : Nat) : Prop := cs.length = many ∧ ∀ j, many - t ≤ j → j < many → cs.getD j 0 = (beI n many).getD j 0

theorem tail_end {cs : List Int} {n : Int} {many : Nat} (h : Tail cs n many many) : cs = beI n many := by
  obtain ⟨h1, h2⟩ := h
  refine List.ext_getElem (by rw [h1, beI_len]) fun j hj hj' => ?_
  have := h2 j (by omega) (by omega)
  simpa [List.getD, List.getElem?_eq_getElem hj, List.getElem?_eq_getElem hj'] using this

theorem beI_getD (n : Int) (many j : Nat) (h : j < many) : (beI n many).getD j 0 = n / 2 ^ (8 * (many - 1 - j)) % 256 := by
  simp [beI, h]

theorem tail_step {cs : List Int} {n : Int} {many t : Nat} (ht : t < many) (h : Tail cs n many t) : Tail (cs.set (many - 1 - t) (n / 2 ^ (8 * t) % 256)) n many (t + 1) := by
  obtain ⟨h1, h2⟩ := h
  refine ⟨by simp [h1], fun j hj hjm => ?_⟩
  rcases Nat.lt_or_ge j (many - t) with hlt | hge
  · have e : j = many - 1 - t := by omega
    subst e
    rw [beI_getD _ _ _ (by omega)]
    simp only [List.getD, List.getElem?_set]
    rw [if_pos trivial, if_pos (by omega)]
    simp only [Option.getD_some]
    rw [show many - 1 - (many - 1 - t) = t from by omega]
  · have := h2 j hge hjm
    simp only [List.getD, List.getElem?_set]
    rw [if_neg (by omega)]
    simpa [List.getD] using this

theorem div_step (n : Int) (t : Nat) : n / 2 ^ (8 * t) / 256 = n / 2 ^ (8 * (t + 1)) := by
  rw [show (256 : Int) = 2 ^ 8 from rfl, Int.ediv_ediv_of_nonneg (by exact Int.le_of_lt (Int.pow_pos (by decide))), ← Int.pow_add, Nat.mul_add]

theorem wrap_div (x : Int) (h0 : 0 ≤ x) (h1 : x < 18446744073709551616) : IntKind.u64.wrap (x.tdiv 256) = x / 256 := by
  rw [Int.tdiv_eq_ediv_of_nonneg h0]
  simp [IntKind.wrap, IntKind.bits, IntKind.signed]
  omega

theorem zeros_cells (many : Nat) : (madeCells (Value.int .u8 0).cells (many * 1)).toList = (List.replicate many (0 : Int)).map (Value.int .u8) := by
  simp only [madeCells, Value.cells, Nat.mul_one]
  apply List.ext_getElem
  · simp
  · intro j h1 h2
    simp [Nat.mod_one]

/-- 'append(b, ys...)', b the call's own: the law at the operation. -/
theorem wpList_appendB {w : World} {ops : Array Oper} {rest : List Oper} {o : Oper} {a : Act} {Q : Exit → Act → World → Prop} (hg : o.guard = none) (s x : Operand)
    (hop : o.op = Op.call { callee := Callee.builtin Builtin.append, args := #[s, x], argTypes := #[31, 31] }) (B : Nat) (v : Value) (bs ys : List Int) (hs : a.eval s = v) (hown : Hid (Bytes B w v bs))
    (ad : Addr) (m c : Nat) (hx : a.eval x = .slice (some ad) m c) (hm : m = ys.length) (hc : ∀ j u, (ys.map (Value.int .u8))[j]? = some u → w.cell? (ad.add j) = some u) (h1 : bs.length ≤ 100000) (h2 : ys.length ≤ 100000) (hB : B ≤ w.heap.size)
    (hK : ∀ v' w', Hid (Bytes B w' v' (bs ++ ys)) → Hid (w.grownBy w' v.ownBlock) → Hid (v.ownBlock = none ∨ ∃ k, v.ownBlock = some k ∧ B ≤ k) → wpList Tryd.prog ops Q rest (a.put o.dst v') w') :
    wpList Tryd.prog ops Q (o :: rest) a w := by
  obtain ⟨i0, hi, hz0, hz1, hz2⟩ := info_parts Tryd.info5
  subst hm
  refine wpList_append_own w hg s x 31 hop B 5 i0 (.int .u8 0) 1 1 Tryd.underlying31 hi hz0 hz1 hz2 rfl (by decide) v bs.length (bs.map (Value.int .u8)) hs hown ad ys.length c (ys.map (Value.int .u8)) hx (by simp) hc ?_ (by unfold maxLen; omega) (by omega) hB ?_
  · intro u hu
    obtain ⟨_, _, rfl⟩ := List.mem_map.1 hu
    rfl
  · intro v' w' hown' hgrow _
    refine hK v' w' ?_ hgrow ?_
    · show w'.ownsRow _ _ _ _ _ _
      simpa using hown'
    · show _ ∨ _
      cases hb : v.ownBlock with
      | none => exact .inl rfl
      | some k => exact .inr ⟨k, rfl, (hown.out.lt k hb).1⟩

theorem cells_row {w : World} {G : Nat} {cs : List Int} {t : TypeId} {fr : Nat × Nat} (h : w.heap[G]? = some (.cells (cs.map (Value.int .u8)).toArray t fr)) : ∀ j u, (cs.map (Value.int .u8))[j]? = some u → w.cell? ((⟨G, 0, none⟩ : Addr).add j) = some u := fun j u hu =>
  World.news_of_block h j u (by simpa using hu)

set_option maxRecDepth 100000 in
set_option maxHeartbeats 1000000 in
theorem refLay_any (n : Int) (many B : Nat) (bs : List Int) (v : Value) (w : World) (hn : 0 ≤ n) (HN2 : Hid (n < 18446744073709551616)) (hm : many ≤ 8) (hm0 : 0 < many) (hbs : bs.length ≤ 1000) (hB : B ≤ w.heap.size) (hl : Bytes B w v bs) :
    Calls Tryd.prog 23 #[v, .int .u64 n, .int .i64 many] w fun e w' => ∃ v', e = .returned v' ∧ Bytes B w' v' (bs ++ beI n many) ∧ Below B w w' := by
  obtain ⟨i0, hi, hz0, hz1, hz2⟩ := info_parts Tryd.info5
  have HV := Lib.hid hl
  clear hl
  go_enter Tryd.func23, Tryd.ntmps23
  go_wp2_with (at_make; refine wpList_make_full _ rfl _ _ 31 rfl w.heap.size 5 i0 (.int .u8 0) 1 Tryd.underlying31 hi hz0 hz1 .i64 .i64 many many many rfl rfl rfl rfl (by rw [hz2]; omega) (by unfold maxLen; omega) (Nat.le_refl _) ?_; intro w1 hown1 hgrow1)
  have hrow : w1.heap[w.heap.size]? = some (.cells ((List.replicate many (0 : Int)).map (Value.int .u8)).toArray 5 (0, 0)) := by
    obtain ⟨h1, h2⟩ := hown1
    rcases h2 with ⟨h2, _⟩ | ⟨g, cap, cur, hv, _, hg, _, _, hsz, htk⟩
    · cases h2
    · cases hv
      rw [hg]
      rw [List.take_of_length_le (by simp [hsz]), zeros_cells] at htk
      rw [← htk]
  have HR := Lib.hid hrow
  have HG : Hid (Below w.heap.size w w1) := (Below.refl _ _).grown hgrow1 (Nat.le_refl _) (fun k hk => by cases hk)
  clear hrow hown1 hgrow1
  obtain ⟨G, hG⟩ : ∃ G, G = w.heap.size := ⟨_, rfl⟩
  rw [← hG] at HR HG hB ⊢
  have HGw := Lib.hid hG
  clear hG
  go_loopw [1, 8] (fun nv iv wr => ∃ (t : Nat) (cs : List Int), t ≤ many ∧ nv = .int .u64 (n / 2 ^ (8 * t)) ∧ iv = .int .i64 ((many : Int) - 1 - t) ∧ Tail cs n many t ∧ wr.heap[G]? = some (.cells (cs.map (Value.int .u8)).toArray 5 (0, 0)) ∧ Below G w wr)
    (fun _ iv _ => (intOf iv + 1).toNat)
  case atStart => exact ⟨0, _, Nat.zero_le _, by simp, by simp, ⟨by simp, fun j h1 h2 => by omega⟩, HR.out, HG.out⟩
  case round =>
    obtain ⟨t, cs, ht, rfl, rfl, htl, hrow, hb⟩ := hrel
    by_cases hlt : t < many
    · obtain ⟨i, hi⟩ : ∃ i : Nat, i + 1 + t = many := ⟨many - 1 - t, by omega⟩
      rw [show ((many : Int) - 1 - t) = ((i : Nat) : Int) from by omega]
      have hcs : i < cs.length := by rw [htl.1]; omega
      have hcell : wr.cell? ⟨G, i, none⟩ = some (.int .u8 (cs.getD i 0)) := by
        rw [cell_of_row _ _ i _ _ _ hrow]; simp [hcs]
      obtain ⟨ci, hci⟩ : ∃ ci, ci = cs.getD i 0 := ⟨_, rfl⟩
      rw [← hci] at hcell
      have hfr : wr.frozen? ⟨G, i, none⟩ = false := by unfold World.frozen?; rw [hrow]; simp
      have HI := Lib.hid hi
      have hn0 : 0 ≤ n / 2 ^ (8 * t) := Int.ediv_nonneg hn (Int.le_of_lt (Int.pow_pos (by decide)))
      have him : i < many := by omega
      have HTL := Lib.hid htl
      have HROW := Lib.hid hrow
      clear hi hcs htl hrow hci
      go_wp2_with fail
      go_roundw
      case rel =>
        refine ⟨t + 1, cs.set i (n / 2 ^ (8 * t) % 256), by omega, ?_, congrArg (Value.int .i64) (by have := HI.out; omega), ?_, ?_, hb.setCell (Nat.le_refl _) _⟩
        · exact congrArg (Value.int .u64) ((wrap_div _ hn0 (Int.lt_of_le_of_lt (Int.ediv_le_self _ hn) HN2.out)).trans (div_step n t))
        · have := tail_step hlt HTL.out
          rwa [show many - 1 - t = i from by have := HI.out; omega] at this
        · have := heap_setCell_same wr G i _ _ (.int .u8 (n / 2 ^ (8 * t) % 256)) HROW.out
          simpa using this
      case measure => simp [intOf] <;> omega
    · obtain rfl : t = many := by omega
      have hbe := tail_end htl
      subst hbe
      have hB1 : B ≤ wr.heap.size := by have := lt_of_block hrow; omega
      have HV1 : Hid (Bytes B wr v bs) := HV.out.kept (row := none) ⟨hb.os, hb.tape, hb.output, hb.size, fun k hk _ => hb.block k (by have := HGw.out; omega)⟩ (by cases v.ownBlock <;> simp)
      have HROW := Lib.hid hrow
      have hbl : (beI n t).length ≤ 100000 := by rw [beI_len]; omega
      clear hrow htl
      go_wp2_with (at_builtin; refine wpList_appendB rfl _ _ rfl B v bs (beI n t) rfl HV1 ⟨G, 0, none⟩ t t rfl (beI_len n t).symm (cells_row HROW.out) (by omega) hbl hB1 ?_; intro v' w2 h1 h2 h3)
      go_ret
      refine ⟨v', rfl, h1.out, ?_⟩
      refine (hb.mono (by omega)).trans ((Below.refl _ _).grown h2.out hB1 (fun k hk => ?_))
      rcases h3.out with h3 | ⟨k', h3, h4⟩
      · rw [h3] at hk; cases hk
      · rw [h3] at hk; cases hk; exact h4
end Go.Proofs.YtcahlponmbnkcaaDoor
