/- BPDU: laying numbers as bytes: the closure that appends to a captured slice. -/
import Derived.Test.YtcahlponmbnkcaaDoorA1
import Derived.Deep.AppendLies
import Derived.Deep.RegionLaw
import Derived.OneCell
namespace Go.Proofs.YtcahlponmbnkcaaDoor
open Go Go.RowKit

/-- A number's bytes, the highest first. -/
def beI (n : Int) (many : Nat) : List Int := (List.range many).map fun i => n / 2 ^ (8 * (many - 1 - i)) % 256

theorem beI_len (n : Int) (many : Nat) : (beI n many).length = many := by simp [beI]
theorem beI_take_succ (n : Int) (many t : Nat) (h : t < many) : (beI n many).take (t + 1) = (beI n many).take t ++ [n / 2 ^ (8 * (many - 1 - t)) % 256] := by
  rw [List.take_succ_eq_append_getElem (by rw [beI_len]; exact h)]
  simp [beI]

/-- A captured variable (block g) that holds a slice of the call's own, which reads as these bytes; its row lies behind g. -/
def Lays (w : World) (g : Nat) (bs : List Int) : Prop :=
  ∃ v, w.heap[g]? = some (.cells #[v] 31 (0, 0)) ∧ w.ownsRow (g + 1) 5 1 v bs.length (bs.map (Value.int .u8))

theorem Tryd.info5 : (Tryd.prog.info? 5).map (fun i => (i.zero, i.size, i.bytes)) = some (some (.int .u8 0), 1, 1) := by kernel_rfl

/-- What one append does, outside the walk. -/
theorem lays_push {w w2 : World} {g g' cap n : Nat} {v : Value} {xs : List Value} {bs : List Int} {x : Int} (B : Nat) (hB : B ≤ g)
    (hv : w.heap[g]? = some (.cells #[v] 31 (0, 0))) (hown : w.ownsRow (g + 1) 5 1 v n xs) (hn : n = bs.length) (hxs : xs = bs.map (Value.int .u8))
    (w1 : World) (hb1 : Below w.heap.size w w1)
    (hown' : w2.ownsRow (g + 1) 5 1 (.slice (some ⟨g', 0, none⟩) (n + 1) cap) (n + 1) (xs ++ [.int .u8 x])) (hgrow : w1.grownBy w2 v.ownBlock) :
    Lays (w2.setCell ⟨g, 0, none⟩ (.slice (some ⟨g', 0, none⟩) (n + 1) cap)) g (bs ++ [x]) ∧ Below B w (w2.setCell ⟨g, 0, none⟩ (.slice (some ⟨g', 0, none⟩) (n + 1) cap)) ∧ w2.cell? ⟨g, 0, none⟩ = some v ∧ w2.frozen? ⟨g, 0, none⟩ = false := by
  have hlt := lt_of_block hv
  have hv1 : w1.heap[g]? = some (.cells #[v] 31 (0, 0)) := (hb1.block g hlt).trans hv
  have hne : some g ≠ v.ownBlock := fun e => by have := (hown.lt g e.symm).1; omega
  have hv2 : w2.heap[g]? = some (.cells #[v] 31 (0, 0)) := (hgrow.block g (lt_of_block hv1) hne).trans hv1
  subst hn hxs
  refine ⟨⟨_, one_setCell hv2, ?_⟩, ?_, cell_of_one hv2, free_of_one hv2⟩
  · have := ownsRow_setCell_below hown' (a := ⟨g, 0, none⟩) (Nat.lt_succ_self g) (.slice (some ⟨g', 0, none⟩) (bs.length + 1) cap)
    simpa using this
  · refine Below.setCell ?_ hB _
    exact (hb1.mono (by omega)).trans ((Below.refl B w1).grown hgrow (by have := hb1.size; omega) (fun k hk => by have := (hown.lt k hk).1; omega))

/-- 'b = append(b, x)', b a captured variable: the append as one step of a region. -/
theorem step_push {ops : Array Oper} {o : Oper} {a : Act} {w : World} {K : Act → World → Prop} {Q : Exit → Act → World → Prop} {E : Prop} (hgd : o.guard = none) (s y : Operand)
    (ho : o.op = .call { callee := .builtin .append, args := #[s, y], argTypes := #[31, 31] })
    {wr : World} {g : Nat} {v : Value} {bs : List Int} {x : Int} (b : Nat) (hs : a.eval s = v) (hy : a.eval y = .slice (some ⟨b, 0, none⟩) 1 1)
    (hv : wr.heap[g]? = some (.cells #[v] 31 (0, 0))) (hown : wr.ownsRow (g + 1) 5 1 v bs.length (bs.map (Value.int .u8))) (hlen : bs.length ≤ 2000)
    (hb : Below wr.heap.size wr w) (hx : w.cell? ⟨b, 0, none⟩ = some (.int .u8 x))
    (h : ∀ g' cap w', w'.cell? ⟨g, 0, none⟩ = some v → w'.frozen? ⟨g, 0, none⟩ = false →
      Hid (Lays (w'.setCell ⟨g, 0, none⟩ (.slice (some ⟨g', 0, none⟩) (bs.length + 1) cap)) g (bs ++ [x])) → Hid (Below g wr (w'.setCell ⟨g, 0, none⟩ (.slice (some ⟨g', 0, none⟩) (bs.length + 1) cap))) →
      K (a.put o.dst (.slice (some ⟨g', 0, none⟩) (bs.length + 1) cap)) w') :
    if Region.wanted o (yielded ops a.tmps) = true then Oper.wp Tryd.prog o a w K Q else E := by
  obtain ⟨i0, hi, hz0, hz1, hz2⟩ := info_parts Tryd.info5
  have hg := lt_of_block hv
  have hown1 : w.ownsRow (g + 1) 5 1 v bs.length (bs.map (Value.int .u8)) :=
    hown.kept ⟨hb.os, hb.tape, hb.output, hb.size, fun k hk _ => hb.block k hk⟩ (row := none) (by cases v.ownBlock <;> simp)
  refine step_append_lies w hgd s y 31 ho (g + 1) 5 i0 (.int .u8 0) 1 1 Tryd.underlying31 hi hz0 hz1 hz2 rfl (by decide) v _ _ hs hown1 ⟨b, 0, none⟩ 1 1 [.int .u8 x] hy rfl ?_ ?_ (by decide) ?_ ?_ ?_ _ rfl ?_
  · intro j u hj
    match j, hj with
    | 0, hj => simp at hj; subst hj; simpa [Addr.add] using hx
    | j + 1, hj => simp at hj
  · intro u hu; simp at hu; subst hu; rfl
  · unfold maxLen; omega
  · omega
  · have := hb.size; omega
  · intro g' cap w' hown' hgrow _ _
    obtain ⟨h1, h2, h3, h4⟩ := lays_push g (Nat.le_refl _) hv hown rfl rfl w hb hown' hgrow
    exact h g' cap w' h3 h4 h1 h2

theorem wrap8 (n : Int) : IntKind.u8.wrap n = n % 256 := by simp [IntKind.wrap, IntKind.bits, IntKind.signed]

set_option maxRecDepth 100000 in
set_option maxHeartbeats 1000000 in
theorem lay_any (n : Int) (many g : Nat) (bs : List Int) (w : World) (_hn : 0 ≤ n) (hm : many ≤ 8) (hbs : bs.length ≤ 1000) (hl : Lays w g bs) :
    Calls Tryd.prog 21 #[.int .u64 n, .int .i64 many, .pointer (some ⟨g, 0, none⟩)] w fun e w' => e = .returned (.tuple #[]) ∧ Lays w' g (bs ++ beI n many) ∧ Below g w w' := by
  obtain ⟨i0, hi, hz0, hz1, hz2⟩ := info_parts Tryd.info5
  go_enter Tryd.func21, Tryd.ntmps21
  go_wp2_with fail
  go_loopw [5] (fun k wr => ∃ t : Nat, t ≤ many ∧ k = .int .i64 (8 * ((many : Int) - 1 - t)) ∧ Lays wr g (bs ++ (beI n many).take t) ∧ Below g w wr)
    (fun k _ => (intOf k + 8).toNat)
  case atStart => exact ⟨0, Nat.zero_le _, by go_num, by simpa using hl, Below.refl _ _⟩
  case round =>
    obtain ⟨t, ht, rfl, hlr, hb⟩ := hrel
    by_cases hlt : t < many
    · obtain ⟨v, hv, hown⟩ := hlr
      have hc := cell_of_one hv
      have hf := free_of_one hv
      have hgl := lt_of_block hv
      have hk0 : 0 ≤ 8 * ((many : Int) - 1 - t) := by omega
      have hlen : (bs ++ (beI n many).take t).length ≤ 2000 := by simp [beI_len]; omega
      have HX : Hid (bs ++ (beI n many).take (t + 1) = bs ++ (beI n many).take t ++ [IntKind.u8.wrap (n / 2 ^ (8 * ((many : Int) - 1 - t)).toNat)]) := by
        show bs ++ (beI n many).take (t + 1) = _
        rw [beI_take_succ n many t hlt, wrap8, show (8 * ((many : Int) - 1 - t)).toNat = 8 * (many - 1 - t) from by omega, List.append_assoc]
      generalize hbs' : bs ++ (beI n many).take t = bs' at *
      clear hbs'
      go_wp2_with fail
      go_region_law (refine step_push rfl (.tmp 13) (.tmp 18) rfl wr.heap.size (by simp [Act.eval]) (by simp [Act.eval]) hv hown hlen (by exact ((Below.refl _ wr).drew).alloc (Nat.le_refl _) _) (by simp [go_sem]; rfl) ?_; intro g' cap w' h1 h2 h3 h4)
      all_goals
        go_wp2
        go_roundw
        case rel => exact ⟨t + 1, by omega, by go_num, by rw [HX.out]; exact h3.out, hb.trans h4.out⟩
        case measure => simp [intOf]; omega
    · have hge : decide (0 ≤ 8 * ((many : Int) - 1 - t)) = false := by simp; omega
      go_wp2_with fail
      go_end0
      obtain rfl : t = many := by omega
      rw [List.take_of_length_le (by rw [beI_len]; exact Nat.le_refl _)] at hlr
      exact ⟨rfl, hlr, hb⟩
end Go.Proofs.YtcahlponmbnkcaaDoor
