/- BPDU: the first bytes of a kind, gathered by a loop over a map in whatever order. -/
import Derived.Test.YtcahlponmbnkcaaDoorB2
import Derived.Deep.DeepCutAuto
namespace Go.Proofs.YtcahlponmbnkcaaDoor
open Go Go.RowKit

theorem lays_pushL {w w2 : World} {g g' cap n : Nat} {v : Value} {xs : List Value} {bs ys : List Int} (B : Nat) (hB : B ≤ g)
    (hv : w.heap[g]? = some (.cells #[v] 31 (0, 0))) (hown : w.ownsRow (g + 1) 5 1 v n xs) (hn : n = bs.length) (hxs : xs = bs.map (Value.int .u8))
    (w1 : World) (hb1 : Below w.heap.size w w1)
    (hown' : w2.ownsRow (g + 1) 5 1 (.slice (some ⟨g', 0, none⟩) (n + ys.length) cap) (n + ys.length) (xs ++ ys.map (Value.int .u8))) (hgrow : w1.grownBy w2 v.ownBlock) :
    Lays (w2.setCell ⟨g, 0, none⟩ (.slice (some ⟨g', 0, none⟩) (n + ys.length) cap)) g (bs ++ ys) ∧ Below B w (w2.setCell ⟨g, 0, none⟩ (.slice (some ⟨g', 0, none⟩) (n + ys.length) cap)) ∧ w2.cell? ⟨g, 0, none⟩ = some v ∧ w2.frozen? ⟨g, 0, none⟩ = false := by
  have hlt := lt_of_block hv
  have hv1 : w1.heap[g]? = some (.cells #[v] 31 (0, 0)) := (hb1.block g hlt).trans hv
  have hne : some g ≠ v.ownBlock := fun e => by have := (hown.lt g e.symm).1; omega
  have hv2 : w2.heap[g]? = some (.cells #[v] 31 (0, 0)) := (hgrow.block g (lt_of_block hv1) hne).trans hv1
  subst hn hxs
  refine ⟨⟨_, one_setCell hv2, ?_⟩, ?_, cell_of_one hv2, free_of_one hv2⟩
  · have := ownsRow_setCell_below hown' (a := ⟨g, 0, none⟩) (Nat.lt_succ_self g) (.slice (some ⟨g', 0, none⟩) (bs.length + ys.length) cap)
    simpa using this
  · refine Below.setCell ?_ hB _
    exact (hb1.mono (by omega)).trans ((Below.refl B w1).grown hgrow (by have := hb1.size; omega) (fun k hk => by have := (hown.lt k hk).1; omega))

/-- 'b = append(b, ys...)', b a captured variable. 'keep': what else of wr is kept: a block that is not b's row. -/
theorem step_pushL {ops : Array Oper} {o : Oper} {a : Act} {w : World} {K : Act → World → Prop} {Q : Exit → Act → World → Prop} {E : Prop} (hgd : o.guard = none) (s y : Operand)
    (ho : o.op = .call { callee := .builtin .append, args := #[s, y], argTypes := #[31, 31] })
    {wr : World} {g : Nat} {v : Value} {bs : List Int} (ys : List Int) (b c : Nat) (hs : a.eval s = v) (hy : a.eval y = .slice (some ⟨b, 0, none⟩) ys.length c)
    (hv : wr.heap[g]? = some (.cells #[v] 31 (0, 0))) (hown : wr.ownsRow (g + 1) 5 1 v bs.length (bs.map (Value.int .u8))) (hlen : bs.length ≤ 2000) (hys : 0 < ys.length ∧ ys.length ≤ 2000)
    (hb : Below wr.heap.size wr w) (hx : ∀ j u, (ys.map (Value.int .u8))[j]? = some u → w.cell? ((⟨b, 0, none⟩ : Addr).add j) = some u)
    (h : ∀ g' cap w', w'.cell? ⟨g, 0, none⟩ = some v → w'.frozen? ⟨g, 0, none⟩ = false →
      Hid (Lays (w'.setCell ⟨g, 0, none⟩ (.slice (some ⟨g', 0, none⟩) (bs.length + ys.length) cap)) g (bs ++ ys)) → Hid (Below g wr (w'.setCell ⟨g, 0, none⟩ (.slice (some ⟨g', 0, none⟩) (bs.length + ys.length) cap))) →
      Hid (w.grownBy w' v.ownBlock) → K (a.put o.dst (.slice (some ⟨g', 0, none⟩) (bs.length + ys.length) cap)) w') :
    if Region.wanted o (yielded ops a.tmps) = true then Oper.wp Tryd.prog o a w K Q else E := by
  obtain ⟨i0, hi, hz0, hz1, hz2⟩ := info_parts Tryd.info5
  have hg := lt_of_block hv
  have hown1 : w.ownsRow (g + 1) 5 1 v bs.length (bs.map (Value.int .u8)) :=
    hown.kept ⟨hb.os, hb.tape, hb.output, hb.size, fun k hk _ => hb.block k hk⟩ (row := none) (by cases v.ownBlock <;> simp)
  refine step_append_lies w hgd s y 31 ho (g + 1) 5 i0 (.int .u8 0) 1 1 Tryd.underlying31 hi hz0 hz1 hz2 rfl (by decide) v _ _ hs hown1 ⟨b, 0, none⟩ ys.length c (ys.map (Value.int .u8)) hy (by simp) hx ?_ hys.1 ?_ ?_ ?_ _ rfl ?_
  · intro u hu
    obtain ⟨_, _, rfl⟩ := List.mem_map.1 hu
    rfl
  · unfold maxLen; omega
  · omega
  · have := hb.size; omega
  · intro g' cap w' hown' hgrow _ _
    obtain ⟨h1, h2, h3, h4⟩ := lays_pushL g (Nat.le_refl _) hv hown rfl rfl w hb hown' hgrow
    exact h g' cap w' h3 h4 h1 h2 hgrow

/-- A kind's first bytes. -/
def hd (k : Int) : List Int := if k = 1 then [0, 0, 0, 0] else if k = 2 then [0, 0, 0, 128] else if k = 3 then [0, 0, 2, 2] else []

theorem heads_entry {es : Array MapEntry} (h : es ∈ headsEs) {e : MapEntry} (he : e ∈ es.toList) : ∃ c d kv : Int, e.key = key4 0 0 c d ∧ e.val = .int .i64 kv ∧ hd kv = [0, 0, c, d] := by
  simp only [headsEs, List.mem_cons, List.not_mem_nil, or_false] at h
  rcases h with rfl | rfl | rfl | rfl | rfl | rfl <;>
    (simp only [List.mem_cons, List.not_mem_nil, or_false] at he
     rcases he with rfl | rfl | rfl <;> exact ⟨_, _, _, rfl, rfl, rfl⟩)

def cur (es : Array MapEntry) (seen : Array Nat) (k : Int) : List Int := if es.toList.any (fun e => seen.contains e.born && decide (intOf e.val = k)) then hd k else []

theorem cur_hit {es : Array MapEntry} (h : es ∈ headsEs) {e : MapEntry} {seen : Array Nat} (he : e ∈ (leftOf es seen).toList) {k : Int} (hk : intOf e.val = k) :
    cur es seen k = [] ∧ cur es (seen.push e.born) k = hd k := by
  obtain ⟨h1, h2⟩ := mem_left he
  subst hk
  simp only [headsEs, List.mem_cons, List.not_mem_nil, or_false] at h
  rcases h with rfl | rfl | rfl | rfl | rfl | rfl <;>
    (simp only [List.mem_cons, List.not_mem_nil, or_false] at h1
     rcases h1 with rfl | rfl | rfl <;> simp [cur, intOf] at h2 ⊢ <;> exact fun h => absurd h h2)

theorem cur_miss {es : Array MapEntry} (h : es ∈ headsEs) {e : MapEntry} {seen : Array Nat} (he : e ∈ (leftOf es seen).toList) {k : Int} (hk : intOf e.val ≠ k) :
    cur es (seen.push e.born) k = cur es seen k := by
  obtain ⟨h1, h2⟩ := mem_left he
  simp only [headsEs, List.mem_cons, List.not_mem_nil, or_false] at h
  rcases h with rfl | rfl | rfl | rfl | rfl | rfl <;>
    (simp only [List.mem_cons, List.not_mem_nil, or_false] at h1
     rcases h1 with rfl | rfl | rfl <;> simp [cur, intOf] at h2 hk ⊢ <;> simp [hk])

theorem cur_end {es : Array MapEntry} (h : es ∈ headsEs) {seen : Array Nat} (h0 : (leftOf es seen).size = 0) {k : Int} (hk : k = 1 ∨ k = 2 ∨ k = 3) : cur es seen k = hd k := by
  have hall : ∀ e ∈ es.toList, seen.contains e.born = true := by
    intro e he
    cases hc : seen.contains e.born with
    | true => rfl
    | false =>
      have : e ∈ leftOf es seen := Array.mem_filter.2 ⟨Array.mem_toList_iff.1 he, by rw [hc]; rfl⟩
      have := Array.size_pos_of_mem this
      omega
  simp only [headsEs, List.mem_cons, List.not_mem_nil, or_false] at h
  rcases h with rfl | rfl | rfl | rfl | rfl | rfl <;>
    (simp at hall
     rcases hk with rfl | rfl | rfl <;> simp [cur, intOf, hall])

theorem cur_nil {es : Array MapEntry} (k : Int) : cur es #[] k = [] := by simp [cur]

theorem heads_born {es : Array MapEntry} (h : es ∈ headsEs) : (∀ x ∈ es.toList, x.born < 3) ∧ (es.toList.map (·.born)).Nodup := by
  simp only [headsEs, List.mem_cons, List.not_mem_nil, or_false] at h
  rcases h with rfl | rfl | rfl | rfl | rfl | rfl <;> simp
end Go.Proofs.YtcahlponmbnkcaaDoor
