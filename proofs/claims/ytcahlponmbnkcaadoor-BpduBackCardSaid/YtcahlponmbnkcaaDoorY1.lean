/- BPDU: four variables; an argument of bytes. -/
import Derived.Test.YtcahlponmbnkcaaDoorG1
import Derived.Test.YtcahlponmbnkcaaDoorV1
namespace Go.Proofs.YtcahlponmbnkcaaDoor
open Go Go.RowKit Go.ChangeShapes Go.WideShapes

theorem cells24' : Tryd.prog.cellsOf 24 = 1 := by kernel_rfl
theorem cells91 : Tryd.prog.cellsOf 91 = 1 := by kernel_rfl
theorem cells92 : Tryd.prog.cellsOf 92 = 2 := by kernel_rfl
theorem cells27 : Tryd.prog.cellsOf 27 = 6 := by kernel_rfl
theorem cells31' : Tryd.prog.cellsOf 31 = 1 := by kernel_rfl
theorem und91 : Tryd.prog.underlying 91 = some (.slice 24) := by kernel_rfl
theorem und92 : Tryd.prog.underlying 92 = some (.array 2 91) := by kernel_rfl
theorem gKinds : Tryd.prog.globalNamed "toll/tag.kinds" = some 2 := by kernel_rfl
theorem gEsap : Tryd.prog.globalNamed "toll/ether.sap" = some 3 := by kernel_rfl
theorem tKinds : (Tryd.prog.globals[2]?).map (·.type) = some 92 := by kernel_rfl
theorem tEsap : (Tryd.prog.globals[3]?).map (·.type) = some 30 := by kernel_rfl

theorem addr_none {w : World} {a : Addr} {v : Value} (h : w.cell? a = some v) : a = ⟨a.block, a.off, none⟩ := by
  obtain ⟨b, o, s⟩ := a
  cases s with
  | none => rfl
  | some s =>
    simp only [World.cell?] at h
    split at h <;> simp at h

section
variable {H : Type} {enc : TypeId × Value → H} {w : World} {base : Nat} {sp : Nat → Bool} {held : Bool}

/-- A row of 16-bit numbers, as a variable's slice holds it. -/
theorem words_open {fuel : Nat} {c : Value} {zs : List Int} {q : List MemPlace} (hz : zs ≠ []) (h : DataW.trod enc Tryd.prog w base sp held fuel 91 [c] = some (.slice (lits .u16 zs) [], q)) :
    ∃ b o cap, c = .slice (some ⟨b, o, none⟩) zs.length cap ∧ ∀ i, i < zs.length → w.cell? ⟨b, o + i, none⟩ = some (.int .u16 (zs.getD i 0)) := by
  rcases open_ints und91 Tryd.underlying24 cells24' h with ⟨_, e⟩ | ⟨a, len, cap, ys, e, _, hl, _, hn, ex, hc, _⟩
  · cases e
  · injection ex with ex _
    injection ex with e1 e2
    have hinj : ∀ x y : List Int, (lits .u16 x : List (DataW H)) = lits .u16 y → x = y := by
      intro x
      induction x with
      | nil => intro y hy; cases y with
        | nil => rfl
        | cons a t => simp [lits] at hy
      | cons a t ih => intro y hy; cases y with
        | nil => simp [lits] at hy
        | cons b s =>
          simp only [lits, List.map_cons, List.cons.injEq] at hy
          obtain ⟨h1, h2⟩ := hy
          injection h1 with h1
          injection h1 with _ h1
          rw [h1, ih s h2]
    have e3 : zs = ys.take len := hinj _ _ e1
    have e4 : ([] : List Int) = ys.drop len := hinj [] _ e2
    have hyl : ys.length ≤ len := by
      have := congrArg List.length e4
      simp at this; omega
    have e5 : ys = zs := by rw [e3, List.take_of_length_le hyl]
    have hlen : len = zs.length := by
      have h1 := congrArg List.length e3
      simp at h1
      have : len ≤ ys.length := by rw [hn]; split <;> omega
      omega
    subst e5
    have hp : 0 < ys.length := List.length_pos_iff.2 hz
    have ha := addr_none (hc 0 hp)
    simp only [Addr.add] at ha
    obtain ⟨b, o, s⟩ := a
    have hs : s = none := by
      have := hc 0 hp
      cases s with
      | none => rfl
      | some s =>
        simp only [World.cell?, Addr.add] at this
        split at this <;> simp at this
    subst hs
    simp only [List.cons.injEq, and_true] at e
    refine ⟨b, o, cap, by rw [e, hlen], fun i hi => ?_⟩
    have := hc i hi
    simp only [Addr.add] at this
    split at this
    · rename_i h0; subst h0; exact this
    · exact this

theorem kinds_open {fuel : Nat} {cs : List Value} {q : List MemPlace} (h : DataW.trod enc Tryd.prog w base sp held fuel 92 cs = some (Rows.laid_toll_tag_kinds, q)) :
    ∃ b0 o0 c0 b1 o1 c1, cs = [.slice (some ⟨b0, o0, none⟩) 2 c0, .slice (some ⟨b1, o1, none⟩) 1 c1] ∧
      w.cell? ⟨b0, o0, none⟩ = some (.int .u16 34984) ∧ w.cell? ⟨b0, o0 + 1, none⟩ = some (.int .u16 33024) ∧ w.cell? ⟨b1, o1, none⟩ = some (.int .u16 33024) := by
  obtain ⟨xs, m, _, ex, hl, hxl, hel⟩ := DataW.trod_array und92 h
  rw [cells92] at hl
  obtain ⟨x0, t0, rfl, hl0⟩ := len_succ hl
  obtain ⟨x1, t1, rfl, hl1⟩ := len_succ hl0
  obtain rfl := len_zero hl1
  obtain ⟨y0, u0, rfl, hn0⟩ := len_succ hxl
  obtain ⟨y1, u1, rfl, hn1⟩ := len_succ hn0
  obtain rfl := len_zero hn1
  have h0 := hel 0 (by decide)
  have h1 := hel 1 (by decide)
  rw [cells91] at h0 h1
  simp only [Nat.zero_mul, Nat.one_mul, List.drop_zero, List.drop_succ_cons, List.take_succ_cons, List.take_zero, List.getElem?_cons_zero, List.getElem?_cons_succ] at h0 h1
  injection ex with ex _
  simp only [Rows.laid_toll_tag_kinds, List.map_cons, List.map_nil, DataW.agg.injEq, List.cons.injEq, and_true] at ex
  obtain ⟨e0, e1⟩ := ex
  obtain ⟨y0, p0⟩ := y0
  obtain ⟨y1, p1⟩ := y1
  subst e0 e1
  obtain ⟨b0, o0, c0, rfl, k0⟩ := words_open (zs := [34984, 33024]) (by decide) h0
  obtain ⟨b1, o1, c1, rfl, k1⟩ := words_open (zs := [33024]) (by decide) h1
  exact ⟨b0, o0, c0, b1, o1, c1, rfl, k0 0 (by decide), k0 1 (by decide), k1 0 (by decide)⟩
end

theorem gk_of {W : World} {f0 f1 : Nat} {c0 c1 : Array Value} {p0 p1 : List MemPlace} {H : Type} {enc : TypeId × Value → H} {sp0 sp1 : Nat → Bool} {h0 h1 : Bool}
    (hv0 : W.var? Tryd.prog "toll/tag.kinds" = some c0) (hd0 : DataW.trod enc Tryd.prog W 0 sp0 h0 f0 92 c0.toList = some (Rows.laid_toll_tag_kinds, p0))
    (hv1 : W.var? Tryd.prog "toll/ether.sap" = some c1) (hd1 : DataW.trod enc Tryd.prog W 0 sp1 h1 f1 30 c1.toList = some (Rows.laid_toll_ether_sap, p1)) : Gk W := by
  obtain ⟨b0, o0, k0, b1, o1, k1, e0, z0, z1, z2⟩ := kinds_open hd0
  have e1 := Lib.cells_of_tab (zs := [170, 170, 3]) Tryd.underlying30 Tryd.underlying5 cells5 cells30 hd1
  obtain ⟨c0⟩ := c0
  obtain ⟨c1⟩ := c1
  simp only at e0 e1
  subst e0 e1
  have q0 := World.var?_cell gKinds hv0
  have q1 := World.var?_cell gEsap hv1
  exact ⟨⟨b0, o0, k0, b1, o1, k1, by simpa using q0 0, by simpa using q0 1, z0, z1, z2⟩, by simpa using q1 0, by simpa using q1 1, by simpa using q1 2⟩

set_option maxRecDepth 100000 in
/-- An argument of bytes. -/
theorem bytes_arg {W : World} {b : Nat} {v : Value} {H : Type} {enc : TypeId × Value → H} {d : DataW H} {p : List MemPlace} (hv : Value.okWide Tryd.prog W .any b 31 v) (h : DataW.Trod enc Tryd.prog W 0 (fun _ => true) true 31 v d p) :
    ∃ a n c bs, v = .slice a n c ∧ Rd W (.slice a n c) bs ∧ ∀ z ∈ bs, 0 ≤ z ∧ z < 256 := by
  obtain ⟨a, n, c, rfl⟩ := okWide_slice Tryd.underlying31 hv
  obtain ⟨fuel, hf⟩ := h
  rcases open_ints Tryd.underlying31 Tryd.underlying5 cells5 hf with ⟨e, _⟩ | ⟨ad, len, cap, zs, e, _, hl, hm, hn, _, hc, hw⟩
  · simp [Value.cells] at e
    obtain ⟨rfl, rfl, rfl⟩ := e
    exact ⟨_, _, _, [], rfl, .inl ⟨rfl, rfl⟩, by simp⟩
  · simp [Value.cells] at e
    obtain ⟨rfl, rfl, rfl⟩ := e
    rw [if_pos rfl] at hn
    have hs : ad.spot = none := by
      simp only [Value.okWide, Tryd.underlying31, Cell.okWide, Cell.ok] at hv
      exact hv.2.2.2.1
    obtain ⟨b', o, s⟩ := ad
    simp only at hs
    subst hs
    have hlen : (zs.take n).length = n := by simp; omega
    refine ⟨_, _, _, zs.take n, rfl, .inr ⟨b', o, c, by rw [hlen], by omega, hm, fun j u hu => ?_⟩, fun z hz => ?_⟩
    · rw [List.getElem?_map, List.getElem?_take] at hu
      split at hu
      · rename_i hj
        have hjz : j < zs.length := by omega
        rw [List.getElem?_eq_getElem hjz] at hu
        have h1 := hc j hjz
        rw [List.getD_eq_getElem?_getD, List.getElem?_eq_getElem hjz] at h1
        simp only [Option.map_some, Option.some.injEq] at hu
        subst hu
        simp only [Addr.add] at h1
        split at h1
        · rename_i h0; subst h0; exact h1
        · exact h1
      · cases hu
    · have := hw z (List.mem_of_mem_take hz)
      have := bounds_u8 this
      omega

theorem Gk.lt {w : World} (h : Gk w) : 3 < w.heap.size := lt_of_cell h.s0
end Go.Proofs.YtcahlponmbnkcaaDoor
