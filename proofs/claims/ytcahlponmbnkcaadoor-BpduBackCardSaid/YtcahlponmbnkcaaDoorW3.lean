/- ether: what follows a length. -/
import Derived.Test.YtcahlponmbnkcaaDoorW2
import Derived.Laws.Cover3
import Derived.Deep.RegionHeld3
namespace Go.Proofs.YtcahlponmbnkcaaDoor
open Go Go.RowKit

theorem Bytes.apartT {B g t : Nat} {w w' : World} {v : Value} {bs : List Int} {cs : Array Value} (h : Bytes B w v bs) (hg : w.heap[g]? = some (.cells cs t (0, 0))) (ht5 : t ≠ 5) (hb : ∀ k, k ≠ g → w'.heap[k]? = w.heap[k]?) : Bytes B w' v bs := by
  rcases h.2 with ⟨rfl, h0⟩ | ⟨b, cap, cur, rfl, hB, hh, hn, hc, hs, ht⟩
  · exact ⟨h.1, .inl ⟨rfl, h0⟩⟩
  · have hne : b ≠ g := by
      rintro rfl
      rw [hh] at hg
      injection hg with hg
      injection hg with _ h2 _
      exact ht5 h2.symm
    exact ⟨h.1, .inr ⟨b, cap, cur, rfl, hB, (hb _ hne).trans hh, hn, hc, hs, ht⟩⟩

theorem below_set {g k : Nat} {w w' : World} {u : Value} (h : Below g w w') : Below g w (w'.setCell ⟨g, k, none⟩ u) := h.setCell (p := ⟨g, k, none⟩) (Nat.le_refl g) u

theorem Rd.at {w w' : World} {b off cap n g : Nat} {bs : List Int} (hr : Rd w (.slice (some ⟨b, off, none⟩) n cap) bs) (hb : Below g w w') (h : b < g) : Rd w' (.slice (some ⟨b, off, none⟩) n cap) bs := by
  obtain ⟨h1, h2, h3, h4⟩ := hr.split
  exact .inr ⟨b, off, cap, by rw [h1], by omega, h3, fun j u hu => (hb.cell (p := ⟨b, off + j, none⟩) h).trans (h4 j u hu)⟩

theorem rd_zero (w : World) (b off c : Nat) (hc : c ≤ maxLen) : Rd w (.slice (some ⟨b, off, none⟩) 0 c) [] := .inr ⟨b, off, c, rfl, Nat.zero_le _, hc, fun j u hu => by simp at hu⟩

theorem Rd.sub {w : World} {b off cap n : Nat} {bs : List Int} (hr : Rd w (.slice (some ⟨b, off, none⟩) n cap) bs) (k m : Nat) (hk : k ≤ m) (hm : m ≤ n) : Rd w (.slice (if cap = k then some ⟨b, off, none⟩ else some ⟨b, off + k, none⟩) (m - k) (cap - k)) ((bs.take m).drop k) := by
  obtain ⟨h1, h2, h3, h4⟩ := hr.split
  have hl : ((bs.take m).drop k).length = m - k := by simp; omega
  by_cases hc : cap = k
  · rw [if_pos hc]
    have : (bs.take m).drop k = [] := List.eq_nil_of_length_eq_zero (by omega)
    rw [this]
    exact .inr ⟨b, off, cap - k, by simp; omega, by simp, by omega, fun j u hu => by simp at hu⟩
  · rw [if_neg hc]
    refine .inr ⟨b, off + k, cap - k, by rw [hl], by omega, by omega, fun j u hu => ?_⟩
    rw [Nat.add_assoc]
    refine h4 (k + j) u ?_
    rw [List.getElem?_map, List.getElem?_drop, List.getElem?_take] at hu
    rw [List.getElem?_map]
    by_cases hj : k + j < m
    · rwa [if_pos hj] at hu
    · rw [if_neg hj] at hu; cases hu

abbrev rawF (d0 d1 d2 d3 d4 d5 s0 s1 s2 s3 s4 s5 : Int) (tags : Value) (k : Int) (l0 l1 l2 : Int) (body rest : Value) : Array Value :=
  #[.int .u8 d0, .int .u8 d1, .int .u8 d2, .int .u8 d3, .int .u8 d4, .int .u8 d5, .int .u8 s0, .int .u8 s1, .int .u8 s2, .int .u8 s3, .int .u8 s4, .int .u8 s5, tags, .int .i64 k, .int .i64 0, .int .u8 l0, .int .u8 l1, .int .u8 l2, .int .u8 0, .int .u8 0, .int .u8 0, body, rest]

theorem cS_of {g : Nat} {w w1 : World} {d0 d1 d2 d3 d4 d5 s0 s1 s2 s3 s4 s5 k l0 l1 l2 : Int} {tags body rest : Value} (h : w1.heap[g]? = some (.cells (rawF d0 d1 d2 d3 d4 d5 s0 s1 s2 s3 s4 s5 tags k l0 l1 l2 body rest) 33 (0, 0))) (hb : Below g w w1) : w1.frozen? ⟨g, 21, none⟩ = false ∧ w1.frozen? ⟨g, 22, none⟩ = false ∧ (w1.cell? ⟨g, 21, none⟩).isSome = true ∧ (w1.cell? ⟨g, 22, none⟩).isSome = true ∧ Below g w w1 :=
  ⟨by simp [World.frozen?, h], by simp [World.frozen?, h], by rw [info_cells (k := 21) (u := body) h rfl]; rfl, by rw [info_cells (k := 22) (u := rest) h rfl]; rfl, hb⟩
theorem cS_below {g : Nat} {w w1 w2 : World} (h : w1.frozen? ⟨g, 21, none⟩ = false ∧ w1.frozen? ⟨g, 22, none⟩ = false ∧ (w1.cell? ⟨g, 21, none⟩).isSome = true ∧ (w1.cell? ⟨g, 22, none⟩).isSome = true ∧ Below g w w1) (hb : Below w1.heap.size w1 w2) (hg : g < w1.heap.size) : w2.frozen? ⟨g, 21, none⟩ = false ∧ w2.frozen? ⟨g, 22, none⟩ = false ∧ (w2.cell? ⟨g, 21, none⟩).isSome = true ∧ (w2.cell? ⟨g, 22, none⟩).isSome = true ∧ Below g w w2 := by
  have e := hb.block g hg
  rw [World.frozen?_of_block (w := w1) (w' := w2) e, World.frozen?_of_block (w := w1) (w' := w2) e, World.cell?_of_block (w := w1) (w' := w2) e, World.cell?_of_block (w := w1) (w' := w2) e]
  exact ⟨h.1, h.2.1, h.2.2.1, h.2.2.2.1, h.2.2.2.2.trans (hb.mono (Nat.le_of_lt hg))⟩
theorem cS_set {g k : Nat} {w w1 : World} {u : Value} (h : w1.frozen? ⟨g, 21, none⟩ = false ∧ w1.frozen? ⟨g, 22, none⟩ = false ∧ (w1.cell? ⟨g, 21, none⟩).isSome = true ∧ (w1.cell? ⟨g, 22, none⟩).isSome = true ∧ Below g w w1) : (w1.setCell ⟨g, k, none⟩ u).frozen? ⟨g, 21, none⟩ = false ∧ (w1.setCell ⟨g, k, none⟩ u).frozen? ⟨g, 22, none⟩ = false ∧ ((w1.setCell ⟨g, k, none⟩ u).cell? ⟨g, 21, none⟩).isSome = true ∧ ((w1.setCell ⟨g, k, none⟩ u).cell? ⟨g, 22, none⟩).isSome = true ∧ Below g w (w1.setCell ⟨g, k, none⟩ u) := by
  obtain ⟨h1, h2, h3, h4, h5⟩ := h
  refine ⟨by simpa using h1, by simpa using h2, ?_, ?_, below_set h5⟩
  · by_cases hk : k = 21
    · subst hk
      obtain ⟨x, hx⟩ := Option.isSome_iff_exists.1 h3
      rw [World.cell?_setCell_same (h := hx)]; rfl
    · rw [World.cell?_setCell_other (h := by simp)]; exact h3
  · by_cases hk : k = 22
    · subst hk
      obtain ⟨x, hx⟩ := Option.isSome_iff_exists.1 h4
      rw [World.cell?_setCell_same (h := hx)]; rfl
    · rw [World.cell?_setCell_other (h := by simp)]; exact h4

set_option maxRecDepth 100000 in
set_option maxHeartbeats 2000000 in
theorem carry_any (g b off cap n : Nat) (d0 d1 d2 d3 d4 d5 s0 s1 s2 s3 s4 s5 l0 l1 l2 : Int) (tags : Value) (bs : List Int) (w : World) (hG : Gk w) (hg3 : 3 < g)
    (hf : w.heap[g]? = some (.cells (rawF d0 d1 d2 d3 d4 d5 s0 s1 s2 s3 s4 s5 tags 0 0 0 0 (.slice none 0 0) (.slice none 0 0)) 33 (0, 0))) (hbg : b < g)
    (hr : Rd w (.slice (some ⟨b, off, none⟩) n cap) (l0 :: l1 :: l2 :: bs)) (hl : bs.length ≤ 1000) (hs : [l0, l1, l2] ≠ [170, 170, 3]) :
    Calls Tryd.prog 35 #[.pointer (some ⟨g, 0, none⟩), .int .i64 n, .slice (some ⟨b, off, none⟩) n cap] w fun e w' => ∃ body rest, e = .returned (.int .i64 0) ∧
      w'.heap[g]? = some (.cells (rawF d0 d1 d2 d3 d4 d5 s0 s1 s2 s3 s4 s5 tags 2 l0 l1 l2 body rest) 33 (0, 0)) ∧ Bytes 0 w' body bs ∧ Bytes 0 w' rest [] ∧ Below g w w' := by
  obtain ⟨hn, hnc, hm, hc⟩ := hr.split
  have hlen : n = bs.length + 3 := by rw [hn]; simp
  have h13 := info_cells (k := 13) (u := .int .i64 0) hf rfl
  have h15 := info_cells (k := 15) (u := .int .u8 0) hf rfl
  have h16 := info_cells (k := 16) (u := .int .u8 0) hf rfl
  have h17 := info_cells (k := 17) (u := .int .u8 0) hf rfl
  have hz : ∀ k, w.frozen? ⟨g, k, none⟩ = false := fun k => by simp [World.frozen?, hf]
  have c0 : w.cell? ⟨b, off, none⟩ = some (.int .u8 l0) := hc 0 _ rfl
  have c1 := hc 1 _ rfl
  have c2 := hc 2 _ rfl
  have hn1 : (n : Int) ≤ 1500 := by omega
  have hn3 : ¬ (n : Int) < 3 := by omega
  have hc3 : (3 : Int) ≤ cap := by omega
  have HF := Lib.hid hf
  have HG := Lib.hid hG
  have HR := Lib.hid hr
  have HC := Lib.hid hc
  have HN := Lib.hid hlen
  have HL := Lib.hid hl
  have HS := Lib.hid hs
  have ha : ∀ w, (Instr.arrayAt 30 (.slice (some ⟨b, off, none⟩) 3 cap)).run Tryd.prog w = .ok (.pointer (some ⟨b, off, none⟩)) w := fun w => run_arrayAt w 30 5 3 _ 3 cap Tryd.underlying30 (Nat.le_refl _)
  clear hf hG hr hc hn hlen hl hs
  go_enter Tryd.func35, Tryd.ntmps35
  go_wp2_with fail
  have HFW : Hid (((((w.setCell ⟨g, 13, none⟩ (.int .i64 2)).setCell ⟨g, 15, none⟩ (.int .u8 l0)).setCell ⟨g, 16, none⟩ (.int .u8 l1)).setCell ⟨g, 17, none⟩ (.int .u8 l2)).heap[g]? = some (.cells (rawF d0 d1 d2 d3 d4 d5 s0 s1 s2 s3 s4 s5 tags 2 l0 l1 l2 (.slice none 0 0) (.slice none 0 0)) 33 (0, 0))) := Lib.hid (by simp [World.setCell, Array.getElem?_modify, HF.out])
  have HBW : Hid (Below g w ((((w.setCell ⟨g, 13, none⟩ (.int .i64 2)).setCell ⟨g, 15, none⟩ (.int .u8 l0)).setCell ⟨g, 16, none⟩ (.int .u8 l1)).setCell ⟨g, 17, none⟩ (.int .u8 l2))) := Lib.hid (below_set (below_set (below_set (below_set (Below.refl g w)))))
  clear c0 c1 c2 h13 h15 h16 h17 hz ha
  generalize (((w.setCell ⟨g, 13, none⟩ (.int .i64 2)).setCell ⟨g, 15, none⟩ (.int .u8 l0)).setCell ⟨g, 16, none⟩ (.int .u8 l1)).setCell ⟨g, 17, none⟩ (.int .u8 l2) = W at *
  have HRW := Lib.hid (HR.out.at HBW.out hbg)
  have hS0 : W.drew.frozen? ⟨g, 21, none⟩ = false ∧ W.drew.frozen? ⟨g, 22, none⟩ = false ∧ (W.drew.cell? ⟨g, 21, none⟩).isSome = true ∧ (W.drew.cell? ⟨g, 22, none⟩).isSome = true ∧ Below g w W.drew := cS_of (by exact HFW.out) HBW.out.drew
  have HRD := Lib.hid (HRW.out.below (bd (n := 1) (Below.refl _ _)))
  have hrs1 := HRD.out.sub 3 n (by have := HN.out; omega) (Nat.le_refl n)
  have hrs2 := HRD.out.sub n n (Nat.le_refl n) (Nat.le_refl n)
  have hgW : g < W.drew.heap.size := by have := lt_of_block HFW.out; simpa using this
  have HD : Hid (List.drop 3 (List.take n (l0 :: l1 :: l2 :: bs)) = bs) := Lib.hid (by rw [List.take_of_length_le (by simp; have := HN.out; omega)]; rfl)
  have q3 := eqArr 30 3 Tryd.underlying30 #[.int .u8 l0, .int .u8 l1, .int .u8 l2] #[.int .u8 170, .int .u8 170, .int .u8 3] [l0, l1, l2] [170, 170, 3] rfl rfl rfl rfl
  rw [decide_eq_false HS.out] at q3
  have hcase : (cap = 3 ∧ n = 3) ∨ (cap ≠ 3 ∧ cap = n) ∨ (cap ≠ 3 ∧ cap ≠ n) := by have := HN.out; omega
  rcases hcase with ⟨e1, e2⟩ | ⟨e1, e2⟩ | ⟨e1, e2⟩
  · rw [if_pos e1] at hrs1
    rw [if_pos (e1.trans e2.symm)] at hrs2
    subst e1 e2
    have HRS1 := Lib.hid hrs1
    have HRS2 := Lib.hid hrs2
    clear hrs1 hrs2
    go_region_held3 (fun w' => w'.frozen? ⟨g, 21, none⟩ = false ∧ w'.frozen? ⟨g, 22, none⟩ = false ∧ (w'.cell? ⟨g, 21, none⟩).isSome = true ∧ (w'.cell? ⟨g, 22, none⟩).isSome = true ∧ Below g w w') (first
        | exact hS0
        | exact cS_below (by assumption) hb1 hgW
        | exact cS_below (by assumption) hb2 (Nat.lt_of_lt_of_le hgW hb1.size)
        | exact cS_set (by assumption)
        | go_keep)
      (first
        | (go_at_call 48; go_loud (refine (clone_any _ _ _ HRS1.out (by first | (simp; done) | (simp; have := HL.out; omega))).mono ?_; rintro e w1 ⟨v1, rfl, hv1, hb1⟩; rw [HD.out] at hv1; obtain ⟨a1, c1, rfl⟩ := hv1.rd.form))
        | (go_at_call 48; go_loud (refine (clone_any _ [] _ (rd_zero _ _ _ _ (by omega)) (by simp)).mono ?_; rintro e w2 ⟨v2, rfl, hv2, hb2⟩; obtain ⟨a2, c2, rfl⟩ := hv2.rd.form; have hr2 := (hb2.block g (Nat.lt_of_lt_of_le hgW hb1.size)).trans ((hb1.block g hgW).trans (show W.drew.heap[g]? = _ from HFW.out)); have q21 := info_cells (k := 21) (u := .slice none 0 0) hr2 rfl; have q22 := info_cells (k := 22) (u := .slice none 0 0) hr2 rfl; have qf : ∀ k, w2.frozen? ⟨g, k, none⟩ = false := (fun k => by simp [World.frozen?, hr2]); have HR2 := Lib.hid hr2; clear hr2)))
    have hrow : ((w2.setCell ⟨g, 21, none⟩ (.slice a1 bs.length c1)).setCell ⟨g, 22, none⟩ (.slice a2 0 c2)).heap[g]? = some (.cells (rawF d0 d1 d2 d3 d4 d5 s0 s1 s2 s3 s4 s5 tags 2 l0 l1 l2 (.slice a1 bs.length c1) (.slice a2 0 c2)) 33 (0, 0)) := by simp [World.setCell, Array.getElem?_modify, HR2.out]
    have HBV := Lib.hid (show ((w2.setCell ⟨g, 21, none⟩ (.slice a1 bs.length c1)).setCell ⟨g, 22, none⟩ (.slice a2 0 c2)).frozen? ⟨g, 21, none⟩ = false ∧ ((w2.setCell ⟨g, 21, none⟩ (.slice a1 bs.length c1)).setCell ⟨g, 22, none⟩ (.slice a2 0 c2)).frozen? ⟨g, 22, none⟩ = false ∧ (((w2.setCell ⟨g, 21, none⟩ (.slice a1 bs.length c1)).setCell ⟨g, 22, none⟩ (.slice a2 0 c2)).cell? ⟨g, 21, none⟩).isSome = true ∧ (((w2.setCell ⟨g, 21, none⟩ (.slice a1 bs.length c1)).setCell ⟨g, 22, none⟩ (.slice a2 0 c2)).cell? ⟨g, 22, none⟩).isSome = true ∧ Below g w ((w2.setCell ⟨g, 21, none⟩ (.slice a1 bs.length c1)).setCell ⟨g, 22, none⟩ (.slice a2 0 c2)) by assumption).2.2.2.2
    have hap : ∀ k, k ≠ g → ((w2.setCell ⟨g, 21, none⟩ (.slice a1 bs.length c1)).setCell ⟨g, 22, none⟩ (.slice a2 0 c2)).heap[k]? = w2.heap[k]? := fun k hk => (Below.heap_setCell _ _ _ _ hk).trans (Below.heap_setCell _ _ _ _ hk)
    have HRB := Lib.hid (Bytes.lower ((((Bytes.lower hv1 (Nat.le_refl _)).below hb2).apartT HR2.out (by decide) hap)) (Nat.zero_le _))
    have HRE := Lib.hid (Bytes.lower (hv2.apartT HR2.out (by decide) hap) (Nat.zero_le _))
    have h15 := info_cells (k := 15) (u := .int .u8 l0) hrow rfl
    have h16 := info_cells (k := 16) (u := .int .u8 l1) hrow rfl
    have h17 := info_cells (k := 17) (u := .int .u8 l2) hrow rfl
    have HROW := Lib.hid hrow
    have p0 := (HBV.out.cell (p := ⟨3, 0, none⟩) hg3).trans HG.out.s0
    have p1 := (HBV.out.cell (p := ⟨3, 1, none⟩) hg3).trans HG.out.s1
    have p2 := (HBV.out.cell (p := ⟨3, 2, none⟩) hg3).trans HG.out.s2
    clear hrow hap hv1 hv2 hb1 hb2 q21 q22 qf HR2 hS0
    generalize ((w2.setCell ⟨g, 21, none⟩ (.slice a1 bs.length c1)).setCell ⟨g, 22, none⟩ (.slice a2 0 c2)) = V at *
    go_wp2_with fail
    go_quiet (fail)
    go_wp2_with fail
    go_ret
    exact ⟨_, _, rfl, HROW.out, HRB.out.below (bd (Below.refl _ _)), HRE.out.below (bd (Below.refl _ _)), bd HBV.out⟩
  · rw [if_neg e1] at hrs1
    rw [if_pos e2] at hrs2
    subst e2
    have HRS1 := Lib.hid hrs1
    have HRS2 := Lib.hid hrs2
    clear hrs1 hrs2
    go_region_held3 (fun w' => w'.frozen? ⟨g, 21, none⟩ = false ∧ w'.frozen? ⟨g, 22, none⟩ = false ∧ (w'.cell? ⟨g, 21, none⟩).isSome = true ∧ (w'.cell? ⟨g, 22, none⟩).isSome = true ∧ Below g w w') (first
        | exact hS0
        | exact cS_below (by assumption) hb1 hgW
        | exact cS_below (by assumption) hb2 (Nat.lt_of_lt_of_le hgW hb1.size)
        | exact cS_set (by assumption)
        | go_keep)
      (first
        | (go_at_call 48; go_loud (refine (clone_any _ _ _ HRS1.out (by first | (simp; done) | (simp; have := HL.out; omega))).mono ?_; rintro e w1 ⟨v1, rfl, hv1, hb1⟩; rw [HD.out] at hv1; obtain ⟨a1, c1, rfl⟩ := hv1.rd.form))
        | (go_at_call 48; go_loud (refine (clone_any _ [] _ (rd_zero _ _ _ _ (by omega)) (by simp)).mono ?_; rintro e w2 ⟨v2, rfl, hv2, hb2⟩; obtain ⟨a2, c2, rfl⟩ := hv2.rd.form; have hr2 := (hb2.block g (Nat.lt_of_lt_of_le hgW hb1.size)).trans ((hb1.block g hgW).trans (show W.drew.heap[g]? = _ from HFW.out)); have q21 := info_cells (k := 21) (u := .slice none 0 0) hr2 rfl; have q22 := info_cells (k := 22) (u := .slice none 0 0) hr2 rfl; have qf : ∀ k, w2.frozen? ⟨g, k, none⟩ = false := (fun k => by simp [World.frozen?, hr2]); have HR2 := Lib.hid hr2; clear hr2)))
    have hrow : ((w2.setCell ⟨g, 21, none⟩ (.slice a1 bs.length c1)).setCell ⟨g, 22, none⟩ (.slice a2 0 c2)).heap[g]? = some (.cells (rawF d0 d1 d2 d3 d4 d5 s0 s1 s2 s3 s4 s5 tags 2 l0 l1 l2 (.slice a1 bs.length c1) (.slice a2 0 c2)) 33 (0, 0)) := by simp [World.setCell, Array.getElem?_modify, HR2.out]
    have HBV := Lib.hid (show ((w2.setCell ⟨g, 21, none⟩ (.slice a1 bs.length c1)).setCell ⟨g, 22, none⟩ (.slice a2 0 c2)).frozen? ⟨g, 21, none⟩ = false ∧ ((w2.setCell ⟨g, 21, none⟩ (.slice a1 bs.length c1)).setCell ⟨g, 22, none⟩ (.slice a2 0 c2)).frozen? ⟨g, 22, none⟩ = false ∧ (((w2.setCell ⟨g, 21, none⟩ (.slice a1 bs.length c1)).setCell ⟨g, 22, none⟩ (.slice a2 0 c2)).cell? ⟨g, 21, none⟩).isSome = true ∧ (((w2.setCell ⟨g, 21, none⟩ (.slice a1 bs.length c1)).setCell ⟨g, 22, none⟩ (.slice a2 0 c2)).cell? ⟨g, 22, none⟩).isSome = true ∧ Below g w ((w2.setCell ⟨g, 21, none⟩ (.slice a1 bs.length c1)).setCell ⟨g, 22, none⟩ (.slice a2 0 c2)) by assumption).2.2.2.2
    have hap : ∀ k, k ≠ g → ((w2.setCell ⟨g, 21, none⟩ (.slice a1 bs.length c1)).setCell ⟨g, 22, none⟩ (.slice a2 0 c2)).heap[k]? = w2.heap[k]? := fun k hk => (Below.heap_setCell _ _ _ _ hk).trans (Below.heap_setCell _ _ _ _ hk)
    have HRB := Lib.hid (Bytes.lower ((((Bytes.lower hv1 (Nat.le_refl _)).below hb2).apartT HR2.out (by decide) hap)) (Nat.zero_le _))
    have HRE := Lib.hid (Bytes.lower (hv2.apartT HR2.out (by decide) hap) (Nat.zero_le _))
    have h15 := info_cells (k := 15) (u := .int .u8 l0) hrow rfl
    have h16 := info_cells (k := 16) (u := .int .u8 l1) hrow rfl
    have h17 := info_cells (k := 17) (u := .int .u8 l2) hrow rfl
    have HROW := Lib.hid hrow
    have p0 := (HBV.out.cell (p := ⟨3, 0, none⟩) hg3).trans HG.out.s0
    have p1 := (HBV.out.cell (p := ⟨3, 1, none⟩) hg3).trans HG.out.s1
    have p2 := (HBV.out.cell (p := ⟨3, 2, none⟩) hg3).trans HG.out.s2
    clear hrow hap hv1 hv2 hb1 hb2 q21 q22 qf HR2 hS0
    generalize ((w2.setCell ⟨g, 21, none⟩ (.slice a1 bs.length c1)).setCell ⟨g, 22, none⟩ (.slice a2 0 c2)) = V at *
    go_wp2_with fail
    go_quiet (fail)
    go_wp2_with fail
    go_ret
    exact ⟨_, _, rfl, HROW.out, HRB.out.below (bd (Below.refl _ _)), HRE.out.below (bd (Below.refl _ _)), bd HBV.out⟩
  · rw [if_neg e1] at hrs1
    rw [if_neg e2] at hrs2
    have HRS1 := Lib.hid hrs1
    have HRS2 := Lib.hid hrs2
    clear hrs1 hrs2
    go_region_held3 (fun w' => w'.frozen? ⟨g, 21, none⟩ = false ∧ w'.frozen? ⟨g, 22, none⟩ = false ∧ (w'.cell? ⟨g, 21, none⟩).isSome = true ∧ (w'.cell? ⟨g, 22, none⟩).isSome = true ∧ Below g w w') (first
        | exact hS0
        | exact cS_below (by assumption) hb1 hgW
        | exact cS_below (by assumption) hb2 (Nat.lt_of_lt_of_le hgW hb1.size)
        | exact cS_set (by assumption)
        | go_keep)
      (first
        | (go_at_call 48; go_loud (refine (clone_any _ _ _ HRS1.out (by first | (simp; done) | (simp; have := HL.out; omega))).mono ?_; rintro e w1 ⟨v1, rfl, hv1, hb1⟩; rw [HD.out] at hv1; obtain ⟨a1, c1, rfl⟩ := hv1.rd.form))
        | (go_at_call 48; go_loud (refine (clone_any _ [] _ (rd_zero _ _ _ _ (by omega)) (by simp)).mono ?_; rintro e w2 ⟨v2, rfl, hv2, hb2⟩; obtain ⟨a2, c2, rfl⟩ := hv2.rd.form; have hr2 := (hb2.block g (Nat.lt_of_lt_of_le hgW hb1.size)).trans ((hb1.block g hgW).trans (show W.drew.heap[g]? = _ from HFW.out)); have q21 := info_cells (k := 21) (u := .slice none 0 0) hr2 rfl; have q22 := info_cells (k := 22) (u := .slice none 0 0) hr2 rfl; have qf : ∀ k, w2.frozen? ⟨g, k, none⟩ = false := (fun k => by simp [World.frozen?, hr2]); have HR2 := Lib.hid hr2; clear hr2)))
    have hrow : ((w2.setCell ⟨g, 21, none⟩ (.slice a1 bs.length c1)).setCell ⟨g, 22, none⟩ (.slice a2 0 c2)).heap[g]? = some (.cells (rawF d0 d1 d2 d3 d4 d5 s0 s1 s2 s3 s4 s5 tags 2 l0 l1 l2 (.slice a1 bs.length c1) (.slice a2 0 c2)) 33 (0, 0)) := by simp [World.setCell, Array.getElem?_modify, HR2.out]
    have HBV := Lib.hid (show ((w2.setCell ⟨g, 21, none⟩ (.slice a1 bs.length c1)).setCell ⟨g, 22, none⟩ (.slice a2 0 c2)).frozen? ⟨g, 21, none⟩ = false ∧ ((w2.setCell ⟨g, 21, none⟩ (.slice a1 bs.length c1)).setCell ⟨g, 22, none⟩ (.slice a2 0 c2)).frozen? ⟨g, 22, none⟩ = false ∧ (((w2.setCell ⟨g, 21, none⟩ (.slice a1 bs.length c1)).setCell ⟨g, 22, none⟩ (.slice a2 0 c2)).cell? ⟨g, 21, none⟩).isSome = true ∧ (((w2.setCell ⟨g, 21, none⟩ (.slice a1 bs.length c1)).setCell ⟨g, 22, none⟩ (.slice a2 0 c2)).cell? ⟨g, 22, none⟩).isSome = true ∧ Below g w ((w2.setCell ⟨g, 21, none⟩ (.slice a1 bs.length c1)).setCell ⟨g, 22, none⟩ (.slice a2 0 c2)) by assumption).2.2.2.2
    have hap : ∀ k, k ≠ g → ((w2.setCell ⟨g, 21, none⟩ (.slice a1 bs.length c1)).setCell ⟨g, 22, none⟩ (.slice a2 0 c2)).heap[k]? = w2.heap[k]? := fun k hk => (Below.heap_setCell _ _ _ _ hk).trans (Below.heap_setCell _ _ _ _ hk)
    have HRB := Lib.hid (Bytes.lower ((((Bytes.lower hv1 (Nat.le_refl _)).below hb2).apartT HR2.out (by decide) hap)) (Nat.zero_le _))
    have HRE := Lib.hid (Bytes.lower (hv2.apartT HR2.out (by decide) hap) (Nat.zero_le _))
    have h15 := info_cells (k := 15) (u := .int .u8 l0) hrow rfl
    have h16 := info_cells (k := 16) (u := .int .u8 l1) hrow rfl
    have h17 := info_cells (k := 17) (u := .int .u8 l2) hrow rfl
    have HROW := Lib.hid hrow
    have p0 := (HBV.out.cell (p := ⟨3, 0, none⟩) hg3).trans HG.out.s0
    have p1 := (HBV.out.cell (p := ⟨3, 1, none⟩) hg3).trans HG.out.s1
    have p2 := (HBV.out.cell (p := ⟨3, 2, none⟩) hg3).trans HG.out.s2
    clear hrow hap hv1 hv2 hb1 hb2 q21 q22 qf HR2 hS0
    generalize ((w2.setCell ⟨g, 21, none⟩ (.slice a1 bs.length c1)).setCell ⟨g, 22, none⟩ (.slice a2 0 c2)) = V at *
    go_wp2_with fail
    go_quiet (fail)
    go_wp2_with fail
    go_ret
    exact ⟨_, _, rfl, HROW.out, HRB.out.below (bd (Below.refl _ _)), HRE.out.below (bd (Below.refl _ _)), bd HBV.out⟩
end Go.Proofs.YtcahlponmbnkcaaDoor
