/- ether: a frame of LLC is read. -/
import Derived.Test.YtcahlponmbnkcaaDoorX2
import Derived.Laws.ResultCell
namespace Go.Proofs.YtcahlponmbnkcaaDoor
open Go Go.RowKit

theorem Rd.cons {w : World} {v : Value} {x : Int} {bs : List Int} (h : Rd w v (x :: bs)) : ∃ b off cap, v = .slice (some ⟨b, off, none⟩) (bs.length + 1) cap ∧ b < w.heap.size := by
  rcases h with ⟨_, h⟩ | ⟨b, off, cap, rfl, h1, h2, h3⟩
  · cases h
  · exact ⟨b, off, cap, rfl, lt_of_cell (h3 0 _ rfl)⟩

theorem gS_below {b off : Nat} {v0 v1 v2 v3 v4 v5 v6 v7 v8 v9 v10 v11 : Value} {w w' : World} (h : w.cell? ⟨b, off, none⟩ = some v0 ∧ w.cell? ⟨b, off + 1, none⟩ = some v1 ∧ w.cell? ⟨b, off + 2, none⟩ = some v2 ∧ w.cell? ⟨b, off + 3, none⟩ = some v3 ∧ w.cell? ⟨b, off + 4, none⟩ = some v4 ∧ w.cell? ⟨b, off + 5, none⟩ = some v5 ∧ w.cell? ⟨b, off + 6, none⟩ = some v6 ∧ w.cell? ⟨b, off + 6 + 1, none⟩ = some v7 ∧ w.cell? ⟨b, off + 6 + 2, none⟩ = some v8 ∧ w.cell? ⟨b, off + 6 + 3, none⟩ = some v9 ∧ w.cell? ⟨b, off + 6 + 4, none⟩ = some v10 ∧ w.cell? ⟨b, off + 6 + 5, none⟩ = some v11) (hb : Below w.heap.size w w') : w'.cell? ⟨b, off, none⟩ = some v0 ∧ w'.cell? ⟨b, off + 1, none⟩ = some v1 ∧ w'.cell? ⟨b, off + 2, none⟩ = some v2 ∧ w'.cell? ⟨b, off + 3, none⟩ = some v3 ∧ w'.cell? ⟨b, off + 4, none⟩ = some v4 ∧ w'.cell? ⟨b, off + 5, none⟩ = some v5 ∧ w'.cell? ⟨b, off + 6, none⟩ = some v6 ∧ w'.cell? ⟨b, off + 6 + 1, none⟩ = some v7 ∧ w'.cell? ⟨b, off + 6 + 2, none⟩ = some v8 ∧ w'.cell? ⟨b, off + 6 + 3, none⟩ = some v9 ∧ w'.cell? ⟨b, off + 6 + 4, none⟩ = some v10 ∧ w'.cell? ⟨b, off + 6 + 5, none⟩ = some v11 :=
  ⟨Below.cell_some hb h.1, Below.cell_some hb h.2.1, Below.cell_some hb h.2.2.1, Below.cell_some hb h.2.2.2.1, Below.cell_some hb h.2.2.2.2.1, Below.cell_some hb h.2.2.2.2.2.1, Below.cell_some hb h.2.2.2.2.2.2.1, Below.cell_some hb h.2.2.2.2.2.2.2.1, Below.cell_some hb h.2.2.2.2.2.2.2.2.1, Below.cell_some hb h.2.2.2.2.2.2.2.2.2.1, Below.cell_some hb h.2.2.2.2.2.2.2.2.2.2.1, Below.cell_some hb h.2.2.2.2.2.2.2.2.2.2.2⟩

abbrev zeros33 : Array Value := #[.int .u8 0, .int .u8 0, .int .u8 0, .int .u8 0, .int .u8 0, .int .u8 0, .int .u8 0, .int .u8 0, .int .u8 0, .int .u8 0, .int .u8 0, .int .u8 0, .slice none 0 0, .int .i64 0, .int .i64 0, .int .u8 0, .int .u8 0, .int .u8 0, .int .u8 0, .int .u8 0, .int .u8 0, .slice none 0 0, .slice none 0 0]
theorem oneRaw (d0 d1 d2 d3 d4 d5 s0 s1 s2 s3 s4 s5 k l0 l1 l2 : Int) (ta ba ra : Option Addr) (tn tc bn bc rn rc : Nat) : (rawF d0 d1 d2 d3 d4 d5 s0 s1 s2 s3 s4 s5 (.slice ta tn tc) k l0 l1 l2 (.slice ba bn bc) (.slice ra rn rc)).all (·.oneCell') = true := by
  simp [Value.oneCell']

theorem results_cell_row2 {P : Program} {fn : Func} {p u : Tmp} {ty : TypeId} (h : fn.results = #[.cell p ty, .tmp u]) (tmps : Array Value) (w : World) (g : Nat) (t : TypeId) (cs : Array Value) (fr : Nat × Nat) (d : TypeDesc)
    (hp : tmps.getD p undef = .pointer (some ⟨g, 0, none⟩)) (hg : w.heap[g]? = some (.cells cs t fr))
    (hu : P.underlying ty = some d) (hd : (match d with | .struct _ | .array _ _ => true | _ => false) = true) (hi : (P.info? ty).map (·.size) = some cs.size) :
    (results fn tmps).run P w = .ok (.tuple #[.agg cs, tmps.getD u undef]) w := by
  rw [results_cell_tmp h, hp]
  simp [asAddr, Result.andThen, run_loadVar_row w g t ty cs fr d hg hu hd hi]

set_option maxRecDepth 100000 in
set_option maxHeartbeats 2000000 in
theorem get_any (b off cap n : Nat) (d0 d1 d2 d3 d4 d5 s0 s1 s2 s3 s4 s5 l0 l1 l2 : Int) (tb bs : List Int) (tn : Nat) (w : World) (hG : Gk w) (hz3 : 3 < w.heap.size)
    (hr : Rd w (.slice (some ⟨b, off, none⟩) n cap) ([d0, d1, d2, d3, d4, d5] ++ ([s0, s1, s2, s3, s4, s5] ++ (tb ++ ([(bs.length + 3 : Int) / 256, (bs.length + 3 : Int) % 256] ++ ([l0, l1, l2] ++ bs)))))) (hl : bs.length ≤ 1000) (htl : tb.length ≤ 100) (hs : [l0, l1, l2] ≠ [170, 170, 3])
    (ht : ∀ (W : World) (o c m : Nat), RowKit.Below w.heap.size w W → Rd W (.slice (some ⟨b, o, none⟩) m c) (tb ++ ((bs.length + 3 : Int) / 256 :: (bs.length + 3 : Int) % 256 :: l0 :: l1 :: l2 :: bs)) →
      Calls Tryd.prog 34 #[.slice (some ⟨b, o, none⟩) m c] W fun e w' => ∃ v ta tc, e = .returned (.tuple #[.slice ta tn tc, v, .int .i64 0]) ∧ Rd w' v ((bs.length + 3 : Int) / 256 :: (bs.length + 3 : Int) % 256 :: l0 :: l1 :: l2 :: bs) ∧ Below W.heap.size W w') :
    Calls Tryd.prog 17 #[.slice (some ⟨b, off, none⟩) n cap] w fun e w' => ∃ ta tc body rest, e = .returned (.tuple #[.agg (rawF d0 d1 d2 d3 d4 d5 s0 s1 s2 s3 s4 s5 (.slice ta tn tc) 2 l0 l1 l2 body rest), .int .i64 0]) ∧ Bytes 0 w' body bs ∧ Bytes 0 w' rest [] ∧ Below w.heap.size w w' := by
  have hsub := hr.drop 12 (by rw [hr.split.1]; simp)
  obtain ⟨hn, hnc, hm, hc⟩ := hr.split
  have hlen : n = tb.length + bs.length + 17 := by rw [hn]; simp; omega
  have hn1 : ¬ (65535 : Int) < n := by omega
  have hn2 : ¬ (n : Int) < 12 := by omega
  have hcc : ¬ cap = 12 := by omega
  have hc12 : (12 : Int) ≤ cap := by omega
  have hc06 : (6 : Int) ≤ cap := by omega
  have HT := Lib.hid ht
  have HG := Lib.hid hG
  have HR := Lib.hid hr
  have HSUB := Lib.hid hsub
  have HN := Lib.hid hlen
  have HL := Lib.hid hl
  have HS := Lib.hid hs
  have HC := Lib.hid hc
  have ha1 : ∀ w, (Instr.arrayAt 28 (.slice (some ⟨b, off, none⟩) 6 cap)).run Tryd.prog w = .ok (.pointer (some ⟨b, off, none⟩)) w := fun w => run_arrayAt w 28 5 6 _ 6 cap Tryd.underlying28 (Nat.le_refl _)
  have ha2 : ∀ w, (Instr.arrayAt 28 (.slice (some ⟨b, off + 6, none⟩) 6 (cap - 6))).run Tryd.prog w = .ok (.pointer (some ⟨b, off + 6, none⟩)) w := fun w => run_arrayAt w 28 5 6 _ 6 _ Tryd.underlying28 (Nat.le_refl _)
  have hc6 : ¬ cap = 6 := by omega
  clear ht hG hr hn hc hsub hlen hl hs
  go_enter Tryd.func17, Tryd.ntmps17
  go_wp2_with (go_at_call 34; go_loud (refine (HT.out _ (off + 12) (cap - 12) (n - 12) ((Below.refl _ _).alloc (Nat.le_refl _) _) (HSUB.out.below ((Below.refl _ _).alloc (Nat.le_refl _) _))).mono ?_; rintro e w1 ⟨v, ta, tc, rfl, hv, hb⟩; obtain ⟨b1, o1, c1, rfl, hb1⟩ := hv.cons; have HV := Lib.hid hv; have HB := Lib.hid hb; clear hv hb))
  have HBF : Hid (Below w.heap.size w w1) := Lib.hid (((Below.refl w.heap.size w).alloc (Nat.le_refl _) _).trans (HB.out.mono (by simp)))
  have hc0 : w1.cell? ⟨b, off, none⟩ = some (.int .u8 d0) := Below.cell_some HBF.out (HC.out 0 _ rfl)
  have hc1 : w1.cell? ⟨b, off + 1, none⟩ = some (.int .u8 d1) := Below.cell_some HBF.out (HC.out 1 _ rfl)
  have hc2 : w1.cell? ⟨b, off + 2, none⟩ = some (.int .u8 d2) := Below.cell_some HBF.out (HC.out 2 _ rfl)
  have hc3 : w1.cell? ⟨b, off + 3, none⟩ = some (.int .u8 d3) := Below.cell_some HBF.out (HC.out 3 _ rfl)
  have hc4 : w1.cell? ⟨b, off + 4, none⟩ = some (.int .u8 d4) := Below.cell_some HBF.out (HC.out 4 _ rfl)
  have hc5 : w1.cell? ⟨b, off + 5, none⟩ = some (.int .u8 d5) := Below.cell_some HBF.out (HC.out 5 _ rfl)
  have hc6 : w1.cell? ⟨b, off + 6, none⟩ = some (.int .u8 s0) := Below.cell_some HBF.out (HC.out 6 _ rfl)
  have hc7 : w1.cell? ⟨b, off + 6 + 1, none⟩ = some (.int .u8 s1) := Below.cell_some HBF.out (HC.out 7 _ rfl)
  have hc8 : w1.cell? ⟨b, off + 6 + 2, none⟩ = some (.int .u8 s2) := Below.cell_some HBF.out (HC.out 8 _ rfl)
  have hc9 : w1.cell? ⟨b, off + 6 + 3, none⟩ = some (.int .u8 s3) := Below.cell_some HBF.out (HC.out 9 _ rfl)
  have hc10 : w1.cell? ⟨b, off + 6 + 4, none⟩ = some (.int .u8 s4) := Below.cell_some HBF.out (HC.out 10 _ rfl)
  have hc11 : w1.cell? ⟨b, off + 6 + 5, none⟩ = some (.int .u8 s5) := Below.cell_some HBF.out (HC.out 11 _ rfl)
  refine wp_region_held_drew (S := (fun w' => w'.cell? ⟨b, off, none⟩ = some (.int .u8 d0) ∧ w'.cell? ⟨b, off + 1, none⟩ = some (.int .u8 d1) ∧ w'.cell? ⟨b, off + 2, none⟩ = some (.int .u8 d2) ∧ w'.cell? ⟨b, off + 3, none⟩ = some (.int .u8 d3) ∧ w'.cell? ⟨b, off + 4, none⟩ = some (.int .u8 d4) ∧ w'.cell? ⟨b, off + 5, none⟩ = some (.int .u8 d5) ∧ w'.cell? ⟨b, off + 6, none⟩ = some (.int .u8 s0) ∧ w'.cell? ⟨b, off + 6 + 1, none⟩ = some (.int .u8 s1) ∧ w'.cell? ⟨b, off + 6 + 2, none⟩ = some (.int .u8 s2) ∧ w'.cell? ⟨b, off + 6 + 3, none⟩ = some (.int .u8 s3) ∧ w'.cell? ⟨b, off + 6 + 4, none⟩ = some (.int .u8 s4) ∧ w'.cell? ⟨b, off + 6 + 5, none⟩ = some (.int .u8 s5))) (by kernel_rfl) ?_ (fun hHeld => ?_)
  · exact ⟨hc0, hc1, hc2, hc3, hc4, hc5, hc6, hc7, hc8, hc9, hc10, hc11⟩
  refine wpAnyH_take (i := 0) (oi := { dst := some 34, op := Op.move (Operand.tmp 0), type := 31, pos := "ether.go:60", after := #[], guard := none }) (v := ?_) rfl (by kernel_rfl) (by kernel_rfl) (by kernel_rfl) (fun _ _ _ h => h) (Or.inl ⟨by rfl, ?_⟩) (by assumption) ?_
  rotate_left
  · intro w hSw; (try dsimp only at hSw); go_simp
    all_goals with_reducible rfl
  try simp only [Act.put, List.setIfInBounds_toArray, List.set_cons_zero, List.set_cons_succ]
  refine wpAnyH_take (i := 1) (oi := { dst := some 35, op := Op.slice 31 (Operand.tmp 34) none (some (Operand.const (Value.int IntKind.i64 6))) none, type := 31, pos := "ether.go:60", after := #[{ on := 0, ground := Ground.data }], guard := none }) (v := ?_) rfl (by kernel_rfl) (by kernel_rfl) (by kernel_rfl) (fun _ _ _ h => h) (Or.inl ⟨by rfl, ?_⟩) (by assumption) ?_
  rotate_left
  · intro w hSw; (try dsimp only at hSw); go_simp
    all_goals with_reducible rfl
  try simp only [Act.put, List.setIfInBounds_toArray, List.set_cons_zero, List.set_cons_succ]
  refine wpAnyH_take (i := 2) (oi := { dst := some 36, op := Op.sliceToArrayPointer 28 (Operand.tmp 35), type := 0, pos := "ether.go:60", after := #[{ on := 1, ground := Ground.data }], guard := none }) (v := ?_) rfl (by kernel_rfl) (by kernel_rfl) (by kernel_rfl) (fun _ _ _ h => h) (Or.inl ⟨by rfl, ?_⟩) (by assumption) ?_
  rotate_left
  · intro w hSw; (try dsimp only at hSw); go_simp
    all_goals with_reducible rfl
  try simp only [Act.put, List.setIfInBounds_toArray, List.set_cons_zero, List.set_cons_succ]
  refine wpAnyH_take (i := 3) (oi := { dst := some 37, op := Op.load 28 (Operand.tmp 36), type := 28, pos := "ether.go:60", after := #[{ on := 2, ground := Ground.data }], guard := none }) (v := ?_) rfl (by kernel_rfl) (by kernel_rfl) (by kernel_rfl) (fun _ _ _ h => h) (Or.inl ⟨by rfl, ?_⟩) (by assumption) ?_
  rotate_left
  · intro w hSw; (try dsimp only at hSw); go_simp
    all_goals with_reducible rfl
  try simp only [Act.put, List.setIfInBounds_toArray, List.set_cons_zero, List.set_cons_succ]
  refine wpAnyH_take (i := 4) (oi := { dst := some 38, op := Op.move (Operand.tmp 0), type := 31, pos := "ether.go:60", after := #[], guard := none }) (v := ?_) rfl (by kernel_rfl) (by kernel_rfl) (by kernel_rfl) (fun _ _ _ h => h) (Or.inl ⟨by rfl, ?_⟩) (by assumption) ?_
  rotate_left
  · intro w hSw; (try dsimp only at hSw); go_simp
    all_goals with_reducible rfl
  try simp only [Act.put, List.setIfInBounds_toArray, List.set_cons_zero, List.set_cons_succ]
  refine wpAnyH_take (i := 5) (oi := { dst := some 39, op := Op.slice 31 (Operand.tmp 38) (some (Operand.const (Value.int IntKind.i64 6))) (some (Operand.const (Value.int IntKind.i64 12))) none, type := 31, pos := "ether.go:60", after := #[{ on := 4, ground := Ground.data }], guard := none }) (v := ?_) rfl (by kernel_rfl) (by kernel_rfl) (by kernel_rfl) (fun _ _ _ h => h) (Or.inl ⟨by rfl, ?_⟩) (by assumption) ?_
  rotate_left
  · intro w hSw; (try dsimp only at hSw); go_simp
    all_goals with_reducible rfl
  try simp only [Act.put, List.setIfInBounds_toArray, List.set_cons_zero, List.set_cons_succ]
  refine wpAnyH_take (i := 6) (oi := { dst := some 40, op := Op.sliceToArrayPointer 28 (Operand.tmp 39), type := 0, pos := "ether.go:60", after := #[{ on := 5, ground := Ground.data }], guard := none }) (v := ?_) rfl (by kernel_rfl) (by kernel_rfl) (by kernel_rfl) (fun _ _ _ h => h) (Or.inl ⟨by rfl, ?_⟩) (by assumption) ?_
  rotate_left
  · intro w hSw; (try dsimp only at hSw); go_simp
    all_goals with_reducible rfl
  try simp only [Act.put, List.setIfInBounds_toArray, List.set_cons_zero, List.set_cons_succ]
  refine wpAnyH_take (i := 7) (oi := { dst := some 41, op := Op.load 28 (Operand.tmp 40), type := 28, pos := "ether.go:60", after := #[{ on := 6, ground := Ground.data }], guard := none }) (v := ?_) rfl (by kernel_rfl) (by kernel_rfl) (by kernel_rfl) (fun _ _ _ h => h) (Or.inl ⟨by rfl, ?_⟩) (by assumption) ?_
  rotate_left
  · intro w hSw; (try dsimp only at hSw); go_simp
    all_goals with_reducible rfl
  try simp only [Act.put, List.setIfInBounds_toArray, List.set_cons_zero, List.set_cons_succ]
  refine wpAnyH_take (i := 8) (oi := { dst := some 42, op := Op.move (Operand.tmp 4), type := 29, pos := "ether.go:60", after := #[], guard := none }) (v := ?_) rfl (by kernel_rfl) (by kernel_rfl) (by kernel_rfl) (fun _ _ _ h => h) (Or.inl ⟨by rfl, ?_⟩) (by assumption) ?_
  rotate_left
  · intro w hSw; (try dsimp only at hSw); go_simp
    all_goals with_reducible rfl
  try simp only [Act.put, List.setIfInBounds_toArray, List.set_cons_zero, List.set_cons_succ]
  refine wpAnyH_take (i := 9) (oi := { dst := some 43, op := Op.build 33 #[(0, Operand.tmp 37), (1, Operand.tmp 41), (2, Operand.tmp 42)], type := 33, pos := "ether.go:60", after := #[{ on := 3, ground := Ground.data }, { on := 7, ground := Ground.data }, { on := 8, ground := Ground.data }], guard := none }) (v := ?_) rfl (by kernel_rfl) (by kernel_rfl) (by kernel_rfl) (fun _ _ _ h => h) (Or.inl ⟨by rfl, ?_⟩) (by assumption) ?_
  rotate_left
  · intro w hSw; (try dsimp only at hSw); go_simp
    all_goals with_reducible rfl
  try simp only [Act.put, List.setIfInBounds_toArray, List.set_cons_zero, List.set_cons_succ]
  refine wpAnyH_ready (rs := [10]) (by kernel_rfl) (by simp) ?_
  refine AllReadyH.cons (o := { dst := some 7, op := Op.alloc 33, type := 0, pos := "ether.go:60", after := #[], guard := none }) rfl (fun K hK => ?_) AllReadyH.nil
  go_simp
  refine hK.out _ _ (gS_below hHeld ((Below.refl _ _).alloc (Nat.le_refl _) _)) (fun hHeldA => ?_)
  clear hK K
  try simp only [Act.put, List.setIfInBounds_toArray, List.set_cons_zero, List.set_cons_succ]
  refine wpAnyH_ready (rs := [11]) (by kernel_rfl) (by simp) ?_
  refine AllReadyH.cons (o := { dst := none, op := Op.store 33 (Operand.tmp 7) (Operand.tmp 43), type := 0, pos := "ether.go:60", after := #[{ on := 10, ground := Ground.data }, { on := 9, ground := Ground.data }, { on := 0, ground := Ground.phase }, { on := 1, ground := Ground.phase }, { on := 2, ground := Ground.phase }, { on := 3, ground := Ground.phase }, { on := 4, ground := Ground.phase }, { on := 5, ground := Ground.phase }, { on := 6, ground := Ground.phase }, { on := 7, ground := Ground.phase }, { on := 8, ground := Ground.phase }, { on := 9, ground := Ground.phase }, { on := 10, ground := Ground.phase }], guard := none }) rfl (fun K hK => ?_) AllReadyH.nil
  rw [if_pos (by rfl)]
  refine wp_store_row 33 (.tmp 7) (.tmp 43) rfl w1.heap.size (rawF d0 d1 d2 d3 d4 d5 s0 s1 s2 s3 s4 s5 (.slice ta tn tc) 0 0 0 0 (.slice none 0 0) (.slice none 0 0)) rfl rfl 33 zeros33 (heap_alloc_new w1 _) (by kernel_rfl) rfl (oneRaw d0 d1 d2 d3 d4 d5 s0 s1 s2 s3 s4 s5 0 0 0 0 ta none none tn tc 0 0 0 0) ?_
  refine hK.out _ _ (gS_below hHeld (below_setRow ((Below.refl _ _).alloc (Nat.le_refl _) _) (Nat.le_refl _) _)) (fun hHeld2 => ?_)
  clear hK K
  try simp only [Act.put]
  refine wpAnyH_done (by kernel_rfl) ?_ _
  clear hHeld hHeldA hHeld2 hc0 hc1 hc2 hc3 hc4 hc5 hc6 hc7 hc8 hc9 hc10 hc11 ha1 ha2
  have HROW : Hid ((((w1.alloc (.cells zeros33 33)).drew).setRow w1.heap.size (rawF d0 d1 d2 d3 d4 d5 s0 s1 s2 s3 s4 s5 (.slice ta tn tc) 0 0 0 0 (.slice none 0 0) (.slice none 0 0))).heap[w1.heap.size]? = some (.cells (rawF d0 d1 d2 d3 d4 d5 s0 s1 s2 s3 s4 s5 (.slice ta tn tc) 0 0 0 0 (.slice none 0 0) (.slice none 0 0)) 33 (0, 0))) := Lib.hid (setRow_heap _ _ _ _ _ _ (heap_alloc_new w1 _))
  have HBW : Hid (Below w1.heap.size w1 (((w1.alloc (.cells zeros33 33)).drew).setRow w1.heap.size (rawF d0 d1 d2 d3 d4 d5 s0 s1 s2 s3 s4 s5 (.slice ta tn tc) 0 0 0 0 (.slice none 0 0) (.slice none 0 0)))) := Lib.hid (below_setRow (bd (n := 1) ((Below.refl _ _).alloc (Nat.le_refl _) _)) (Nat.le_refl _) _)
  have HRES : Hid (w1.heap[w.heap.size]? = some (.cells zeros33 33 (0, 0))) := Lib.hid ((HB.out.block _ (by simp)).trans (heap_alloc_new w _))
  have HSZ : Hid (w.heap.size < w1.heap.size) := Lib.hid (lt_of_block HRES.out)
  clear HB
  generalize ((w1.alloc (.cells zeros33 33)).drew).setRow w1.heap.size (rawF d0 d1 d2 d3 d4 d5 s0 s1 s2 s3 s4 s5 (.slice ta tn tc) 0 0 0 0 (.slice none 0 0) (.slice none 0 0)) = W at *
  have HVW : Hid (Rd W (.slice (some ⟨b1, o1, none⟩) (bs.length + 1 + 1 + 1 + 1 + 1) c1) ((bs.length + 3 : Int) / 256 :: (bs.length + 3 : Int) % 256 :: l0 :: l1 :: l2 :: bs)) := Lib.hid (HV.out.below HBW.out)
  have HX : Hid (0 ≤ (bs.length + 3 : Int) / 256 ∧ (bs.length + 3 : Int) / 256 < 256 ∧ 0 ≤ (bs.length + 3 : Int) % 256 ∧ (bs.length + 3 : Int) % 256 < 256) := Lib.hid (by have := HL.out; omega)
  have HXY : Hid ((bs.length + 3 : Int) / 256 * 256 + (bs.length + 3 : Int) % 256 = ((bs.length + 3 : Nat) : Int)) := Lib.hid (by omega)
  obtain ⟨q1, q2, q3, q4⟩ := HVW.out.split
  have hq2 : (2 : Int) ≤ c1 := by omega
  have hq3 : ¬ c1 = 2 := by omega
  have HW3 : Hid (Rd W (.slice (some ⟨b1, o1 + 2, none⟩) (bs.length + 3) (c1 - 2)) (l0 :: l1 :: l2 :: bs)) := Lib.hid (by have := HVW.out.drop 2 (by omega); exact this)
  clear HV HT HR HSUB HC q1 q2 q3 q4
  generalize hx : (bs.length + 3 : Int) / 256 = x at *
  generalize hy : (bs.length + 3 : Int) % 256 = y at *
  clear hx hy
  generalize hM : bs.length + 1 + 1 + 1 + 1 + 1 = M at *
  have HM := Lib.hid hM
  clear hM
  have hM2 : (2 : Int) ≤ M := by have := HM.out; omega
  have HK : Hid (bs.length + 3 = M - 2) := Lib.hid (by have := HM.out; omega)
  have HXY2 : Hid (x * 256 + y = ((M - 2 : Nat) : Int)) := Lib.hid (HK.out ▸ HXY.out)
  have HW4 : Hid (Rd W (.slice (some ⟨b1, o1 + 2, none⟩) (M - 2) (c1 - 2)) (l0 :: l1 :: l2 :: bs)) := Lib.hid (HK.out ▸ HW3.out)
  have HG1 := Lib.hid (HG.out.below (HBF.out.trans (HBW.out.mono (Nat.le_of_lt HSZ.out))))
  clear HW3 HXY
  go_wp2_with fail
  go_region_held3 (fun _ => True) (trivial)
    (first
      | (go_at_call 36; go_loud (refine (word_head b1 o1 c1 M x y (l0 :: l1 :: l2 :: bs) _ (HVW.out.below (bd (n := 1) (Below.refl _ _))) HX.out.1 HX.out.2.1 HX.out.2.2.1 HX.out.2.2.2).mono ?_; rintro e w2 ⟨rfl, hb2⟩; rw [HXY2.out]))
      | (go_at_call 35; go_loud (refine (carry_any w1.heap.size b1 (o1 + 2) (c1 - 2) (M - 2) d0 d1 d2 d3 d4 d5 s0 s1 s2 s3 s4 s5 l0 l1 l2 (.slice ta tn tc) bs _ ((HG1.out.below (bd (n := 1) (Below.refl _ _))).below hb2) (Nat.lt_trans hz3 HSZ.out) ((hb2.block _ (lt_of_block HROW.out)).trans HROW.out) hb1 ((HW4.out.below (bd (n := 1) (Below.refl _ _))).below hb2) HL.out HS.out).mono ?_; rintro e w3 ⟨body, rest, rfl, hrow3, hbody, hrest, hb3⟩)))
  obtain ⟨ba, bc, rfl⟩ := hbody.rd.form
  obtain ⟨ra, rc, rfl⟩ := hrest.rd.form
  have hW1 : w1.heap.size ≤ W.heap.size := HBW.out.size
  have HRES3 : Hid (w3.heap[w.heap.size]? = some (.cells zeros33 33 (0, 0))) := Lib.hid ((hb3.block _ HSZ.out).trans ((hb2.block _ (Nat.lt_of_lt_of_le HSZ.out hW1)).trans ((HBW.out.block _ HSZ.out).trans HRES.out)))
  have HB3 : Hid (Below w.heap.size w w3) := Lib.hid (((HBF.out.trans (HBW.out.mono (Nat.le_of_lt HSZ.out))).trans (((Below.refl _ _).mono (Nat.le_trans (Nat.le_of_lt HSZ.out) hW1)).trans (bd (n := 1) (Below.refl _ _)))).trans ((hb2.mono (Nat.le_trans (Nat.le_of_lt HSZ.out) hW1)).trans (hb3.mono (Nat.le_of_lt HSZ.out))))
  have HROW3 := Lib.hid hrow3
  have HBODY := Lib.hid hbody
  have HREST := Lib.hid hrest
  clear hrow3 hbody hrest hb2 hb3 hW1 HBW HROW HRES HVW HW4
  go_wp2_with (first
    | ((with_reducible show wpList _ _ _ (Oper.mk _ (.load 33 _) _ _ _ _ :: _) _ _); refine wpList_load_row rfl 33 (.tmp 7) rfl w1.heap.size rfl 33 (rawF d0 d1 d2 d3 d4 d5 s0 s1 s2 s3 s4 s5 (.slice ta tn tc) 2 l0 l1 l2 (.slice ba bs.length bc) (.slice ra ([] : List Int).length rc)) (0, 0) _ HROW3.out Tryd.underlying33 rfl (by kernel_rfl) ?_; go_frame)
    | ((with_reducible show wpList _ _ _ (Oper.mk _ (.store 33 _ _) _ _ _ _ :: _) _ _); refine wpList_store_row rfl 33 (.tmp 2) (.tmp 53) rfl w.heap.size (rawF d0 d1 d2 d3 d4 d5 s0 s1 s2 s3 s4 s5 (.slice ta tn tc) 2 l0 l1 l2 (.slice ba bs.length bc) (.slice ra ([] : List Int).length rc)) rfl rfl 33 zeros33 HRES3.out (by kernel_rfl) rfl (oneRaw d0 d1 d2 d3 d4 d5 s0 s1 s2 s3 s4 s5 2 l0 l1 l2 ta ba ra tn tc bs.length bc ([] : List Int).length rc) ?_; go_frame))
  refine bodyPost_ret (results_cell_row2 (P := Tryd.prog) Tryd.results17 _ _ w.heap.size 33 (rawF d0 d1 d2 d3 d4 d5 s0 s1 s2 s3 s4 s5 (.slice ta tn tc) 2 l0 l1 l2 (.slice ba bs.length bc) (.slice ra ([] : List Int).length rc)) (0, 0) _ rfl (setRow_heap _ _ _ _ _ _ HRES3.out) Tryd.underlying33 rfl (by kernel_rfl)) rfl ⟨ta, tc, _, _, rfl, HBODY.out.apartT HRES3.out (by decide) (fun k hk => setRow_other _ _ _ _ hk), HREST.out.apartT HRES3.out (by decide) (fun k hk => setRow_other _ _ _ _ hk), below_setRow HB3.out (Nat.le_refl _) _⟩
end Go.Proofs.YtcahlponmbnkcaaDoor
