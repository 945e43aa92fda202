/- BPDU: Put. -/
import Derived.Test.YtcahlponmbnkcaaDoorB3
namespace Go.Proofs.YtcahlponmbnkcaaDoor
open Go Go.RowKit

/-- A message's bytes. -/
def putL (k f r b c p a x h d : Int) : List Int :=
  if k = 2 then hd 2 else (hd k ++ beI f 1 ++ beI r 8 ++ beI c 4 ++ beI b 8 ++ beI p 2 ++ beI a 2 ++ beI x 2 ++ beI h 2 ++ beI d 2) ++ (if k = 3 then beI 0 1 else [])

/-- A result: bytes in memory of the call's own. -/
def Bytes (B : Nat) (w : World) (v : Value) (bs : List Int) : Prop := w.ownsRow B 5 1 v bs.length (bs.map (Value.int .u8))

set_option maxRecDepth 100000 in
set_option maxHeartbeats 1000000 in
theorem put_no (k f r b c p a x h d : Int) (w : World) (hm : mayB k f r b c p a x h d = false) :
    Calls Tryd.prog 6 #[msgV k f r b c p a x h d] w fun e w' => e = .returned (.tuple #[.slice none 0 0, .int .i64 1]) ∧ Below w.heap.size w w' := by
  have hmay := may_any k f r b c p a x h d
  rw [hm] at hmay
  have HM := Lib.hid hmay
  clear hmay hm
  go_enter Tryd.func6, Tryd.ntmps6
  go_wp2_with (go_at_call 20; refine (HM.out _).mono ?_; rintro e w1 ⟨rfl, hb⟩)
  go_ret2
  exact ⟨rfl, ((Below.refl _ _).alloc (Nat.le_refl _) _).trans (hb.mono (by simp))⟩

theorem wpList_range_at {P : Program} (w : World) {ops : Array Oper} {rest : List Oper} {o : Oper} {a : Act} {Q : Exit → Act → World → Prop} (hg : o.guard = none) (m : Operand) (t : TypeId) (hop : o.op = Op.range t m) (k e : TypeId) (ht : P.underlying t = some (.map k e))
    (b : Nat) (es : Array MapEntry) (clock : Nat) (hm : a.eval m = .map (some b)) (hb : w.heap[b]? = some (.map es clock))
    (hK : wpList P ops Q rest (a.put o.dst (.pointer (some ⟨w.heap.size, 0, none⟩))) (w.alloc (.mapIter (some b) clock #[] clock))) : wpList P ops Q (o :: rest) a w := by
  refine wpList_plain hg fun K' hK' => ?_
  unfold Oper.wp
  simp [execOp, hop, hm, run_range_map w t k e b es clock ht hb, Result.andThen]
  exact hK' _ _ hK

theorem iterSeen_of {w : World} {r b c : Nat} {m : Option Nat} {s : Array Nat} (h : w.heap[r]? = some (.mapIter m b s c)) : w.iterSeen r = s := by
  unfold World.iterSeen; rw [h]

/-- What holds at the head of the loop over the kinds' first bytes. -/
def Gath (w2 wr : World) (es : Array MapEntry) (g M R : Nat) (k : Int) : Prop :=
  ∃ seen, wr.heap[R]? = some (.mapIter (some M) 3 seen 3) ∧ wr.heap[M]? = some (.map es 3) ∧ Below g w2 wr ∧
    ((cur es seen k = [] ∧ wr.heap[g]? = some (.cells #[.slice none 0 0] 31 (0, 0))) ∨ (cur es seen k = hd k ∧ Lays wr g (hd k)))

theorem hd_ne {k : Int} (hk : k = 1 ∨ k = 2 ∨ k = 3) : hd k ≠ [] := by rcases hk with rfl | rfl | rfl <;> simp [hd]

theorem gath_done {wr : World} {es : Array MapEntry} {g : Nat} {k : Int} (hes : es ∈ headsEs) (hk : k = 1 ∨ k = 2 ∨ k = 3) {seen : Array Nat} (h0 : (leftOf es seen).size = 0)
    (h : (cur es seen k = [] ∧ wr.heap[g]? = some (.cells #[.slice none 0 0] 31 (0, 0))) ∨ (cur es seen k = hd k ∧ Lays wr g (hd k))) : Lays wr g (hd k) := by
  rcases h with ⟨h1, _⟩ | ⟨_, h2⟩
  · rw [cur_end hes h0 hk] at h1; exact absurd h1 (hd_ne hk)
  · exact h2

theorem _root_.Go.World.ownsRow.lower {w : World} {base base' : Nat} {e : TypeId} {size : Nat} {v : Value} {n : Nat} {xs : List Value} (h : w.ownsRow base e size v n xs) (hb : base' ≤ base) : w.ownsRow base' e size v n xs := by
  obtain ⟨h1, h2⟩ := h
  refine ⟨h1, ?_⟩
  rcases h2 with h2 | ⟨g, cap, cur, hv, hg, r⟩
  · exact .inl h2
  · exact .inr ⟨g, cap, cur, hv, by omega, r⟩

theorem gath_next {W wr w3 w4 : World} {es : Array MapEntry} {g R : Nat} {k : Int} {seen : Array Nat} {b : Nat}
    (hmp : wr.heap[g + 1]? = some (.map es 3)) (hbw : Below g W wr) (hR : R = g + 1 + 1) (hRl : R < wr.heap.size)
    (hr3 : w3.heap[R]? = some (.mapIter (some (g + 1)) 3 (seen.push b) 3)) (hgr3 : wr.grownBy w3 (some R)) (hsz3 : w3.heap.size = wr.heap.size)
    (h4 : ∀ i, g < i → i < w3.heap.size → w4.heap[i]? = w3.heap[i]?) (hb4 : Below g w3 w4)
    (hc : (cur es (seen.push b) k = [] ∧ w4.heap[g]? = some (.cells #[.slice none 0 0] 31 (0, 0))) ∨ (cur es (seen.push b) k = hd k ∧ Lays w4 g (hd k))) : Gath W w4 es g (g + 1) R k := by
  subst hR
  refine ⟨seen.push b, ?_, ?_, ?_, hc⟩
  · rw [h4 _ (by omega) (by omega)]; exact hr3
  · rw [h4 _ (by omega) (by omega), hgr3.block _ (by omega) (by simp)]; exact hmp
  · exact (hbw.trans ((Below.refl g wr).grown hgr3 (by omega) (fun j hj => by cases hj; omega))).trans hb4

theorem four_cells (w : World) (a b c d : Value) (t : TypeId) : ∀ j u, [a, b, c, d][j]? = some u → (w.alloc (.cells #[a, b, c, d] t)).cell? ((⟨w.heap.size, 0, none⟩ : Addr).add j) = some u := by
  intro j u hj
  have := World.news_of_block (heap_alloc_new w (.cells #[a, b, c, d] t)) j u (by simpa using hj)
  exact this

theorem own_ne_obj {w : World} {base : Nat} {e : TypeId} {size : Nat} {v : Value} {n : Nat} {xs : List Value} (h : w.ownsRow base e size v n xs) {r : Nat} {m : Option Nat} {s c : Nat} {q : Array Nat} (hr : w.heap[r]? = some (.mapIter m s q c)) : v.ownBlock ≠ some r := by
  intro e
  rcases h.2 with ⟨rfl, _⟩ | ⟨g, cap, cur, rfl, _, hg, _⟩
  · simp [Value.ownBlock] at e
  · simp [Value.ownBlock] at e
    subst e
    rw [hg] at hr; cases hr

/-- The laying, beside a message in a block of its own. -/
theorem lay_box (k f r b c p a x h d : Int) (B : Nat) (n : Int) (many g : Nat) (bs : List Int) (w : World) (hn : 0 ≤ n) (hm : many ≤ 8) (hbs : bs.length ≤ 1000) (hl : Lays w g bs) (hB : B < g)
    (hbx : w.heap[B]? = some (.cells #[.int .i64 k, .int .u8 f, .int .u64 r, .int .u64 b, .int .u32 c, .int .u16 p, .int .u16 a, .int .u16 x, .int .u16 h, .int .u16 d] 26 (0, 0))) :
    Calls Tryd.prog 21 #[.int .u64 n, .int .i64 many, .pointer (some ⟨g, 0, none⟩)] w fun e w' => e = .returned (.tuple #[]) ∧ Hid (Lays w' g (bs ++ beI n many)) ∧ Hid (Below g w w') ∧
      Hid (w'.heap[B]? = some (.cells #[.int .i64 k, .int .u8 f, .int .u64 r, .int .u64 b, .int .u32 c, .int .u16 p, .int .u16 a, .int .u16 x, .int .u16 h, .int .u16 d] 26 (0, 0))) ∧
      w'.cell? ⟨B, 0, none⟩ = some (.int .i64 k) ∧ w'.cell? ⟨B, 2, none⟩ = some (.int .u64 r) ∧ w'.cell? ⟨B, 3, none⟩ = some (.int .u64 b) ∧ w'.cell? ⟨B, 4, none⟩ = some (.int .u32 c) ∧ w'.cell? ⟨B, 5, none⟩ = some (.int .u16 p) ∧
      w'.cell? ⟨B, 6, none⟩ = some (.int .u16 a) ∧ w'.cell? ⟨B, 7, none⟩ = some (.int .u16 x) ∧ w'.cell? ⟨B, 8, none⟩ = some (.int .u16 h) ∧ w'.cell? ⟨B, 9, none⟩ = some (.int .u16 d) :=
  (lay_any n many g bs w hn hm hbs hl).mono fun _ _ ⟨he, h1, h2⟩ => by
    have hb := (h2.block B hB).trans hbx
    refine ⟨he, h1, h2, hb, ?_, ?_, ?_, ?_, ?_, ?_, ?_, ?_, ?_⟩ <;> (rw [cell_of_row _ _ _ _ _ _ hb]; rfl)

set_option maxRecDepth 100000 in
set_option maxHeartbeats 2000000 in
theorem put_1 (f r b c p a x h d : Int) (w : World) (hf0 : 0 ≤ f) (hr0 : 0 ≤ r) (hb0 : 0 ≤ b) (hc0 : 0 ≤ c) (hp0 : 0 ≤ p) (ha0 : 0 ≤ a) (hx0 : 0 ≤ x) (hh0 : 0 ≤ h) (hd0 : 0 ≤ d) (wf : IntKind.u64.wrap f = f) (wc : IntKind.u64.wrap c = c) (wp : IntKind.u64.wrap p = p) (wa : IntKind.u64.wrap a = a) (wx : IntKind.u64.wrap x = x) (wh : IntKind.u64.wrap h = h) (wd : IntKind.u64.wrap d = d) (hm : mayB 1 f r b c p a x h d = true) :
    Calls Tryd.prog 6 #[msgV 1 f r b c p a x h d] w fun e w' => ∃ v, e = .returned (.tuple #[v, .int .i64 0]) ∧ Bytes w.heap.size w' v (putL 1 f r b c p a x h d) ∧ Below w.heap.size w w' := by
  have hmay := may_any 1 f r b c p a x h d
  rw [hm] at hmay
  have HM := Lib.hid hmay
  clear hmay hm
  have i0 : ∀ w, (Instr.index 66 (.agg #[.int .u16 p, .int .u16 a, .int .u16 x, .int .u16 h, .int .u16 d]) (.int .i64 0)).run Tryd.prog w = .ok (.int .u16 p) w := fun _ => by kernel_rfl
  have i1 : ∀ w, (Instr.index 66 (.agg #[.int .u16 p, .int .u16 a, .int .u16 x, .int .u16 h, .int .u16 d]) (.int .i64 1)).run Tryd.prog w = .ok (.int .u16 a) w := fun _ => by kernel_rfl
  have i2 : ∀ w, (Instr.index 66 (.agg #[.int .u16 p, .int .u16 a, .int .u16 x, .int .u16 h, .int .u16 d]) (.int .i64 2)).run Tryd.prog w = .ok (.int .u16 x) w := fun _ => by kernel_rfl
  have i3 : ∀ w, (Instr.index 66 (.agg #[.int .u16 p, .int .u16 a, .int .u16 x, .int .u16 h, .int .u16 d]) (.int .i64 3)).run Tryd.prog w = .ok (.int .u16 h) w := fun _ => by kernel_rfl
  have i4 : ∀ w, (Instr.index 66 (.agg #[.int .u16 p, .int .u16 a, .int .u16 x, .int .u16 h, .int .u16 d]) (.int .i64 4)).run Tryd.prog w = .ok (.int .u16 d) w := fun _ => by kernel_rfl
  go_enter Tryd.func6, Tryd.ntmps6
  go_wp2_with (go_at_call 20; refine (HM.out _).mono ?_; rintro e w1 ⟨rfl, hb⟩)
  have HB := Lib.hid hb
  clear hb
  refine (heads_any _).mono ?_
  rintro e w2 ⟨rfl, hb2, hsz2, es, hes, hmap⟩
  have hmap' : w2.heap[w1.heap.size + 1]? = some (.map es 3) := by simpa using hmap
  have HS2 : Hid (w2.heap.size = w1.heap.size + 1 + 1) := by show w2.heap.size = w1.heap.size + 1 + 1; simpa using hsz2
  have HB2 := Lib.hid hb2
  have HES := Lib.hid hes
  clear hmap hsz2 hb2 hes
  go_wp2_with (at_range; refine wpList_range_at _ rfl _ 63 rfl 65 3 Tryd.underlying63 (w1.heap.size + 1) es 3 rfl hmap' ?_; go_frame)
  have Hlt : Hid (w.heap.size < w1.heap.size) := by have := HB.out.size; simp at this; exact this
  have HW : Hid (Below w.heap.size w (w2.alloc (.mapIter (some (w1.heap.size + 1)) 3 #[] 3))) :=
    (((((Below.refl _ _).alloc (Nat.le_refl _) _).trans (HB.out.mono (by simp))).alloc (by have := Hlt.out; omega) _).trans (HB2.out.mono (by have := Hlt.out; simp; omega))).alloc (by have := HS2.out; have := Hlt.out; omega) _
  have HBox : Hid ((w2.alloc (.mapIter (some (w1.heap.size + 1)) 3 #[] 3)).heap[w.heap.size]? = some (.cells #[.int .i64 1, .int .u8 f, .int .u64 r, .int .u64 b, .int .u32 c, .int .u16 p, .int .u16 a, .int .u16 x, .int .u16 h, .int .u16 d] 26 (0, 0))) := by
    show (w2.alloc (.mapIter (some (w1.heap.size + 1)) 3 #[] 3)).heap[w.heap.size]? = _
    have h1 := Hlt.out
    rw [Below.heap_alloc _ _ _ (by have := HS2.out; omega), HB2.out.block _ (by simp; omega), Below.heap_alloc _ _ _ h1, HB.out.block _ (by simp)]
    exact heap_alloc_new _ _
  have HG : Hid ((w2.alloc (.mapIter (some (w1.heap.size + 1)) 3 #[] 3)).heap[w1.heap.size]? = some (.cells #[.slice none 0 0] 31 (0, 0))) := by
    show (w2.alloc (.mapIter (some (w1.heap.size + 1)) 3 #[] 3)).heap[w1.heap.size]? = _
    rw [Below.heap_alloc _ _ _ (by have := HS2.out; omega), HB2.out.block _ (by simp)]
    exact heap_alloc_new _ _
  have HMp : Hid ((w2.alloc (.mapIter (some (w1.heap.size + 1)) 3 #[] 3)).heap[w1.heap.size + 1]? = some (.map es 3)) := by
    show (w2.alloc (.mapIter (some (w1.heap.size + 1)) 3 #[] 3)).heap[w1.heap.size + 1]? = _
    rw [Below.heap_alloc _ _ _ (by have := HS2.out; omega)]
    exact hmap'
  have HR : Hid ((w2.alloc (.mapIter (some (w1.heap.size + 1)) 3 #[] 3)).heap[w2.heap.size]? = some (.mapIter (some (w1.heap.size + 1)) 3 #[] 3)) := heap_alloc_new _ _
  clear HB HB2 hmap' HM
  generalize w2.alloc (.mapIter (some (w1.heap.size + 1)) 3 #[] 3) = W at *
  obtain ⟨R, hR⟩ : ∃ R, R = w2.heap.size := ⟨_, rfl⟩
  rw [← hR] at HR HS2 ⊢
  clear hR
  obtain ⟨g, hg⟩ : ∃ g, g = w1.heap.size := ⟨_, rfl⟩
  rw [← hg] at HG HMp HR HS2 Hlt ⊢
  clear hg
  go_loopw [7] (fun _ wr => Gath W wr es g (g + 1) R 1) (fun _ wr => (leftOf es (wr.iterSeen R)).size)
  case atStart => exact ⟨#[], HR.out, HMp.out, Below.refl _ _, .inl ⟨cur_nil _, HG.out⟩⟩
  case round =>
    obtain ⟨seen, hr, hmp, hbw, hcur⟩ := hrel
    have HIS : Hid (wr.iterSeen R = seen) := iterSeen_of hr
    have HRl : Hid (R < wr.heap.size) := lt_of_block hr
    have hne : R ≠ g + 1 := by have := HS2.out; omega
    have hborn := heads_born HES.out
    go_wp2_with (at_next; refine wpList_next_at _ rfl _ rfl R (g + 1) 3 3 seen es 3 rfl hr hmp hborn.1 hborn.2 (Nat.le_refl _) hne ?_ ?_)
    · intro h0
      have HL : Hid (Lays wr g (hd 1)) := gath_done HES.out (by decide) (by rw [h0.out]; rfl) hcur
      have hbx : wr.heap[w.heap.size]? = some (.cells #[.int .i64 1, .int .u8 f, .int .u64 r, .int .u64 b, .int .u32 c, .int .u16 p, .int .u16 a, .int .u16 x, .int .u16 h, .int .u16 d] 26 (0, 0)) := (hbw.block _ Hlt.out).trans HBox.out
      have hk0 : wr.cell? ⟨w.heap.size, 0, none⟩ = some (.int .i64 1) := by rw [cell_of_row _ _ 0 _ _ _ hbx]; rfl
      have hk1 : wr.cell? ⟨w.heap.size, 1, none⟩ = some (.int .u8 f) := by rw [cell_of_row _ _ 1 _ _ _ hbx]; rfl
      have hk2 : wr.cell? ⟨w.heap.size, 2, none⟩ = some (.int .u64 r) := by rw [cell_of_row _ _ 2 _ _ _ hbx]; rfl
      have hk3 : wr.cell? ⟨w.heap.size, 3, none⟩ = some (.int .u64 b) := by rw [cell_of_row _ _ 3 _ _ _ hbx]; rfl
      have hk4 : wr.cell? ⟨w.heap.size, 4, none⟩ = some (.int .u32 c) := by rw [cell_of_row _ _ 4 _ _ _ hbx]; rfl
      have hk5 : wr.cell? ⟨w.heap.size, 5, none⟩ = some (.int .u16 p) := by rw [cell_of_row _ _ 5 _ _ _ hbx]; rfl
      have hk6 : wr.cell? ⟨w.heap.size, 6, none⟩ = some (.int .u16 a) := by rw [cell_of_row _ _ 6 _ _ _ hbx]; rfl
      have hk7 : wr.cell? ⟨w.heap.size, 7, none⟩ = some (.int .u16 x) := by rw [cell_of_row _ _ 7 _ _ _ hbx]; rfl
      have hk8 : wr.cell? ⟨w.heap.size, 8, none⟩ = some (.int .u16 h) := by rw [cell_of_row _ _ 8 _ _ _ hbx]; rfl
      have hk9 : wr.cell? ⟨w.heap.size, 9, none⟩ = some (.int .u16 d) := by rw [cell_of_row _ _ 9 _ _ _ hbx]; rfl
      have HBX := Lib.hid hbx
      clear hbx
      have hbx := HBX.out
      have HLL := HL
      go_wp2_with fail
      refine (lay_box 1 f r b c p a x h d _ f 1 g _ _ hf0 (by decide) (by simp [hd]) HL.out Hlt.out HBX.out).mono ?_
      rintro e w5 ⟨rfl, HL0, HW0, HX0, c00, c02, c03, c04, c05, c06, c07, c08, c09⟩
      go_wp2_with fail
      refine (lay_box 1 f r b c p a x h d _ r 8 g _ _ hr0 (by decide) (by simp [hd, beI_len]) HL0.out Hlt.out HX0.out).mono ?_
      rintro e w6 ⟨rfl, HL1, HW1, HX1, c10, c12, c13, c14, c15, c16, c17, c18, c19⟩
      go_wp2_with fail
      refine (lay_box 1 f r b c p a x h d _ c 4 g _ _ hc0 (by decide) (by simp [hd, beI_len]) HL1.out Hlt.out HX1.out).mono ?_
      rintro e w7 ⟨rfl, HL2, HW2, HX2, c20, c22, c23, c24, c25, c26, c27, c28, c29⟩
      go_wp2_with fail
      refine (lay_box 1 f r b c p a x h d _ b 8 g _ _ hb0 (by decide) (by simp [hd, beI_len]) HL2.out Hlt.out HX2.out).mono ?_
      rintro e w8 ⟨rfl, HL3, HW3, HX3, c30, c32, c33, c34, c35, c36, c37, c38, c39⟩
      go_wp2_with fail
      refine wp_loop_rounds 6 ?_
      rw [rounds_succ]
      go_wp2_with fail
      refine (lay_box 1 f r b c p a x h d _ p 2 g _ _ hp0 (by decide) (by simp [hd, beI_len]) HL3.out Hlt.out HX3.out).mono ?_
      rintro e w9 ⟨rfl, HL4, HW4, HX4, c40, c42, c43, c44, c45, c46, c47, c48, c49⟩
      go_wp2_with fail
      rw [rounds_succ]
      go_wp2_with fail
      refine (lay_box 1 f r b c p a x h d _ a 2 g _ _ ha0 (by decide) (by simp [hd, beI_len]) HL4.out Hlt.out HX4.out).mono ?_
      rintro e w10 ⟨rfl, HL5, HW5, HX5, c50, c52, c53, c54, c55, c56, c57, c58, c59⟩
      go_wp2_with fail
      rw [rounds_succ]
      go_wp2_with fail
      refine (lay_box 1 f r b c p a x h d _ x 2 g _ _ hx0 (by decide) (by simp [hd, beI_len]) HL5.out Hlt.out HX5.out).mono ?_
      rintro e w11 ⟨rfl, HL6, HW6, HX6, c60, c62, c63, c64, c65, c66, c67, c68, c69⟩
      go_wp2_with fail
      rw [rounds_succ]
      go_wp2_with fail
      refine (lay_box 1 f r b c p a x h d _ h 2 g _ _ hh0 (by decide) (by simp [hd, beI_len]) HL6.out Hlt.out HX6.out).mono ?_
      rintro e w12 ⟨rfl, HL7, HW7, HX7, c70, c72, c73, c74, c75, c76, c77, c78, c79⟩
      go_wp2_with fail
      rw [rounds_succ]
      go_wp2_with fail
      refine (lay_box 1 f r b c p a x h d _ d 2 g _ _ hd0 (by decide) (by simp [hd, beI_len]) HL7.out Hlt.out HX7.out).mono ?_
      rintro e w13 ⟨rfl, HL8, HW8, HX8, c80, c82, c83, c84, c85, c86, c87, c88, c89⟩
      obtain ⟨v, hv, hown⟩ := HL8.out
      have hcv := cell_of_one hv
      go_wp2_with fail
      rw [rounds_succ]
      go_wp2_with fail
      go_ret2
      refine ⟨v, rfl, ?_, HW.out.trans ((((((((((hbw.trans HW0.out).trans HW1.out).trans HW2.out).trans HW3.out).trans HW4.out).trans HW5.out).trans HW6.out).trans HW7.out).trans HW8.out).mono (by have := Hlt.out; omega))⟩
      have e : putL 1 f r b c p a x h d = hd 1 ++ beI f 1 ++ beI r 8 ++ beI c 4 ++ beI b 8 ++ beI p 2 ++ beI a 2 ++ beI x 2 ++ beI h 2 ++ beI d 2 := by simp [putL]
      rw [e]
      exact hown.lower (by have := Hlt.out; omega)
    · intro e w3 he hr3 hgr3 hsz3 hent
      have HE : Hid (e ∈ (leftOf es seen).toList) := Array.mem_toList_iff.2 he.out
      clear he
      obtain ⟨c4, d4, kv, hkey, hval, hhd⟩ := heads_entry HES.out (mem_left HE.out).1
      have HHD := Lib.hid hhd
      have HVAL := Lib.hid hval
      rw [hkey, hval] at hent
      clear hhd hkey hval
      have hbx : w3.heap[w.heap.size]? = some (.cells #[.int .i64 1, .int .u8 f, .int .u64 r, .int .u64 b, .int .u32 c, .int .u16 p, .int .u16 a, .int .u16 x, .int .u16 h, .int .u16 d] 26 (0, 0)) := (hgr3.out.block _ (by have := HS2.out; have := Hlt.out; have := HRl.out; omega) (by have := HS2.out; have := Hlt.out; simp; omega)).trans ((hbw.block _ Hlt.out).trans HBox.out)
      have hk0 : w3.cell? ⟨w.heap.size, 0, none⟩ = some (.int .i64 1) := by rw [cell_of_row _ _ 0 _ _ _ hbx]; rfl
      clear hbx
      have hlt3 : w.heap.size < w3.heap.size := by have := hsz3.out; have := HRl.out; have := HS2.out; have := Hlt.out; omega
      by_cases hkk : kv = 1
      · subst hkk
        have HN : Hid (cur es seen 1 = [] ∧ cur es (seen.push e.born) 1 = hd 1) := cur_hit HES.out HE.out (by rw [HVAL.out]; rfl)
        have hg0 : wr.heap[g]? = some (.cells #[.slice none 0 0] 31 (0, 0)) := by
          rcases hcur with ⟨_, h2⟩ | ⟨h1, _⟩
          · exact h2
          · rw [HN.out.1] at h1; exact absurd h1.symm (hd_ne (by decide))
        have hg3 : w3.heap[g]? = some (.cells #[.slice none 0 0] 31 (0, 0)) := (hgr3.out.block g (lt_of_block hg0) (by have := HS2.out; simp; omega)).trans hg0
        have hgc := cell_of_one hg3
        have hgl := lt_of_block hg3
        have hgf := free_of_one hg3
        have HN1 : Hid (cur es (seen.push e.born) 1 = [] ++ [0, 0, c4, d4]) := by rw [HN.out.2, HHD.out]; rfl
        have HG0 := Lib.hid hg0
        have HCUR := Lib.hid hcur
        clear hg0 hcur
        go_wp2_with fail
        go_region_law (refine step_pushL rfl (.tmp 25) (.tmp 26) rfl (bs := []) [0, 0, c4, d4] w3.heap.size 4 (by simp [Act.eval]) (by simp [Act.eval]) hg3 (World.ownsRow_nil _ _ _ _) (by simp) (by simp) (by exact ((Below.refl _ w3).alloc (Nat.le_refl _) _).drew) (four_cells w3 _ _ _ _ _) ?_; intro g' cap w' h1 h2 h3 h4 h5)
        all_goals
          go_wp2
          go_roundw
          case rel =>
            refine gath_next hmp hbw HS2.out HRl.out hr3.out hgr3.out hsz3.out (fun i hi1 hi2 => ?_) h4.out (.inr ⟨HN.out.2, by rw [HHD.out]; exact h3.out⟩)
            rw [Below.heap_setCell _ _ _ _ (by simp; omega), h5.out.block i (by simp; omega) (by simp [Value.ownBlock])]
            exact Below.heap_alloc _ _ _ hi2
          case measure =>
            rw [HIS.out, iterSeen_of (show (w'.setCell ⟨g, 0, none⟩ _).heap[R]? = _ from ((Below.heap_setCell _ _ _ _ (by have := HS2.out; simp; omega)).trans ((h5.out.block R (by have := hsz3.out; have := HRl.out; simp; omega) (by simp [Value.ownBlock])).trans (Below.heap_alloc _ _ _ (by have := HRl.out; have := hsz3.out; omega)))).trans hr3.out)]
            exact left_shrinks es seen e HE.out
      · have hkk' : (kv == 1) = false := by simpa using hkk
        have HN : Hid (cur es (seen.push e.born) 1 = cur es seen 1) := cur_miss HES.out HE.out (by rw [HVAL.out]; exact hkk)
        have HCUR := Lib.hid hcur
        clear hkk hcur
        go_wp2_with fail
        go_roundw
        case rel =>
          refine gath_next hmp hbw HS2.out HRl.out hr3.out hgr3.out hsz3.out (fun i _ h => Below.heap_alloc _ _ _ h) ((Below.refl _ _).alloc (by have := HS2.out; have := HRl.out; have := hsz3.out; omega) _) ?_
          rw [HN.out]
          have hl : g < wr.heap.size := by have := HS2.out; have := HRl.out; omega
          have e : ∀ o, (w3.alloc o).heap[g]? = wr.heap[g]? := fun o => (Below.heap_alloc _ _ _ (by have := hsz3.out; omega)).trans (hgr3.out.block g hl (by have := HS2.out; simp; omega))
          rcases HCUR.out with ⟨h1, h2⟩ | ⟨h1, v, h2, h3⟩
          · exact .inl ⟨h1, (e _).trans h2⟩
          · refine .inr ⟨h1, v, (e _).trans h2, ?_⟩
            exact (h3.kept hgr3.out (.inr (own_ne_obj h3 hr))).alloc _
        case measure =>
          rw [HIS.out, iterSeen_of (show (w3.alloc _).heap[R]? = _ from (Below.heap_alloc _ _ _ (by have := HRl.out; have := hsz3.out; omega)).trans hr3.out)]
          exact left_shrinks es seen e HE.out

set_option maxRecDepth 100000 in
set_option maxHeartbeats 2000000 in
theorem put_2 (f r b c p a x h d : Int) (w : World) (hm : mayB 2 f r b c p a x h d = true) :
    Calls Tryd.prog 6 #[msgV 2 f r b c p a x h d] w fun e w' => ∃ v, e = .returned (.tuple #[v, .int .i64 0]) ∧ Bytes w.heap.size w' v (putL 2 f r b c p a x h d) ∧ Below w.heap.size w w' := by
  have hmay := may_any 2 f r b c p a x h d
  rw [hm] at hmay
  have HM := Lib.hid hmay
  clear hmay hm
  go_enter Tryd.func6, Tryd.ntmps6
  go_wp2_with (go_at_call 20; refine (HM.out _).mono ?_; rintro e w1 ⟨rfl, hb⟩)
  have HB := Lib.hid hb
  clear hb
  refine (heads_any _).mono ?_
  rintro e w2 ⟨rfl, hb2, hsz2, es, hes, hmap⟩
  have hmap' : w2.heap[w1.heap.size + 1]? = some (.map es 3) := by simpa using hmap
  have HS2 : Hid (w2.heap.size = w1.heap.size + 1 + 1) := by show w2.heap.size = w1.heap.size + 1 + 1; simpa using hsz2
  have HB2 := Lib.hid hb2
  have HES := Lib.hid hes
  clear hmap hsz2 hb2 hes
  go_wp2_with (at_range; refine wpList_range_at _ rfl _ 63 rfl 65 3 Tryd.underlying63 (w1.heap.size + 1) es 3 rfl hmap' ?_; go_frame)
  have Hlt : Hid (w.heap.size < w1.heap.size) := by have := HB.out.size; simp at this; exact this
  have HW : Hid (Below w.heap.size w (w2.alloc (.mapIter (some (w1.heap.size + 1)) 3 #[] 3))) :=
    (((((Below.refl _ _).alloc (Nat.le_refl _) _).trans (HB.out.mono (by simp))).alloc (by have := Hlt.out; omega) _).trans (HB2.out.mono (by have := Hlt.out; simp; omega))).alloc (by have := HS2.out; have := Hlt.out; omega) _
  have HBox : Hid ((w2.alloc (.mapIter (some (w1.heap.size + 1)) 3 #[] 3)).heap[w.heap.size]? = some (.cells #[.int .i64 2, .int .u8 f, .int .u64 r, .int .u64 b, .int .u32 c, .int .u16 p, .int .u16 a, .int .u16 x, .int .u16 h, .int .u16 d] 26 (0, 0))) := by
    show (w2.alloc (.mapIter (some (w1.heap.size + 1)) 3 #[] 3)).heap[w.heap.size]? = _
    have h1 := Hlt.out
    rw [Below.heap_alloc _ _ _ (by have := HS2.out; omega), HB2.out.block _ (by simp; omega), Below.heap_alloc _ _ _ h1, HB.out.block _ (by simp)]
    exact heap_alloc_new _ _
  have HG : Hid ((w2.alloc (.mapIter (some (w1.heap.size + 1)) 3 #[] 3)).heap[w1.heap.size]? = some (.cells #[.slice none 0 0] 31 (0, 0))) := by
    show (w2.alloc (.mapIter (some (w1.heap.size + 1)) 3 #[] 3)).heap[w1.heap.size]? = _
    rw [Below.heap_alloc _ _ _ (by have := HS2.out; omega), HB2.out.block _ (by simp)]
    exact heap_alloc_new _ _
  have HMp : Hid ((w2.alloc (.mapIter (some (w1.heap.size + 1)) 3 #[] 3)).heap[w1.heap.size + 1]? = some (.map es 3)) := by
    show (w2.alloc (.mapIter (some (w1.heap.size + 1)) 3 #[] 3)).heap[w1.heap.size + 1]? = _
    rw [Below.heap_alloc _ _ _ (by have := HS2.out; omega)]
    exact hmap'
  have HR : Hid ((w2.alloc (.mapIter (some (w1.heap.size + 1)) 3 #[] 3)).heap[w2.heap.size]? = some (.mapIter (some (w1.heap.size + 1)) 3 #[] 3)) := heap_alloc_new _ _
  clear HB HB2 hmap' HM
  generalize w2.alloc (.mapIter (some (w1.heap.size + 1)) 3 #[] 3) = W at *
  obtain ⟨R, hR⟩ : ∃ R, R = w2.heap.size := ⟨_, rfl⟩
  rw [← hR] at HR HS2 ⊢
  clear hR
  obtain ⟨g, hg⟩ : ∃ g, g = w1.heap.size := ⟨_, rfl⟩
  rw [← hg] at HG HMp HR HS2 Hlt ⊢
  clear hg
  go_loopw [7] (fun _ wr => Gath W wr es g (g + 1) R 2) (fun _ wr => (leftOf es (wr.iterSeen R)).size)
  case atStart => exact ⟨#[], HR.out, HMp.out, Below.refl _ _, .inl ⟨cur_nil _, HG.out⟩⟩
  case round =>
    obtain ⟨seen, hr, hmp, hbw, hcur⟩ := hrel
    have HIS : Hid (wr.iterSeen R = seen) := iterSeen_of hr
    have HRl : Hid (R < wr.heap.size) := lt_of_block hr
    have hne : R ≠ g + 1 := by have := HS2.out; omega
    have hborn := heads_born HES.out
    go_wp2_with (at_next; refine wpList_next_at _ rfl _ rfl R (g + 1) 3 3 seen es 3 rfl hr hmp hborn.1 hborn.2 (Nat.le_refl _) hne ?_ ?_)
    · intro h0
      have HL : Hid (Lays wr g (hd 2)) := gath_done HES.out (by decide) (by rw [h0.out]; rfl) hcur
      have hbx : wr.heap[w.heap.size]? = some (.cells #[.int .i64 2, .int .u8 f, .int .u64 r, .int .u64 b, .int .u32 c, .int .u16 p, .int .u16 a, .int .u16 x, .int .u16 h, .int .u16 d] 26 (0, 0)) := (hbw.block _ Hlt.out).trans HBox.out
      have hk0 : wr.cell? ⟨w.heap.size, 0, none⟩ = some (.int .i64 2) := by rw [cell_of_row _ _ 0 _ _ _ hbx]; rfl
      have hk1 : wr.cell? ⟨w.heap.size, 1, none⟩ = some (.int .u8 f) := by rw [cell_of_row _ _ 1 _ _ _ hbx]; rfl
      have hk2 : wr.cell? ⟨w.heap.size, 2, none⟩ = some (.int .u64 r) := by rw [cell_of_row _ _ 2 _ _ _ hbx]; rfl
      have hk3 : wr.cell? ⟨w.heap.size, 3, none⟩ = some (.int .u64 b) := by rw [cell_of_row _ _ 3 _ _ _ hbx]; rfl
      have hk4 : wr.cell? ⟨w.heap.size, 4, none⟩ = some (.int .u32 c) := by rw [cell_of_row _ _ 4 _ _ _ hbx]; rfl
      have hk5 : wr.cell? ⟨w.heap.size, 5, none⟩ = some (.int .u16 p) := by rw [cell_of_row _ _ 5 _ _ _ hbx]; rfl
      have hk6 : wr.cell? ⟨w.heap.size, 6, none⟩ = some (.int .u16 a) := by rw [cell_of_row _ _ 6 _ _ _ hbx]; rfl
      have hk7 : wr.cell? ⟨w.heap.size, 7, none⟩ = some (.int .u16 x) := by rw [cell_of_row _ _ 7 _ _ _ hbx]; rfl
      have hk8 : wr.cell? ⟨w.heap.size, 8, none⟩ = some (.int .u16 h) := by rw [cell_of_row _ _ 8 _ _ _ hbx]; rfl
      have hk9 : wr.cell? ⟨w.heap.size, 9, none⟩ = some (.int .u16 d) := by rw [cell_of_row _ _ 9 _ _ _ hbx]; rfl
      have HBX := Lib.hid hbx
      clear hbx
      obtain ⟨v, hv, hown⟩ := HL.out
      have hcv := cell_of_one hv
      go_wp2_with fail
      go_ret2
      exact ⟨v, rfl, hown.lower (by have := Hlt.out; omega), HW.out.trans (hbw.mono (by have := Hlt.out; omega))⟩
    · intro e w3 he hr3 hgr3 hsz3 hent
      have HE : Hid (e ∈ (leftOf es seen).toList) := Array.mem_toList_iff.2 he.out
      clear he
      obtain ⟨c4, d4, kv, hkey, hval, hhd⟩ := heads_entry HES.out (mem_left HE.out).1
      have HHD := Lib.hid hhd
      have HVAL := Lib.hid hval
      rw [hkey, hval] at hent
      clear hhd hkey hval
      have hbx : w3.heap[w.heap.size]? = some (.cells #[.int .i64 2, .int .u8 f, .int .u64 r, .int .u64 b, .int .u32 c, .int .u16 p, .int .u16 a, .int .u16 x, .int .u16 h, .int .u16 d] 26 (0, 0)) := (hgr3.out.block _ (by have := HS2.out; have := Hlt.out; have := HRl.out; omega) (by have := HS2.out; have := Hlt.out; simp; omega)).trans ((hbw.block _ Hlt.out).trans HBox.out)
      have hk0 : w3.cell? ⟨w.heap.size, 0, none⟩ = some (.int .i64 2) := by rw [cell_of_row _ _ 0 _ _ _ hbx]; rfl
      clear hbx
      have hlt3 : w.heap.size < w3.heap.size := by have := hsz3.out; have := HRl.out; have := HS2.out; have := Hlt.out; omega
      by_cases hkk : kv = 2
      · subst hkk
        have HN : Hid (cur es seen 2 = [] ∧ cur es (seen.push e.born) 2 = hd 2) := cur_hit HES.out HE.out (by rw [HVAL.out]; rfl)
        have hg0 : wr.heap[g]? = some (.cells #[.slice none 0 0] 31 (0, 0)) := by
          rcases hcur with ⟨_, h2⟩ | ⟨h1, _⟩
          · exact h2
          · rw [HN.out.1] at h1; exact absurd h1.symm (hd_ne (by decide))
        have hg3 : w3.heap[g]? = some (.cells #[.slice none 0 0] 31 (0, 0)) := (hgr3.out.block g (lt_of_block hg0) (by have := HS2.out; simp; omega)).trans hg0
        have hgc := cell_of_one hg3
        have hgl := lt_of_block hg3
        have hgf := free_of_one hg3
        have HN1 : Hid (cur es (seen.push e.born) 2 = [] ++ [0, 0, c4, d4]) := by rw [HN.out.2, HHD.out]; rfl
        have HG0 := Lib.hid hg0
        have HCUR := Lib.hid hcur
        clear hg0 hcur
        go_wp2_with fail
        go_region_law (refine step_pushL rfl (.tmp 25) (.tmp 26) rfl (bs := []) [0, 0, c4, d4] w3.heap.size 4 (by simp [Act.eval]) (by simp [Act.eval]) hg3 (World.ownsRow_nil _ _ _ _) (by simp) (by simp) (by exact ((Below.refl _ w3).alloc (Nat.le_refl _) _).drew) (four_cells w3 _ _ _ _ _) ?_; intro g' cap w' h1 h2 h3 h4 h5)
        all_goals
          go_wp2
          go_roundw
          case rel =>
            refine gath_next hmp hbw HS2.out HRl.out hr3.out hgr3.out hsz3.out (fun i hi1 hi2 => ?_) h4.out (.inr ⟨HN.out.2, by rw [HHD.out]; exact h3.out⟩)
            rw [Below.heap_setCell _ _ _ _ (by simp; omega), h5.out.block i (by simp; omega) (by simp [Value.ownBlock])]
            exact Below.heap_alloc _ _ _ hi2
          case measure =>
            rw [HIS.out, iterSeen_of (show (w'.setCell ⟨g, 0, none⟩ _).heap[R]? = _ from ((Below.heap_setCell _ _ _ _ (by have := HS2.out; simp; omega)).trans ((h5.out.block R (by have := hsz3.out; have := HRl.out; simp; omega) (by simp [Value.ownBlock])).trans (Below.heap_alloc _ _ _ (by have := HRl.out; have := hsz3.out; omega)))).trans hr3.out)]
            exact left_shrinks es seen e HE.out
      · have hkk' : (kv == 2) = false := by simpa using hkk
        have HN : Hid (cur es (seen.push e.born) 2 = cur es seen 2) := cur_miss HES.out HE.out (by rw [HVAL.out]; exact hkk)
        have HCUR := Lib.hid hcur
        clear hkk hcur
        go_wp2_with fail
        go_roundw
        case rel =>
          refine gath_next hmp hbw HS2.out HRl.out hr3.out hgr3.out hsz3.out (fun i _ h => Below.heap_alloc _ _ _ h) ((Below.refl _ _).alloc (by have := HS2.out; have := HRl.out; have := hsz3.out; omega) _) ?_
          rw [HN.out]
          have hl : g < wr.heap.size := by have := HS2.out; have := HRl.out; omega
          have e : ∀ o, (w3.alloc o).heap[g]? = wr.heap[g]? := fun o => (Below.heap_alloc _ _ _ (by have := hsz3.out; omega)).trans (hgr3.out.block g hl (by have := HS2.out; simp; omega))
          rcases HCUR.out with ⟨h1, h2⟩ | ⟨h1, v, h2, h3⟩
          · exact .inl ⟨h1, (e _).trans h2⟩
          · refine .inr ⟨h1, v, (e _).trans h2, ?_⟩
            exact (h3.kept hgr3.out (.inr (own_ne_obj h3 hr))).alloc _
        case measure =>
          rw [HIS.out, iterSeen_of (show (w3.alloc _).heap[R]? = _ from (Below.heap_alloc _ _ _ (by have := HRl.out; have := hsz3.out; omega)).trans hr3.out)]
          exact left_shrinks es seen e HE.out

set_option maxRecDepth 100000 in
set_option maxHeartbeats 2000000 in
theorem put_3 (f r b c p a x h d : Int) (w : World) (hf0 : 0 ≤ f) (hr0 : 0 ≤ r) (hb0 : 0 ≤ b) (hc0 : 0 ≤ c) (hp0 : 0 ≤ p) (ha0 : 0 ≤ a) (hx0 : 0 ≤ x) (hh0 : 0 ≤ h) (hd0 : 0 ≤ d) (wf : IntKind.u64.wrap f = f) (wc : IntKind.u64.wrap c = c) (wp : IntKind.u64.wrap p = p) (wa : IntKind.u64.wrap a = a) (wx : IntKind.u64.wrap x = x) (wh : IntKind.u64.wrap h = h) (wd : IntKind.u64.wrap d = d) (hm : mayB 3 f r b c p a x h d = true) :
    Calls Tryd.prog 6 #[msgV 3 f r b c p a x h d] w fun e w' => ∃ v, e = .returned (.tuple #[v, .int .i64 0]) ∧ Bytes w.heap.size w' v (putL 3 f r b c p a x h d) ∧ Below w.heap.size w w' := by
  have hmay := may_any 3 f r b c p a x h d
  rw [hm] at hmay
  have HM := Lib.hid hmay
  clear hmay hm
  have i0 : ∀ w, (Instr.index 66 (.agg #[.int .u16 p, .int .u16 a, .int .u16 x, .int .u16 h, .int .u16 d]) (.int .i64 0)).run Tryd.prog w = .ok (.int .u16 p) w := fun _ => by kernel_rfl
  have i1 : ∀ w, (Instr.index 66 (.agg #[.int .u16 p, .int .u16 a, .int .u16 x, .int .u16 h, .int .u16 d]) (.int .i64 1)).run Tryd.prog w = .ok (.int .u16 a) w := fun _ => by kernel_rfl
  have i2 : ∀ w, (Instr.index 66 (.agg #[.int .u16 p, .int .u16 a, .int .u16 x, .int .u16 h, .int .u16 d]) (.int .i64 2)).run Tryd.prog w = .ok (.int .u16 x) w := fun _ => by kernel_rfl
  have i3 : ∀ w, (Instr.index 66 (.agg #[.int .u16 p, .int .u16 a, .int .u16 x, .int .u16 h, .int .u16 d]) (.int .i64 3)).run Tryd.prog w = .ok (.int .u16 h) w := fun _ => by kernel_rfl
  have i4 : ∀ w, (Instr.index 66 (.agg #[.int .u16 p, .int .u16 a, .int .u16 x, .int .u16 h, .int .u16 d]) (.int .i64 4)).run Tryd.prog w = .ok (.int .u16 d) w := fun _ => by kernel_rfl
  go_enter Tryd.func6, Tryd.ntmps6
  go_wp2_with (go_at_call 20; refine (HM.out _).mono ?_; rintro e w1 ⟨rfl, hb⟩)
  have HB := Lib.hid hb
  clear hb
  refine (heads_any _).mono ?_
  rintro e w2 ⟨rfl, hb2, hsz2, es, hes, hmap⟩
  have hmap' : w2.heap[w1.heap.size + 1]? = some (.map es 3) := by simpa using hmap
  have HS2 : Hid (w2.heap.size = w1.heap.size + 1 + 1) := by show w2.heap.size = w1.heap.size + 1 + 1; simpa using hsz2
  have HB2 := Lib.hid hb2
  have HES := Lib.hid hes
  clear hmap hsz2 hb2 hes
  go_wp2_with (at_range; refine wpList_range_at _ rfl _ 63 rfl 65 3 Tryd.underlying63 (w1.heap.size + 1) es 3 rfl hmap' ?_; go_frame)
  have Hlt : Hid (w.heap.size < w1.heap.size) := by have := HB.out.size; simp at this; exact this
  have HW : Hid (Below w.heap.size w (w2.alloc (.mapIter (some (w1.heap.size + 1)) 3 #[] 3))) :=
    (((((Below.refl _ _).alloc (Nat.le_refl _) _).trans (HB.out.mono (by simp))).alloc (by have := Hlt.out; omega) _).trans (HB2.out.mono (by have := Hlt.out; simp; omega))).alloc (by have := HS2.out; have := Hlt.out; omega) _
  have HBox : Hid ((w2.alloc (.mapIter (some (w1.heap.size + 1)) 3 #[] 3)).heap[w.heap.size]? = some (.cells #[.int .i64 3, .int .u8 f, .int .u64 r, .int .u64 b, .int .u32 c, .int .u16 p, .int .u16 a, .int .u16 x, .int .u16 h, .int .u16 d] 26 (0, 0))) := by
    show (w2.alloc (.mapIter (some (w1.heap.size + 1)) 3 #[] 3)).heap[w.heap.size]? = _
    have h1 := Hlt.out
    rw [Below.heap_alloc _ _ _ (by have := HS2.out; omega), HB2.out.block _ (by simp; omega), Below.heap_alloc _ _ _ h1, HB.out.block _ (by simp)]
    exact heap_alloc_new _ _
  have HG : Hid ((w2.alloc (.mapIter (some (w1.heap.size + 1)) 3 #[] 3)).heap[w1.heap.size]? = some (.cells #[.slice none 0 0] 31 (0, 0))) := by
    show (w2.alloc (.mapIter (some (w1.heap.size + 1)) 3 #[] 3)).heap[w1.heap.size]? = _
    rw [Below.heap_alloc _ _ _ (by have := HS2.out; omega), HB2.out.block _ (by simp)]
    exact heap_alloc_new _ _
  have HMp : Hid ((w2.alloc (.mapIter (some (w1.heap.size + 1)) 3 #[] 3)).heap[w1.heap.size + 1]? = some (.map es 3)) := by
    show (w2.alloc (.mapIter (some (w1.heap.size + 1)) 3 #[] 3)).heap[w1.heap.size + 1]? = _
    rw [Below.heap_alloc _ _ _ (by have := HS2.out; omega)]
    exact hmap'
  have HR : Hid ((w2.alloc (.mapIter (some (w1.heap.size + 1)) 3 #[] 3)).heap[w2.heap.size]? = some (.mapIter (some (w1.heap.size + 1)) 3 #[] 3)) := heap_alloc_new _ _
  clear HB HB2 hmap' HM
  generalize w2.alloc (.mapIter (some (w1.heap.size + 1)) 3 #[] 3) = W at *
  obtain ⟨R, hR⟩ : ∃ R, R = w2.heap.size := ⟨_, rfl⟩
  rw [← hR] at HR HS2 ⊢
  clear hR
  obtain ⟨g, hg⟩ : ∃ g, g = w1.heap.size := ⟨_, rfl⟩
  rw [← hg] at HG HMp HR HS2 Hlt ⊢
  clear hg
  go_loopw [7] (fun _ wr => Gath W wr es g (g + 1) R 3) (fun _ wr => (leftOf es (wr.iterSeen R)).size)
  case atStart => exact ⟨#[], HR.out, HMp.out, Below.refl _ _, .inl ⟨cur_nil _, HG.out⟩⟩
  case round =>
    obtain ⟨seen, hr, hmp, hbw, hcur⟩ := hrel
    have HIS : Hid (wr.iterSeen R = seen) := iterSeen_of hr
    have HRl : Hid (R < wr.heap.size) := lt_of_block hr
    have hne : R ≠ g + 1 := by have := HS2.out; omega
    have hborn := heads_born HES.out
    go_wp2_with (at_next; refine wpList_next_at _ rfl _ rfl R (g + 1) 3 3 seen es 3 rfl hr hmp hborn.1 hborn.2 (Nat.le_refl _) hne ?_ ?_)
    · intro h0
      have HL : Hid (Lays wr g (hd 3)) := gath_done HES.out (by decide) (by rw [h0.out]; rfl) hcur
      have hbx : wr.heap[w.heap.size]? = some (.cells #[.int .i64 3, .int .u8 f, .int .u64 r, .int .u64 b, .int .u32 c, .int .u16 p, .int .u16 a, .int .u16 x, .int .u16 h, .int .u16 d] 26 (0, 0)) := (hbw.block _ Hlt.out).trans HBox.out
      have hk0 : wr.cell? ⟨w.heap.size, 0, none⟩ = some (.int .i64 3) := by rw [cell_of_row _ _ 0 _ _ _ hbx]; rfl
      have hk1 : wr.cell? ⟨w.heap.size, 1, none⟩ = some (.int .u8 f) := by rw [cell_of_row _ _ 1 _ _ _ hbx]; rfl
      have hk2 : wr.cell? ⟨w.heap.size, 2, none⟩ = some (.int .u64 r) := by rw [cell_of_row _ _ 2 _ _ _ hbx]; rfl
      have hk3 : wr.cell? ⟨w.heap.size, 3, none⟩ = some (.int .u64 b) := by rw [cell_of_row _ _ 3 _ _ _ hbx]; rfl
      have hk4 : wr.cell? ⟨w.heap.size, 4, none⟩ = some (.int .u32 c) := by rw [cell_of_row _ _ 4 _ _ _ hbx]; rfl
      have hk5 : wr.cell? ⟨w.heap.size, 5, none⟩ = some (.int .u16 p) := by rw [cell_of_row _ _ 5 _ _ _ hbx]; rfl
      have hk6 : wr.cell? ⟨w.heap.size, 6, none⟩ = some (.int .u16 a) := by rw [cell_of_row _ _ 6 _ _ _ hbx]; rfl
      have hk7 : wr.cell? ⟨w.heap.size, 7, none⟩ = some (.int .u16 x) := by rw [cell_of_row _ _ 7 _ _ _ hbx]; rfl
      have hk8 : wr.cell? ⟨w.heap.size, 8, none⟩ = some (.int .u16 h) := by rw [cell_of_row _ _ 8 _ _ _ hbx]; rfl
      have hk9 : wr.cell? ⟨w.heap.size, 9, none⟩ = some (.int .u16 d) := by rw [cell_of_row _ _ 9 _ _ _ hbx]; rfl
      have HBX := Lib.hid hbx
      clear hbx
      have hbx := HBX.out
      have HLL := HL
      go_wp2_with fail
      refine (lay_box 3 f r b c p a x h d _ f 1 g _ _ hf0 (by decide) (by simp [hd]) HL.out Hlt.out HBX.out).mono ?_
      rintro e w5 ⟨rfl, HL0, HW0, HX0, c00, c02, c03, c04, c05, c06, c07, c08, c09⟩
      go_wp2_with fail
      refine (lay_box 3 f r b c p a x h d _ r 8 g _ _ hr0 (by decide) (by simp [hd, beI_len]) HL0.out Hlt.out HX0.out).mono ?_
      rintro e w6 ⟨rfl, HL1, HW1, HX1, c10, c12, c13, c14, c15, c16, c17, c18, c19⟩
      go_wp2_with fail
      refine (lay_box 3 f r b c p a x h d _ c 4 g _ _ hc0 (by decide) (by simp [hd, beI_len]) HL1.out Hlt.out HX1.out).mono ?_
      rintro e w7 ⟨rfl, HL2, HW2, HX2, c20, c22, c23, c24, c25, c26, c27, c28, c29⟩
      go_wp2_with fail
      refine (lay_box 3 f r b c p a x h d _ b 8 g _ _ hb0 (by decide) (by simp [hd, beI_len]) HL2.out Hlt.out HX2.out).mono ?_
      rintro e w8 ⟨rfl, HL3, HW3, HX3, c30, c32, c33, c34, c35, c36, c37, c38, c39⟩
      go_wp2_with fail
      refine wp_loop_rounds 6 ?_
      rw [rounds_succ]
      go_wp2_with fail
      refine (lay_box 3 f r b c p a x h d _ p 2 g _ _ hp0 (by decide) (by simp [hd, beI_len]) HL3.out Hlt.out HX3.out).mono ?_
      rintro e w9 ⟨rfl, HL4, HW4, HX4, c40, c42, c43, c44, c45, c46, c47, c48, c49⟩
      go_wp2_with fail
      rw [rounds_succ]
      go_wp2_with fail
      refine (lay_box 3 f r b c p a x h d _ a 2 g _ _ ha0 (by decide) (by simp [hd, beI_len]) HL4.out Hlt.out HX4.out).mono ?_
      rintro e w10 ⟨rfl, HL5, HW5, HX5, c50, c52, c53, c54, c55, c56, c57, c58, c59⟩
      go_wp2_with fail
      rw [rounds_succ]
      go_wp2_with fail
      refine (lay_box 3 f r b c p a x h d _ x 2 g _ _ hx0 (by decide) (by simp [hd, beI_len]) HL5.out Hlt.out HX5.out).mono ?_
      rintro e w11 ⟨rfl, HL6, HW6, HX6, c60, c62, c63, c64, c65, c66, c67, c68, c69⟩
      go_wp2_with fail
      rw [rounds_succ]
      go_wp2_with fail
      refine (lay_box 3 f r b c p a x h d _ h 2 g _ _ hh0 (by decide) (by simp [hd, beI_len]) HL6.out Hlt.out HX6.out).mono ?_
      rintro e w12 ⟨rfl, HL7, HW7, HX7, c70, c72, c73, c74, c75, c76, c77, c78, c79⟩
      go_wp2_with fail
      rw [rounds_succ]
      go_wp2_with fail
      refine (lay_box 3 f r b c p a x h d _ d 2 g _ _ hd0 (by decide) (by simp [hd, beI_len]) HL7.out Hlt.out HX7.out).mono ?_
      rintro e w13 ⟨rfl, HL8, HW8, HX8, c80, c82, c83, c84, c85, c86, c87, c88, c89⟩
      go_wp2_with fail
      rw [rounds_succ]
      go_wp2_with fail
      refine (lay_box 3 f r b c p a x h d _ 0 1 g _ _ (Int.le_refl 0) (by decide) (by simp [hd, beI_len]) HL8.out Hlt.out HX8.out).mono ?_
      rintro e w14 ⟨rfl, HL9, HW9, HX9, c90, c92, c93, c94, c95, c96, c97, c98, c99⟩
      obtain ⟨v, hv, hown⟩ := HL9.out
      have hcv := cell_of_one hv
      go_wp2_with fail
      go_ret2
      refine ⟨v, rfl, ?_, HW.out.trans (((((((((((hbw.trans HW0.out).trans HW1.out).trans HW2.out).trans HW3.out).trans HW4.out).trans HW5.out).trans HW6.out).trans HW7.out).trans HW8.out).trans HW9.out).mono (by have := Hlt.out; omega))⟩
      have e : putL 3 f r b c p a x h d = hd 3 ++ beI f 1 ++ beI r 8 ++ beI c 4 ++ beI b 8 ++ beI p 2 ++ beI a 2 ++ beI x 2 ++ beI h 2 ++ beI d 2 ++ beI 0 1 := by simp [putL]
      rw [e]
      exact hown.lower (by have := Hlt.out; omega)
    · intro e w3 he hr3 hgr3 hsz3 hent
      have HE : Hid (e ∈ (leftOf es seen).toList) := Array.mem_toList_iff.2 he.out
      clear he
      obtain ⟨c4, d4, kv, hkey, hval, hhd⟩ := heads_entry HES.out (mem_left HE.out).1
      have HHD := Lib.hid hhd
      have HVAL := Lib.hid hval
      rw [hkey, hval] at hent
      clear hhd hkey hval
      have hbx : w3.heap[w.heap.size]? = some (.cells #[.int .i64 3, .int .u8 f, .int .u64 r, .int .u64 b, .int .u32 c, .int .u16 p, .int .u16 a, .int .u16 x, .int .u16 h, .int .u16 d] 26 (0, 0)) := (hgr3.out.block _ (by have := HS2.out; have := Hlt.out; have := HRl.out; omega) (by have := HS2.out; have := Hlt.out; simp; omega)).trans ((hbw.block _ Hlt.out).trans HBox.out)
      have hk0 : w3.cell? ⟨w.heap.size, 0, none⟩ = some (.int .i64 3) := by rw [cell_of_row _ _ 0 _ _ _ hbx]; rfl
      clear hbx
      have hlt3 : w.heap.size < w3.heap.size := by have := hsz3.out; have := HRl.out; have := HS2.out; have := Hlt.out; omega
      by_cases hkk : kv = 3
      · subst hkk
        have HN : Hid (cur es seen 3 = [] ∧ cur es (seen.push e.born) 3 = hd 3) := cur_hit HES.out HE.out (by rw [HVAL.out]; rfl)
        have hg0 : wr.heap[g]? = some (.cells #[.slice none 0 0] 31 (0, 0)) := by
          rcases hcur with ⟨_, h2⟩ | ⟨h1, _⟩
          · exact h2
          · rw [HN.out.1] at h1; exact absurd h1.symm (hd_ne (by decide))
        have hg3 : w3.heap[g]? = some (.cells #[.slice none 0 0] 31 (0, 0)) := (hgr3.out.block g (lt_of_block hg0) (by have := HS2.out; simp; omega)).trans hg0
        have hgc := cell_of_one hg3
        have hgl := lt_of_block hg3
        have hgf := free_of_one hg3
        have HN1 : Hid (cur es (seen.push e.born) 3 = [] ++ [0, 0, c4, d4]) := by rw [HN.out.2, HHD.out]; rfl
        have HG0 := Lib.hid hg0
        have HCUR := Lib.hid hcur
        clear hg0 hcur
        go_wp2_with fail
        go_region_law (refine step_pushL rfl (.tmp 25) (.tmp 26) rfl (bs := []) [0, 0, c4, d4] w3.heap.size 4 (by simp [Act.eval]) (by simp [Act.eval]) hg3 (World.ownsRow_nil _ _ _ _) (by simp) (by simp) (by exact ((Below.refl _ w3).alloc (Nat.le_refl _) _).drew) (four_cells w3 _ _ _ _ _) ?_; intro g' cap w' h1 h2 h3 h4 h5)
        all_goals
          go_wp2
          go_roundw
          case rel =>
            refine gath_next hmp hbw HS2.out HRl.out hr3.out hgr3.out hsz3.out (fun i hi1 hi2 => ?_) h4.out (.inr ⟨HN.out.2, by rw [HHD.out]; exact h3.out⟩)
            rw [Below.heap_setCell _ _ _ _ (by simp; omega), h5.out.block i (by simp; omega) (by simp [Value.ownBlock])]
            exact Below.heap_alloc _ _ _ hi2
          case measure =>
            rw [HIS.out, iterSeen_of (show (w'.setCell ⟨g, 0, none⟩ _).heap[R]? = _ from ((Below.heap_setCell _ _ _ _ (by have := HS2.out; simp; omega)).trans ((h5.out.block R (by have := hsz3.out; have := HRl.out; simp; omega) (by simp [Value.ownBlock])).trans (Below.heap_alloc _ _ _ (by have := HRl.out; have := hsz3.out; omega)))).trans hr3.out)]
            exact left_shrinks es seen e HE.out
      · have hkk' : (kv == 3) = false := by simpa using hkk
        have HN : Hid (cur es (seen.push e.born) 3 = cur es seen 3) := cur_miss HES.out HE.out (by rw [HVAL.out]; exact hkk)
        have HCUR := Lib.hid hcur
        clear hkk hcur
        go_wp2_with fail
        go_roundw
        case rel =>
          refine gath_next hmp hbw HS2.out HRl.out hr3.out hgr3.out hsz3.out (fun i _ h => Below.heap_alloc _ _ _ h) ((Below.refl _ _).alloc (by have := HS2.out; have := HRl.out; have := hsz3.out; omega) _) ?_
          rw [HN.out]
          have hl : g < wr.heap.size := by have := HS2.out; have := HRl.out; omega
          have e : ∀ o, (w3.alloc o).heap[g]? = wr.heap[g]? := fun o => (Below.heap_alloc _ _ _ (by have := hsz3.out; omega)).trans (hgr3.out.block g hl (by have := HS2.out; simp; omega))
          rcases HCUR.out with ⟨h1, h2⟩ | ⟨h1, v, h2, h3⟩
          · exact .inl ⟨h1, (e _).trans h2⟩
          · refine .inr ⟨h1, v, (e _).trans h2, ?_⟩
            exact (h3.kept hgr3.out (.inr (own_ne_obj h3 hr))).alloc _
        case measure =>
          rw [HIS.out, iterSeen_of (show (w3.alloc _).heap[R]? = _ from (Below.heap_alloc _ _ _ (by have := HRl.out; have := hsz3.out; omega)).trans hr3.out)]
          exact left_shrinks es seen e HE.out

end Go.Proofs.YtcahlponmbnkcaaDoor
