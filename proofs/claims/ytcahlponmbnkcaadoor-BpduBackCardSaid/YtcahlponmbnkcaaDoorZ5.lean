/- BPDU: Get of any bytes; appends in a region that draws. -/
import Derived.Test.YtcahlponmbnkcaaDoorZ4
import Derived.Test.YtcahlponmbnkcaaDoorX5
import Derived.Test.YtcahlponmbnkcaaDoorY1
namespace Go.Proofs.YtcahlponmbnkcaaDoor
open Go Go.RowKit

theorem get19 (v : Value) (bs : List Int) (w : World) (hr : Rd w v bs) (hl : bs.length ≤ 2000) (hb : ∀ z ∈ bs, 0 ≤ z ∧ z < 256) :
    Calls Tryd.prog 19 #[v] w fun e w' => e = .returned (.tuple #[getV bs, .int .i64 (getE bs)]) ∧ Below w.heap.size w w' := by
  by_cases h4 : bs.length < 4
  · obtain ⟨a, c, rfl⟩ := hr.form
    have hE : getE bs = 4 := by unfold getE; rw [if_pos h4]
    rw [(get_no (by rw [hE]; decide)).2, hE]
    exact get_short a bs.length c w h4
  · rcases hr with ⟨_, rfl⟩ | ⟨b, off, cap, rfl, h1, h2, h3⟩
    · exact absurd (by decide) h4
    · exact get_long b off cap bs.length bs w (.inr ⟨b, off, cap, rfl, h1, h2, h3⟩) (by omega) hl hb

theorem getV_form (bs : List Int) : ∃ k f r b c p a x h d : Int, getV bs = msgV k f r b c p a x h d := by
  unfold getV
  split
  · split
    · exact ⟨_, _, _, _, _, _, _, _, _, _, rfl⟩
    · exact ⟨_, _, _, _, _, _, _, _, _, _, rfl⟩
  · exact ⟨_, _, _, _, _, _, _, _, _, _, rfl⟩

theorem putL_range {k f r b c p a x h d : Int} (_hk : k = 1 ∨ k = 2 ∨ k = 3) : ∀ z ∈ putL k f r b c p a x h d, 0 ≤ z ∧ z < 256 := by
  intro z hz
  unfold putL at hz
  have hh : ∀ k : Int, ∀ z ∈ hd k, 0 ≤ z ∧ z < 256 := by
    intro k z hz
    unfold hd at hz
    split at hz
    · simp at hz; omega
    · split at hz
      · simp at hz; omega
      · split at hz
        · simp at hz; omega
        · simp at hz
  split at hz
  · exact hh _ z hz
  · simp only [List.mem_append] at hz
    rcases hz with (((((((((e | e) | e) | e) | e) | e) | e) | e) | e) | e) | e
    · exact hh _ z e
    all_goals first
      | exact beI_range _ _ z e
      | (split at e; exact beI_range _ _ z e; cases e)

theorem conv_rd {w : World} {v : Value} {bs : List Int} (h : Rd w v bs) : (convert 31 9 v).run Tryd.prog w = .ok (.string (strOf bs)) w := by
  rcases h with ⟨rfl, rfl⟩ | ⟨g, off, cap, rfl, h1, h2, h3⟩
  · rw [run_convert_bytes_string w 31 9 5 _ _ _ Tryd.underlying31 Tryd.underlying5 Tryd.underlying9]
    rfl
  · rw [run_convert_bytes_string w 31 9 5 _ _ _ Tryd.underlying31 Tryd.underlying5 Tryd.underlying9]
    refine run_bytesToString w ⟨g, off, none⟩ bs.length cap bs ?_
    have := run_loadCells_list (P := Tryd.prog) w ⟨g, off, none⟩ (bs.map (Value.int .u8)) (fun j u hu => by rw [Addr.add_lit]; exact h3 j u hu)
    simpa using this

theorem wp_appendR {w : World} {o : Oper} {a : Act} {K : Act → World → Prop} {Q : Exit → Act → World → Prop} (s x : Operand)
    (hop : o.op = Op.call { callee := Callee.builtin Builtin.append, args := #[s, x], argTypes := #[31, 31] }) (B : Nat) (v v2 : Value) (bs ys : List Int) (hs : a.eval s = v) (hown : Bytes B w v bs)
    (hx : a.eval x = v2) (hr : Rd w v2 ys) (h1 : bs.length ≤ 100000) (h2 : ys.length ≤ 100000) (hB : B ≤ w.heap.size)
    (hK : ∀ (v' : Value) (w' : World), Bytes B w' v' (bs ++ ys) → Below B w w' → (∀ (g : Nat) (cs : Array Value) (t : TypeId), t ≠ 5 → w.heap[g]? = some (Obj.cells cs t (0, 0)) → w'.heap[g]? = some (Obj.cells cs t (0, 0))) → K (a.put o.dst v') w') : o.wp Tryd.prog a w K Q := by
  obtain ⟨i0, hi, hz0, hz1, hz2⟩ := info_parts Tryd.info5
  rcases hr with ⟨e, rfl⟩ | ⟨b, off, cap, e, g1, g2, g3⟩
  · have hrun := run_append_owned_none (P := Tryd.prog) (w := w) B 31 o.type 5 i0 1 Tryd.underlying31 hi v bs.length (bs.map (Value.int .u8)) hown
    unfold Oper.wp
    simp [execOp, hop, resolve, invoke, builtin, hs, hx.trans e, hrun, Result.andThen]
    exact hK _ _ (by simpa using hown) (Below.refl _ _) (fun _ _ _ _ h => h)
  · refine wp_append_own w s x 31 hop B 5 i0 (.int .u8 0) 1 1 Tryd.underlying31 hi hz0 hz1 hz2 rfl (by decide) v bs.length (bs.map (Value.int .u8)) hs hown ⟨b, off, none⟩ ys.length cap (ys.map (Value.int .u8)) (hx.trans e) (by simp)
      (fun j u hu => by rw [Addr.add_lit]; exact g3 j u hu) ?_ (by unfold maxLen; omega) (by omega) hB ?_
    · intro u hu
      obtain ⟨_, _, rfl⟩ := List.mem_map.1 hu
      rfl
    · intro v' w' hown' hgrow _
      refine hK v' w' ?_ ((Below.refl _ _).grown hgrow hB (fun j hj => ?_)) (fun g cs t ht hg => ?_)
      · show w'.ownsRow _ _ _ _ _ _
        simpa using hown'
      · rcases hown.2 with ⟨e1, _⟩ | ⟨g, c, cur, e1, hg, _⟩
        · rw [e1] at hj; cases hj
        · rw [e1] at hj
          simp only [Value.ownBlock, Option.some.injEq] at hj
          omega
      · refine (hgrow.block g (lt_of_block hg) (fun e => ?_)).trans hg
        rcases hown.2 with ⟨e1, _⟩ | ⟨g', c, cur, e1, _, hh, _⟩
        · rw [e1] at e; cases e
        · rw [e1] at e
          simp only [Value.ownBlock, Option.some.injEq] at e
          subst e
          rw [hh] at hg
          injection hg with hg
          injection hg with _ h2 _
          exact ht h2.symm

theorem Rd.len {w : World} {a : Option Addr} {n c : Nat} {bs : List Int} (h : Rd w (.slice a n c) bs) : n = bs.length ∧ n ≤ c := by
  rcases h with ⟨e, rfl⟩ | ⟨b, off, cap, e, h1, _, _⟩
  · injection e with e1 e2 e3
    exact ⟨e2, by omega⟩
  · injection e with e1 e2 e3
    exact ⟨e2, by omega⟩
end Go.Proofs.YtcahlponmbnkcaaDoor
