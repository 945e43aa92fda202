/- Proved: 'BpduTells' returns true for every two messages and every frame, and its arguments read afterwards as before. The card lists toll/bpdu.group and toll/bpdu.sap with what the program's text lays there. -/
import Derived.Test.YtcahlponmbnkcaaDoorG1
import Derived.Test.YtcahlponmbnkcaaDoorCards
import Derived.Test.YtcahlponmbnkcaaDoorTie
import Derived.Stop.Joined
import Derived.SevenTiedAt
namespace Go.Proofs.YtcahlponmbnkcaaDoor
open Go Go.ChangeShapes Go.WideShapes Go.ChangeAt Go.RowKit

theorem own : ownKnob Tryd.prog.godebug = none := by kernel_rfl
theorem laidOut : laidOutB Tryd.prog = true := by kernel_rfl

abbrev laid2 : List (String × DataW Unit) := [("toll/bpdu.group", Rows.laid_toll_bpdu_group), ("toll/bpdu.sap", Rows.laid_toll_bpdu_sap)]

theorem door_met (os : Os) (args : Array Value) : laidMetH Tryd.prog laid2 ((World.doorLaid Tryd.prog 400 os).forCall (fun _ _ => 0) ⟨#[], args, []⟩).memory :=
  laidMetH_of_parts3 (fuel := 8) (laidMet_of_run' 8 (by kernel_rfl) (by kernel_rfl)) (by kernel_rfl) (by kernel_rfl)

theorem of_laid {W : World} (h : laidMetH Tryd.prog laid2 W) : Gl W := by
  rw [MakeChecks.laidMetH_plain _ _ _ (by kernel_rfl)] at h
  obtain ⟨ps, ⟨g0, t0, cs0, f0, p0, q0, hg0, ht0, hv0, hd0, ⟨g1, t1, cs1, f1, p1, q1, hg1, ht1, hv1, hd1, _, _⟩, _⟩, _, _⟩ := h
  obtain rfl := Option.some.inj (gGroup.symm.trans hg0)
  obtain rfl := Option.some.inj (gSap.symm.trans hg1)
  obtain rfl := Option.some.inj (tGroup.symm.trans ht0)
  obtain rfl := Option.some.inj (tSap.symm.trans ht1)
  exact gl_of hv0 hd0 hv1 hd1

set_option maxRecDepth 100000 in
theorem tells_lifted (os : Os) (started : os.Started) (H : Type) (enc : TypeId × Value → H) :
    ReturnsInHanded {} Tryd.checked os 3 .any (fun w args => (Rows.bpduTellsSpec.pre enc Tryd.prog Tryd.f3 [] false w args ∧ laidMetH Tryd.prog laid2 w) ∧ sizedMet enc Tryd.prog Tryd.f3 (OpenSpec.ofChange Rows.bpduTellsSpec) false w args)
      (Rows.bpduTellsSpec.post enc Tryd.prog Tryd.f3 false true false false) := by
  refine returnsInHanded_of_change_and (C := Tryd.checked) (X := fun w _ => laidMetH Tryd.prog laid2 w) (fun _ _ _ hh h => h.of_heap hh) own started (by kernel_rfl) Tryd.func3
    (ChangeSpec.witness_shaped (enc := enc) (C := Tryd.checked) (os := os) (X := fun w _ => laidMetH Tryd.prog laid2 w) false (World.doorLaid Tryd.prog 400 os)
      #[msgV 0 0 0 0 0 0 0 0 0 0, msgV 0 0 0 0 0 0 0 0 0 0, frameV 0 0 0 0 0 0 0 0 0 0 0 0 (.slice none 0 0) 0 0 0 0 0 0 0 0 (.slice none 0 0) (.slice none 0 0)] 8 rfl (World.shaped_of_RefB (by kernel_rfl) (by kernel_rfl)) (by kernel_rfl) (by kernel_rfl) (by kernel_rfl) (door_met os _)) ?_
  intro W base args ds gs before hval0 hW _ _ hL _
  have hval : ∀ (j : Nat) t v, Tryd.f3.params[j]? = some t → args[j]? = some v → Value.okWide Tryd.prog W .any base t v := hval0
  have hW' := hW
  obtain ⟨p, q, hA0, hV, rfl, hfz, hnd⟩ := hW
  have hA : DataW.TrodAll enc Tryd.prog W 0 (fun _ => true) true Tryd.f3.params.toList args.toList ds p := hA0
  rw [Tryd.params3] at hA hval
  obtain ⟨v0, v1, v2, d0, d1, d2, p0, p1, p2, rfl, rfl, rfl, h0, h1, h2⟩ := trodAll_three hA
  obtain ⟨rfl, rfl⟩ := trodVars_none hV
  have hG := of_laid hL
  have k0 := h0
  have k1 := h1
  have k2 := h2
  have lt0 : ∀ x ∈ p0, x.block < W.heap.size := by obtain ⟨m, hm⟩ := k0; exact DataW.trod_lt m _ _ _ hm
  have lt1 : ∀ x ∈ p1, x.block < W.heap.size := by obtain ⟨m, hm⟩ := k1; exact DataW.trod_lt m _ _ _ hm
  have lt2 : ∀ x ∈ p2, x.block < W.heap.size := by obtain ⟨m, hm⟩ := k2; exact DataW.trod_lt m _ _ _ hm
  obtain ⟨c0, rfl, _⟩ := okWide_struct Tryd.underlying26 (hval 0 26 v0 rfl rfl)
  obtain ⟨c1, rfl, _⟩ := okWide_struct Tryd.underlying26 (hval 1 26 v1 rfl rfl)
  obtain ⟨c2, rfl, _⟩ := okWide_struct Tryd.underlying33 (hval 2 33 v2 rfl rfl)
  obtain ⟨m0, hm0⟩ := h0
  obtain ⟨m1, hm1⟩ := h1
  obtain ⟨m2, hm2⟩ := h2
  obtain ⟨k, f, r, b, c, p, a, x, h, d, e0, F0⟩ := msg_open hm0
  obtain ⟨k', f', r', b', c', p', a', x', h', d', e1, F1⟩ := msg_open hm1
  obtain ⟨e0', e1', e2', e3', e4', e5', s0, s1, s2, s3, s4, s5, kind, typ, l0, l1, l2, o0, o1, o2, ta, ba, ra, tn, tc, bn, bc, rn, rc, hle, hmx, e2⟩ := frame_open hm2
  obtain ⟨c0⟩ := c0
  obtain ⟨c1⟩ := c1
  obtain ⟨c2⟩ := c2
  obtain rfl := (show c0 = _ from e0)
  obtain rfl := (show c1 = _ from e1)
  obtain rfl := (show c2 = _ from e2)
  clear hA0 hval0 hm0 hm1 hm2
  refine (bpduTells_walk k f r b c p a x h d k' f' r' b' c' p' a' x' h' d' F0 F1 e0' e1' e2' e3' e4' e5' s0 s1 s2 s3 s4 s5 kind typ l0 l1 l2 o0 o1 o2 ta ba ra tn tc bn bc rn rc hle hmx W hG).mono fun e W' ⟨he, bel⟩ => ?_
  subst he
  exact ⟨_, rfl, _, _, _, [], _, [], hW', trodAll_mk1 (shut_bool Tryd.underlying4 _), (trodAll_cons_mk (Below.trod laidOut (by kernel_rfl) (of_decide_eq_true (by kernel_rfl)) k0 bel lt0)
    (trodAll_cons_mk (Below.trod laidOut (by kernel_rfl) (of_decide_eq_true (by kernel_rfl)) k1 bel lt1) (trodAll_cons_mk (Below.trod laidOut (by kernel_rfl) (of_decide_eq_true (by kernel_rfl)) k2 bel lt2) trodAll_mk0))), rfl, bel.frame _, fun h => by cases h⟩

theorem bpduTells_said : Rows.BpduTellsSaid :=
  OpenClaim.holds_of_wide 3 Tryd.f3 rfl rfl rfl rfl rfl rfl rfl ⟨rfl, rfl, rfl, rfl, rfl⟩ rfl rfl rfl rfl rfl (by kernel_rfl) Tryd.func3 (by kernel_rfl)
    (of_decide_eq_true (by kernel_rfl)) (by unfold Func.isWrapper; first | (rw [if_pos (by decide +kernel)]; kernel_rfl) | (rw [if_neg (by decide +kernel)]; exact ⟨rfl, rfl⟩))
    (fun os started H enc _ => tells_lifted os started H enc)

theorem bpduTells_holds : Rows.BpduTellsCardSaid :=
  Claim7.holds_tied_plain_at .later [] [.data, .data] true (true, "2ed0f858d08b210307e978f593e5223900629fdf2d273081e7418294d7ceb40e") false
    bpduTells_said (fun _ h => by cases h) (by kernel_rfl) (fun _ h => by cases h) bpduTells_row_tie rfl ⟨rfl, rfl⟩ (by kernel_rfl) rfl
    (fun f fn hf hfn => by
      obtain rfl : f = 3 := Option.some.inj ((show Tryd.prog.funcNamed "toll/tolllaw10.BpduTells" = some 3 by kernel_rfl).symm.trans hf) |>.symm
      obtain rfl : fn = Tryd.f3 := (Option.some.inj (Tryd.func3.symm.trans hfn)).symm
      exact ⟨by kernel_rfl, fun j t ht => by
        rw [Tryd.params3] at ht
        have hm : t ∈ [26, 26, 33] := by simpa using Array.mem_of_getElem? ht
        have hall : ([26, 26, 33].all fun u => !Tryd.prog.wantsStandIn u) = true := by kernel_rfl
        exact (show Tryd.prog.wantsStandIn t = false by simpa using List.all_eq_true.1 hall t hm)⟩)
    (by kernel_rfl)
#print axioms bpduTells_holds
end Go.Proofs.YtcahlponmbnkcaaDoor
