/- Proved: 'BpduIs' returns true for every source, every body, every number and every byte, and its arguments read afterwards as before. The card lists toll/tag.kinds, toll/ether.sap, toll/bpdu.group and toll/bpdu.sap with what the program's text lays there. -/
import Derived.Test.YtcahlponmbnkcaaDoorX4
import Derived.Test.YtcahlponmbnkcaaDoorY1
import Derived.Test.YtcahlponmbnkcaaDoorCards
import Derived.Test.YtcahlponmbnkcaaDoorTie
import Derived.Stop.Joined
import Derived.SevenTiedAt
import Derived.Carry
namespace Go.Proofs.YtcahlponmbnkcaaDoor
open Go Go.ChangeShapes Go.WideShapes Go.ChangeAt Go.RowKit

theorem ownIs : ownKnob Tryd.prog.godebug = none := by kernel_rfl
theorem laidOutIs : laidOutB Tryd.prog = true := by kernel_rfl

abbrev laid4 : List (String × DataW Unit) := [("toll/tag.kinds", Rows.laid_toll_tag_kinds), ("toll/ether.sap", Rows.laid_toll_ether_sap), ("toll/bpdu.group", Rows.laid_toll_bpdu_group), ("toll/bpdu.sap", Rows.laid_toll_bpdu_sap)]

theorem door_met4 (os : Os) (args : Array Value) : laidMetH Tryd.prog laid4 ((World.doorLaid Tryd.prog 400 os).forCall (fun _ _ => 0) ⟨#[], args, []⟩).memory :=
  laidMetH_of_parts3 (fuel := 8) (laidMet_of_run' 8 (by kernel_rfl) (by kernel_rfl)) (by kernel_rfl) (by kernel_rfl)

theorem of_laid4 {W : World} (h : laidMetH Tryd.prog laid4 W) : Gl W ∧ Gk W := by
  rw [MakeChecks.laidMetH_plain _ _ _ (by kernel_rfl)] at h
  obtain ⟨ps, ⟨g2, t2, cs2, f2, p2, q2, hg2, ht2, hv2, hd2, ⟨g3, t3, cs3, f3, p3, q3, hg3, ht3, hv3, hd3, ⟨g0, t0, cs0, f0, p0, q0, hg0, ht0, hv0, hd0, ⟨g1, t1, cs1, f1, p1, q1, hg1, ht1, hv1, hd1, _, _⟩, _⟩, _⟩, _⟩, _, _⟩ := h
  obtain rfl := Option.some.inj (gGroup.symm.trans hg0)
  obtain rfl := Option.some.inj (gSap.symm.trans hg1)
  obtain rfl := Option.some.inj (gKinds.symm.trans hg2)
  obtain rfl := Option.some.inj (gEsap.symm.trans hg3)
  obtain rfl := Option.some.inj (tGroup.symm.trans ht0)
  obtain rfl := Option.some.inj (tSap.symm.trans ht1)
  obtain rfl := Option.some.inj (tKinds.symm.trans ht2)
  obtain rfl := Option.some.inj (tEsap.symm.trans ht3)
  exact ⟨gl_of hv0 hd0 hv1 hd1, gk_of hv2 hd2 hv3 hd3⟩

set_option maxRecDepth 100000 in
/-- A source's six bytes. -/
theorem six_arg {W : World} {b : Nat} {v : Value} {H : Type} {enc : TypeId × Value → H} {d : DataW H} {p : List MemPlace} (hv : Value.okWide Tryd.prog W .any b 27 v) (h : DataW.Trod enc Tryd.prog W 0 (fun _ => true) true 27 v d p) :
    ∃ s0 s1 s2 s3 s4 s5 : Int, v = .agg #[.int .u8 s0, .int .u8 s1, .int .u8 s2, .int .u8 s3, .int .u8 s4, .int .u8 s5] := by
  obtain ⟨cs, rfl, hsz⟩ : ∃ cs, v = .agg cs ∧ cs.size = Tryd.prog.cellsOf 27 := by
    simp only [Value.okWide, Tryd.underlying27] at hv
    obtain ⟨cs, rfl, h2, _⟩ := hv
    exact ⟨cs, rfl, h2⟩
  obtain ⟨m, hm⟩ := h
  rw [cells27] at hsz
  obtain ⟨l⟩ := cs
  have hm' : DataW.trod enc Tryd.prog W 0 (fun _ => true) true m 27 l = some (d, p) := hm
  obtain ⟨zs, hz, _⟩ := arr_open Tryd.underlying27 hm' (by simpa using hsz)
  have hn : zs.length = 6 := by have := congrArg List.length hz; simp at this hsz; omega
  obtain ⟨s0, u0, rfl, hn0⟩ := len_succ hn
  obtain ⟨s1, u1, rfl, hn1⟩ := len_succ hn0
  obtain ⟨s2, u2, rfl, hn2⟩ := len_succ hn1
  obtain ⟨s3, u3, rfl, hn3⟩ := len_succ hn2
  obtain ⟨s4, u4, rfl, hn4⟩ := len_succ hn3
  obtain ⟨s5, u5, rfl, hn5⟩ := len_succ hn4
  obtain rfl := len_zero hn5
  subst hz
  exact ⟨s0, s1, s2, s3, s4, s5, rfl⟩

set_option maxRecDepth 100000 in
theorem is_lifted (os : Os) (started : os.Started) (H : Type) (enc : TypeId × Value → H) :
    ReturnsInHanded {} Tryd.checked os 4 .any (fun w args => (Rows.bpduIsSpec.pre enc Tryd.prog Tryd.f4 [] false w args ∧ laidMetH Tryd.prog laid4 w) ∧ sizedMet enc Tryd.prog Tryd.f4 (OpenSpec.ofChange Rows.bpduIsSpec) false w args)
      (Rows.bpduIsSpec.post enc Tryd.prog Tryd.f4 false true false false) := by
  refine returnsInHanded_of_change_and (C := Tryd.checked) (X := fun w _ => laidMetH Tryd.prog laid4 w) (fun _ _ _ hh h => h.of_heap hh) ownIs started (by kernel_rfl) Tryd.func4
    (ChangeSpec.witness_shaped (enc := enc) (C := Tryd.checked) (os := os) (X := fun w _ => laidMetH Tryd.prog laid4 w) false (World.doorLaid Tryd.prog 400 os)
      #[.agg #[.int .u8 0, .int .u8 0, .int .u8 0, .int .u8 0, .int .u8 0, .int .u8 0], .slice none 0 0, .int .u16 0, .int .u8 0] 8 rfl (World.shaped_of_RefB (by kernel_rfl) (by kernel_rfl)) (by kernel_rfl) (by kernel_rfl) (by kernel_rfl) (door_met4 os _)) ?_
  intro W base args ds gs before hval0 hW _ _ hL _
  have hval : ∀ (j : Nat) t v, Tryd.f4.params[j]? = some t → args[j]? = some v → Value.okWide Tryd.prog W .any base t v := hval0
  have hW' := hW
  obtain ⟨p, q, hA0, hV, rfl, hfz, hnd⟩ := hW
  have hA : DataW.TrodAll enc Tryd.prog W 0 (fun _ => true) true Tryd.f4.params.toList args.toList ds p := hA0
  rw [Tryd.params4] at hA hval
  obtain ⟨v0, v1, v2, v3, d0, d1, d2, d3, p0, p1, p2, p3, rfl, rfl, rfl, h0, h1, h2, h3⟩ := trodAll_four hA
  obtain ⟨rfl, rfl⟩ := trodVars_none hV
  obtain ⟨hGl, hGk⟩ := of_laid4 hL
  have lt0 : ∀ x ∈ p0, x.block < W.heap.size := by obtain ⟨m, hm⟩ := h0; exact DataW.trod_lt m _ _ _ hm
  have lt1 : ∀ x ∈ p1, x.block < W.heap.size := by obtain ⟨m, hm⟩ := h1; exact DataW.trod_lt m _ _ _ hm
  have lt2 : ∀ x ∈ p2, x.block < W.heap.size := by obtain ⟨m, hm⟩ := h2; exact DataW.trod_lt m _ _ _ hm
  have lt3 : ∀ x ∈ p3, x.block < W.heap.size := by obtain ⟨m, hm⟩ := h3; exact DataW.trod_lt m _ _ _ hm
  obtain ⟨s0, s1, s2, s3, s4, s5, e0⟩ := six_arg (hval 0 27 v0 rfl rfl) h0
  obtain ⟨ba, n, bc, bs, e1, hr, _⟩ := bytes_arg (hval 1 31 v1 rfl rfl) h1
  obtain ⟨number, e2, hn0, hn1⟩ : ∃ k, v2 = .int .u16 k ∧ 0 ≤ k ∧ k < 65536 := by
    obtain ⟨k, rfl⟩ := okWide_int Tryd.underlying24 (hval 2 24 v2 rfl rfl)
    obtain ⟨m, hm⟩ := h2
    obtain ⟨k', e, _, hw⟩ := DataW.trod_int Tryd.underlying24 hm
    simp [Value.cells] at e
    subst e
    have := bounds_u16 hw
    exact ⟨_, rfl, by omega, by omega⟩
  obtain ⟨pt, e3, ha0, ha1⟩ : ∃ k, v3 = .int .u8 k ∧ 0 ≤ k ∧ k < 256 := by
    obtain ⟨k, rfl⟩ := okWide_int Tryd.underlying5 (hval 3 5 v3 rfl rfl)
    obtain ⟨m, hm⟩ := h3
    obtain ⟨k', e, _, hw⟩ := DataW.trod_int Tryd.underlying5 hm
    simp [Value.cells] at e
    subst e
    have := bounds_u8 hw
    exact ⟨_, rfl, by omega, by omega⟩
  subst e0 e1 e2 e3
  refine (is_walk s0 s1 s2 s3 s4 s5 number pt ba n bc bs W hGl hGk hr hGk.lt hn0 hn1 ha0 ha1).mono fun e W' ⟨he, bel⟩ => ?_
  subst he
  exact ⟨_, rfl, _, _, _, [], _, [], hW', trodAll_mk1 (shut_bool Tryd.underlying4 _), (trodAll_cons_mk (Below.trod laidOutIs (by kernel_rfl) (of_decide_eq_true (by kernel_rfl)) h0 bel lt0)
    (trodAll_cons_mk (Below.trod laidOutIs (by kernel_rfl) (of_decide_eq_true (by kernel_rfl)) h1 bel lt1) (trodAll_cons_mk (Below.trod laidOutIs (by kernel_rfl) (of_decide_eq_true (by kernel_rfl)) h2 bel lt2)
      (trodAll_cons_mk (Below.trod laidOutIs (by kernel_rfl) (of_decide_eq_true (by kernel_rfl)) h3 bel lt3) trodAll_mk0)))), rfl, bel.frame _, fun h => by cases h⟩

theorem bpduIs_said : Rows.BpduIsSaid :=
  OpenClaim.holds_of_wide 4 Tryd.f4 rfl rfl rfl rfl rfl rfl rfl ⟨rfl, rfl, rfl, rfl, rfl⟩ rfl rfl rfl rfl rfl (by kernel_rfl) Tryd.func4 (by kernel_rfl)
    (of_decide_eq_true (by kernel_rfl)) (by unfold Func.isWrapper; first | (rw [if_pos (by decide +kernel)]; kernel_rfl) | (rw [if_neg (by decide +kernel)]; exact ⟨rfl, rfl⟩))
    (fun os started H enc _ => is_lifted os started H enc)

theorem bpduIs_holds : Rows.BpduIsCardSaid :=
  Claim7.holds_tied_plain_at .later [] [.widerDeep, .data, .data, .data] true (true, "2ed0f858d08b210307e978f593e5223900629fdf2d273081e7418294d7ceb40e") false
    bpduIs_said (fun _ h => by cases h) (by kernel_rfl) (fun _ h => by cases h) bpduIs_row_tie rfl ⟨rfl, rfl⟩ (by kernel_rfl) rfl
    (fun f fn hf hfn => by
      obtain rfl : f = 4 := Option.some.inj ((show Tryd.prog.funcNamed "toll/tolllaw10.BpduIs" = some 4 by kernel_rfl).symm.trans hf) |>.symm
      obtain rfl : fn = Tryd.f4 := (Option.some.inj (Tryd.func4.symm.trans hfn)).symm
      exact ⟨by kernel_rfl, fun j t ht => by
        rw [Tryd.params4] at ht
        have hm : t ∈ [27, 31, 24, 5] := by simpa using Array.mem_of_getElem? ht
        have hall : ([27, 31, 24, 5].all fun u => !Tryd.prog.wantsStandIn u) = true := by kernel_rfl
        exact (show Tryd.prog.wantsStandIn t = false by simpa using List.all_eq_true.1 hall t hm)⟩)
    (by kernel_rfl)
#print axioms bpduIs_holds
end Go.Proofs.YtcahlponmbnkcaaDoor
