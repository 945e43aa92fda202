/- Proved: 'BpduBack' returns true for every message, whatever bytes stand behind, every source, every row of bytes and every cut, and its arguments read afterwards as before. The card lists toll/tag.kinds, toll/ether.sap, toll/bpdu.group and toll/bpdu.sap with what the program's text lays there. -/
import Derived.Test.YtcahlponmbnkcaaDoorZ6
import Derived.Test.YtcahlponmbnkcaaDoorZ7
import Derived.Test.YtcahlponmbnkcaaDoorIs
namespace Go.Proofs.YtcahlponmbnkcaaDoor
open Go Go.ChangeShapes Go.WideShapes Go.ChangeAt Go.RowKit

section
variable {H : Type} {enc : TypeId × Value → H} {P : Program} {w : World} {base : Nat} {spare : Nat → Bool} {held : Bool}
theorem trodAll_five {t t' t'' t3 t4 : TypeId} {args : Array Value} {ds : List (DataW H)} {ps : List MemPlace} (h : DataW.TrodAll enc P w base spare held [t, t', t'', t3, t4] args.toList ds ps) :
    ∃ v v' v'' v3 v4 d d' d'' d3 d4 p p' p'' p3 p4, args = #[v, v', v'', v3, v4] ∧ ds = [d, d', d'', d3, d4] ∧ ps = p ++ p' ++ p'' ++ p3 ++ p4 ∧ DataW.Trod enc P w base spare held t v d p ∧ DataW.Trod enc P w base spare held t' v' d' p' ∧ DataW.Trod enc P w base spare held t'' v'' d'' p'' ∧ DataW.Trod enc P w base spare held t3 v3 d3 p3 ∧ DataW.Trod enc P w base spare held t4 v4 d4 p4 := by
  obtain ⟨v, vs, d, ds', p, q, hargs, rfl, rfl, hd, hrest⟩ := trodAll_cons h
  obtain ⟨v', vs', d', ds'', p', q', rfl, rfl, rfl, hd', hrest'⟩ := trodAll_cons hrest
  obtain ⟨v'', vs'', d'', ds''', p'', q'', rfl, rfl, rfl, hd'', hrest''⟩ := trodAll_cons hrest'
  obtain ⟨v3, vs3, d3, ds3, p3, q3, rfl, rfl, rfl, hd3, hrest3⟩ := trodAll_cons hrest''
  obtain ⟨v4, vs4, d4, ds4, p4, q4, rfl, rfl, rfl, hd4, hrest4⟩ := trodAll_cons hrest3
  obtain ⟨rfl, rfl, rfl⟩ := trodAll_nil hrest4
  exact ⟨v, v', v'', v3, v4, d, d', d'', d3, d4, p, p', p'', p3, p4, by cases args; simp_all, rfl, by simp, hd, hd', hd'', hd3, hd4⟩
end

set_option maxRecDepth 100000 in
theorem back_lifted (os : Os) (started : os.Started) (H : Type) (enc : TypeId × Value → H) :
    ReturnsInHanded {} Tryd.checked os 5 .any (fun w args => (Rows.bpduBackSpec.pre enc Tryd.prog Tryd.f5 [] false w args ∧ laidMetH Tryd.prog laid4 w) ∧ sizedMet enc Tryd.prog Tryd.f5 (OpenSpec.ofChange Rows.bpduBackSpec) false w args)
      (Rows.bpduBackSpec.post enc Tryd.prog Tryd.f5 false true false false) := by
  refine returnsInHanded_of_change_and (C := Tryd.checked) (X := fun w _ => laidMetH Tryd.prog laid4 w) (fun _ _ _ hh h => h.of_heap hh) ownIs started (by kernel_rfl) Tryd.func5
    (ChangeSpec.witness_shaped (enc := enc) (C := Tryd.checked) (os := os) (X := fun w _ => laidMetH Tryd.prog laid4 w) false (World.doorLaid Tryd.prog 400 os)
      #[msgV 0 0 0 0 0 0 0 0 0 0, .slice none 0 0, .agg #[.int .u8 0, .int .u8 0, .int .u8 0, .int .u8 0, .int .u8 0, .int .u8 0], .slice none 0 0, .int .u8 0] 8 rfl (World.shaped_of_RefB (by kernel_rfl) (by kernel_rfl)) (by kernel_rfl) (by kernel_rfl) (by kernel_rfl) (door_met4 os _)) ?_
  intro W base args ds gs before hval0 hW _ _ hL _
  have hval : ∀ (j : Nat) t v, Tryd.f5.params[j]? = some t → args[j]? = some v → Value.okWide Tryd.prog W .any base t v := hval0
  have hW' := hW
  obtain ⟨p, q, hA0, hV, rfl, hfz, hnd⟩ := hW
  have hA : DataW.TrodAll enc Tryd.prog W 0 (fun _ => true) true Tryd.f5.params.toList args.toList ds p := hA0
  rw [Tryd.params5] at hA hval
  obtain ⟨v0, v1, v2, v3, v4, d0, d1, d2, d3, d4, p0, p1, p2, p3, p4, rfl, rfl, rfl, h0, h1, h2, h3, h4⟩ := trodAll_five hA
  obtain ⟨rfl, rfl⟩ := trodVars_none hV
  obtain ⟨hGl, hGk⟩ := of_laid4 hL
  have lt0 : ∀ x ∈ p0, x.block < W.heap.size := by obtain ⟨m, hm⟩ := h0; exact DataW.trod_lt m _ _ _ hm
  have lt1 : ∀ x ∈ p1, x.block < W.heap.size := by obtain ⟨m, hm⟩ := h1; exact DataW.trod_lt m _ _ _ hm
  have lt2 : ∀ x ∈ p2, x.block < W.heap.size := by obtain ⟨m, hm⟩ := h2; exact DataW.trod_lt m _ _ _ hm
  have lt3 : ∀ x ∈ p3, x.block < W.heap.size := by obtain ⟨m, hm⟩ := h3; exact DataW.trod_lt m _ _ _ hm
  have lt4 : ∀ x ∈ p4, x.block < W.heap.size := by obtain ⟨m, hm⟩ := h4; exact DataW.trod_lt m _ _ _ hm
  obtain ⟨zk, zf, zr, zb, zc, zp, za, zx, zh, zd, e0, F⟩ : ∃ k f r b c p a x h d : Int, v0 = msgV k f r b c p a x h d ∧ Fits f r b c p a x h d := by
    obtain ⟨c0, rfl, _⟩ := okWide_struct Tryd.underlying26 (hval 0 26 v0 rfl rfl)
    obtain ⟨m0, hm0⟩ := h0
    obtain ⟨k, f, r, b, c, p, a, x, h, d, e0, F0⟩ := msg_open hm0
    obtain ⟨c0⟩ := c0
    obtain rfl := (show c0 = _ from e0)
    exact ⟨k, f, r, b, c, p, a, x, h, d, rfl, F0⟩
  obtain ⟨ba, n, bc, beh, e1, hrb, hbb⟩ := bytes_arg (hval 1 31 v1 rfl rfl) h1
  obtain ⟨s0, s1, s2, s3, s4, s5, e2⟩ := six_arg (hval 2 27 v2 rfl rfl) h2
  obtain ⟨aa, an, ac, any, e3, hra, hba⟩ := bytes_arg (hval 3 31 v3 rfl rfl) h3
  obtain ⟨pt, e4, ha0, ha1⟩ : ∃ k, v4 = .int .u8 k ∧ 0 ≤ k ∧ k < 256 := by
    obtain ⟨k, rfl⟩ := okWide_int Tryd.underlying5 (hval 4 5 v4 rfl rfl)
    obtain ⟨m, hm⟩ := h4
    obtain ⟨k', e, _, hw⟩ := DataW.trod_int Tryd.underlying5 hm
    simp [Value.cells] at e
    subst e
    have := bounds_u8 hw
    exact ⟨_, rfl, by omega, by omega⟩
  subst e0 e1 e2 e3 e4
  have hwalk : Calls Tryd.prog 5 #[msgV zk zf zr zb zc zp za zx zh zd, .slice ba n bc, .agg #[.int .u8 s0, .int .u8 s1, .int .u8 s2, .int .u8 s3, .int .u8 s4, .int .u8 s5], .slice aa an ac, .int .u8 pt] W fun e w' => e = .returned (.bool true) ∧ Below W.heap.size W w' := by
    cases hm : mayB zk zf zr zb zc zp za zx zh zd with
    | false => exact back_no zk zf zr zb zc zp za zx zh zd F hm ba n bc beh s0 s1 s2 s3 s4 s5 aa an ac any pt W hGl hGk hrb hra hba hbb ha0 ha1
    | true => exact back_ok zk zf zr zb zc zp za zx zh zd F hm ba n bc beh s0 s1 s2 s3 s4 s5 aa an ac any pt W hGl hGk hrb hra hba hbb ha0 ha1
  refine hwalk.mono fun e W' ⟨he, bel⟩ => ?_
  subst he
  exact ⟨_, rfl, _, _, _, [], _, [], hW', trodAll_mk1 (shut_bool Tryd.underlying4 _), (trodAll_cons_mk (Below.trod laidOutIs (by kernel_rfl) (of_decide_eq_true (by kernel_rfl)) h0 bel lt0)
    (trodAll_cons_mk (Below.trod laidOutIs (by kernel_rfl) (of_decide_eq_true (by kernel_rfl)) h1 bel lt1) (trodAll_cons_mk (Below.trod laidOutIs (by kernel_rfl) (of_decide_eq_true (by kernel_rfl)) h2 bel lt2)
      (trodAll_cons_mk (Below.trod laidOutIs (by kernel_rfl) (of_decide_eq_true (by kernel_rfl)) h3 bel lt3) (trodAll_cons_mk (Below.trod laidOutIs (by kernel_rfl) (of_decide_eq_true (by kernel_rfl)) h4 bel lt4) trodAll_mk0))))), rfl, bel.frame _, fun h => by cases h⟩

theorem bpduBack_said : Rows.BpduBackSaid :=
  OpenClaim.holds_of_wide 5 Tryd.f5 rfl rfl rfl rfl rfl rfl rfl ⟨rfl, rfl, rfl, rfl, rfl⟩ rfl rfl rfl rfl rfl (by kernel_rfl) Tryd.func5 (by kernel_rfl)
    (of_decide_eq_true (by kernel_rfl)) (by unfold Func.isWrapper; first | (rw [if_pos (by decide +kernel)]; kernel_rfl) | (rw [if_neg (by decide +kernel)]; exact ⟨rfl, rfl⟩))
    (fun os started H enc _ => back_lifted os started H enc)

theorem bpduBack_holds : Rows.BpduBackCardSaid :=
  Claim7.holds_tied_plain_at .later [] [.widerDeep, .data, .data, .data] true (true, "2ed0f858d08b210307e978f593e5223900629fdf2d273081e7418294d7ceb40e") false
    bpduBack_said (fun _ h => by cases h) (by kernel_rfl) (fun _ h => by cases h) bpduBack_row_tie rfl ⟨rfl, rfl⟩ (by kernel_rfl) rfl
    (fun f fn hf hfn => by
      obtain rfl : f = 5 := Option.some.inj ((show Tryd.prog.funcNamed "toll/tolllaw10.BpduBack" = some 5 by kernel_rfl).symm.trans hf) |>.symm
      obtain rfl : fn = Tryd.f5 := (Option.some.inj (Tryd.func5.symm.trans hfn)).symm
      exact ⟨by kernel_rfl, fun j t ht => by
        rw [Tryd.params5] at ht
        have hm : t ∈ [26, 31, 27, 31, 5] := by simpa using Array.mem_of_getElem? ht
        have hall : ([26, 31, 27, 31, 5].all fun u => !Tryd.prog.wantsStandIn u) = true := by kernel_rfl
        exact (show Tryd.prog.wantsStandIn t = false by simpa using List.all_eq_true.1 hall t hm)⟩)
    (by kernel_rfl)
#print axioms bpduBack_holds
end Go.Proofs.YtcahlponmbnkcaaDoor
