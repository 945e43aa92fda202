/- BPDU: what Get answers, in lists; a message is read as it was laid, and laid as it was read. -/
import Derived.Test.YtcahlponmbnkcaaDoorP1
import Derived.Test.YtcahlponmbnkcaaDoorF1
namespace Go.Proofs.YtcahlponmbnkcaaDoor
open Go

def kindOf (bs : List Int) : Int := if bs.take 4 = [0, 0, 0, 0] then 1 else if bs.take 4 = [0, 0, 0, 128] then 2 else if bs.take 4 = [0, 0, 2, 2] then 3 else 0
def fld (bs : List Int) (o m : Nat) : Int := beN ((bs.drop o).take m)
def sizeI (k : Int) : Nat := if k = 2 then 4 else if k = 3 then 36 else 35
def mayG (bs : List Int) : Bool := mayB (kindOf bs) (fld bs 4 1) (fld bs 5 8) (fld bs 17 8) (fld bs 13 4) (fld bs 25 2) (fld bs 27 2) (fld bs 29 2) (fld bs 31 2) (fld bs 33 2)
def getE (bs : List Int) : Int :=
  if bs.length < 4 then 4 else if kindOf bs = 0 then 5 else if bs.length < sizeI (kindOf bs) then 4 else if kindOf bs = 2 then 0
  else if mayG bs = true ∧ (kindOf bs = 3 → bs[35]? = some 0) then 0 else 5
def getV (bs : List Int) : Value :=
  if getE bs = 0 then (if kindOf bs = 2 then msgV 2 0 0 0 0 0 0 0 0 0
    else msgV (kindOf bs) (fld bs 4 1) (fld bs 5 8) (fld bs 17 8) (fld bs 13 4) (fld bs 25 2) (fld bs 27 2) (fld bs 29 2) (fld bs 31 2) (fld bs 33 2))
  else msgV 0 0 0 0 0 0 0 0 0 0

theorem fld_mid (P F S : List Int) (o m : Nat) (hP : P.length = o) (hF : F.length = m) : fld (P ++ (F ++ S)) o m = beN F := by
  subst hP hF
  unfold fld
  rw [List.drop_left, List.take_left]

theorem hd_len {k : Int} (hk : k = 1 ∨ k = 3) : (hd k).length = 4 := by rcases hk with rfl | rfl <;> rfl
theorem kind_hd {k : Int} (hk : k = 1 ∨ k = 2 ∨ k = 3) {bs : List Int} (h : bs.take 4 = hd k) : kindOf bs = k := by
  unfold kindOf
  rw [h]
  rcases hk with rfl | rfl | rfl <;> rfl

theorem pow1 : (256 : Int) ^ 1 = 256 := by decide
theorem pow2 : (256 : Int) ^ 2 = 65536 := by decide
theorem pow4 : (256 : Int) ^ 4 = 4294967296 := by decide
theorem pow8 : (256 : Int) ^ 8 = 18446744073709551616 := by decide

theorem mayB_two {f r b c p a x h d : Int} (hm : mayB 2 f r b c p a x h d = true) : f = 0 ∧ r = 0 ∧ b = 0 ∧ c = 0 ∧ p = 0 ∧ a = 0 ∧ x = 0 ∧ h = 0 ∧ d = 0 := by
  unfold mayB at hm
  rw [if_pos rfl] at hm
  exact of_decide_eq_true hm

theorem putL_len {k f r b c p a x h d : Int} (hk : k = 1 ∨ k = 2 ∨ k = 3) : (putL k f r b c p a x h d).length = sizeI k := by
  unfold putL sizeI
  rcases hk with rfl | rfl | rfl
  · simp [beI_len, hd]
  · simp [hd]
  · simp [beI_len, hd]

theorem putL_head {k f r b c p a x h d : Int} (hk : k = 1 ∨ k = 2 ∨ k = 3) : (putL k f r b c p a x h d).take 4 = hd k := by
  unfold putL
  rcases hk with rfl | rfl | rfl
  · simp only [List.append_assoc]; rfl
  · rfl
  · simp only [List.append_assoc]; rfl

theorem sizeI_pos {k : Int} : 4 ≤ sizeI k := by
  unfold sizeI
  split
  · omega
  · split <;> omega

/-- A message that was laid is read, whatever stands behind. -/
theorem get_put {k f r b c p a x h d : Int} (F : Fits f r b c p a x h d) (hm : mayB k f r b c p a x h d = true) (t : List Int) :
    getE (putL k f r b c p a x h d ++ t) = 0 ∧ getV (putL k f r b c p a x h d ++ t) = msgV k f r b c p a x h d := by
  have hk := mayB_kind hm
  have hlen : (putL k f r b c p a x h d ++ t).length = sizeI k + t.length := by rw [List.length_append, putL_len hk]
  have hkind : kindOf (putL k f r b c p a x h d ++ t) = k := kind_hd hk (by
    rw [List.take_append_of_le_length (by rw [putL_len hk]; exact sizeI_pos)]
    exact putL_head hk)
  have h4 := @sizeI_pos k
  have hnl : ¬ (putL k f r b c p a x h d ++ t).length < 4 := by omega
  have hk0 : ¬ k = 0 := by rcases hk with rfl | rfl | rfl <;> decide
  have hnl2 : ¬ (putL k f r b c p a x h d ++ t).length < sizeI k := by omega
  by_cases h2 : k = 2
  · subst h2
    obtain ⟨rfl, rfl, rfl, rfl, rfl, rfl, rfl, rfl, rfl⟩ := mayB_two hm
    have e : getE (putL 2 0 0 0 0 0 0 0 0 0 ++ t) = 0 := by unfold getE; rw [if_neg hnl, hkind, if_neg hk0, if_neg hnl2, if_pos rfl]
    exact ⟨e, by unfold getV; rw [if_pos e, hkind, if_pos rfl]⟩
  · have hk13 : k = 1 ∨ k = 3 := by rcases hk with h | h | h; exact .inl h; exact absurd h h2; exact .inr h
    have hl4 := hd_len hk13
    have hL : putL k f r b c p a x h d ++ t = hd k ++ (beI f 1 ++ (beI r 8 ++ (beI c 4 ++ (beI b 8 ++ (beI p 2 ++ (beI a 2 ++ (beI x 2 ++ (beI h 2 ++ (beI d 2 ++ ((if k = 3 then beI 0 1 else []) ++ t)))))))))) := by
      unfold putL
      rw [if_neg h2]
      simp only [List.append_assoc]
    obtain ⟨f0, f1, r0, r1, b0, b1, c0, c1, p0, p1, a0, a1, x0, x1, h0, h1, d0, d1⟩ := F
    have ef : fld (putL k f r b c p a x h d ++ t) 4 1 = f := by
      rw [hL, fld_mid _ _ _ 4 1 hl4 (beI_len _ _)]
      exact beN_beI 1 f f0 (by rw [pow1]; exact f1)
    have er : fld (putL k f r b c p a x h d ++ t) 5 8 = r := by
      rw [show putL k f r b c p a x h d ++ t = (hd k ++ beI f 1) ++ (beI r 8 ++ (beI c 4 ++ (beI b 8 ++ (beI p 2 ++ (beI a 2 ++ (beI x 2 ++ (beI h 2 ++ (beI d 2 ++ ((if k = 3 then beI 0 1 else []) ++ t))))))))) by rw [hL]; simp only [List.append_assoc], fld_mid _ _ _ 5 8 (by simp only [List.length_append, beI_len, hl4]) (beI_len _ _)]
      exact beN_beI 8 r r0 (by rw [pow8]; exact r1)
    have ec : fld (putL k f r b c p a x h d ++ t) 13 4 = c := by
      rw [show putL k f r b c p a x h d ++ t = ((hd k ++ beI f 1) ++ beI r 8) ++ (beI c 4 ++ (beI b 8 ++ (beI p 2 ++ (beI a 2 ++ (beI x 2 ++ (beI h 2 ++ (beI d 2 ++ ((if k = 3 then beI 0 1 else []) ++ t)))))))) by rw [hL]; simp only [List.append_assoc], fld_mid _ _ _ 13 4 (by simp only [List.length_append, beI_len, hl4]) (beI_len _ _)]
      exact beN_beI 4 c c0 (by rw [pow4]; exact c1)
    have eb : fld (putL k f r b c p a x h d ++ t) 17 8 = b := by
      rw [show putL k f r b c p a x h d ++ t = (((hd k ++ beI f 1) ++ beI r 8) ++ beI c 4) ++ (beI b 8 ++ (beI p 2 ++ (beI a 2 ++ (beI x 2 ++ (beI h 2 ++ (beI d 2 ++ ((if k = 3 then beI 0 1 else []) ++ t))))))) by rw [hL]; simp only [List.append_assoc], fld_mid _ _ _ 17 8 (by simp only [List.length_append, beI_len, hl4]) (beI_len _ _)]
      exact beN_beI 8 b b0 (by rw [pow8]; exact b1)
    have ep : fld (putL k f r b c p a x h d ++ t) 25 2 = p := by
      rw [show putL k f r b c p a x h d ++ t = ((((hd k ++ beI f 1) ++ beI r 8) ++ beI c 4) ++ beI b 8) ++ (beI p 2 ++ (beI a 2 ++ (beI x 2 ++ (beI h 2 ++ (beI d 2 ++ ((if k = 3 then beI 0 1 else []) ++ t)))))) by rw [hL]; simp only [List.append_assoc], fld_mid _ _ _ 25 2 (by simp only [List.length_append, beI_len, hl4]) (beI_len _ _)]
      exact beN_beI 2 p p0 (by rw [pow2]; exact p1)
    have ea : fld (putL k f r b c p a x h d ++ t) 27 2 = a := by
      rw [show putL k f r b c p a x h d ++ t = (((((hd k ++ beI f 1) ++ beI r 8) ++ beI c 4) ++ beI b 8) ++ beI p 2) ++ (beI a 2 ++ (beI x 2 ++ (beI h 2 ++ (beI d 2 ++ ((if k = 3 then beI 0 1 else []) ++ t))))) by rw [hL]; simp only [List.append_assoc], fld_mid _ _ _ 27 2 (by simp only [List.length_append, beI_len, hl4]) (beI_len _ _)]
      exact beN_beI 2 a a0 (by rw [pow2]; exact a1)
    have ex : fld (putL k f r b c p a x h d ++ t) 29 2 = x := by
      rw [show putL k f r b c p a x h d ++ t = ((((((hd k ++ beI f 1) ++ beI r 8) ++ beI c 4) ++ beI b 8) ++ beI p 2) ++ beI a 2) ++ (beI x 2 ++ (beI h 2 ++ (beI d 2 ++ ((if k = 3 then beI 0 1 else []) ++ t)))) by rw [hL]; simp only [List.append_assoc], fld_mid _ _ _ 29 2 (by simp only [List.length_append, beI_len, hl4]) (beI_len _ _)]
      exact beN_beI 2 x x0 (by rw [pow2]; exact x1)
    have eh : fld (putL k f r b c p a x h d ++ t) 31 2 = h := by
      rw [show putL k f r b c p a x h d ++ t = (((((((hd k ++ beI f 1) ++ beI r 8) ++ beI c 4) ++ beI b 8) ++ beI p 2) ++ beI a 2) ++ beI x 2) ++ (beI h 2 ++ (beI d 2 ++ ((if k = 3 then beI 0 1 else []) ++ t))) by rw [hL]; simp only [List.append_assoc], fld_mid _ _ _ 31 2 (by simp only [List.length_append, beI_len, hl4]) (beI_len _ _)]
      exact beN_beI 2 h h0 (by rw [pow2]; exact h1)
    have ed : fld (putL k f r b c p a x h d ++ t) 33 2 = d := by
      rw [show putL k f r b c p a x h d ++ t = ((((((((hd k ++ beI f 1) ++ beI r 8) ++ beI c 4) ++ beI b 8) ++ beI p 2) ++ beI a 2) ++ beI x 2) ++ beI h 2) ++ (beI d 2 ++ ((if k = 3 then beI 0 1 else []) ++ t)) by rw [hL]; simp only [List.append_assoc], fld_mid _ _ _ 33 2 (by simp only [List.length_append, beI_len, hl4]) (beI_len _ _)]
      exact beN_beI 2 d d0 (by rw [pow2]; exact d1)
    have hmay : mayG (putL k f r b c p a x h d ++ t) = true := by
      unfold mayG
      rw [hkind, ef, er, ec, eb, ep, ea, ex, eh, ed]
      exact hm
    have h35 : kindOf (putL k f r b c p a x h d ++ t) = 3 → (putL k f r b c p a x h d ++ t)[35]? = some 0 := by
      intro h3
      rw [hkind] at h3
      subst h3
      rw [hL, if_pos rfl]
      rw [show hd 3 ++ (beI f 1 ++ (beI r 8 ++ (beI c 4 ++ (beI b 8 ++ (beI p 2 ++ (beI a 2 ++ (beI x 2 ++ (beI h 2 ++ (beI d 2 ++ (beI 0 1 ++ t)))))))))) = (hd 3 ++ beI f 1 ++ beI r 8 ++ beI c 4 ++ beI b 8 ++ beI p 2 ++ beI a 2 ++ beI x 2 ++ beI h 2 ++ beI d 2) ++ (beI 0 1 ++ t) by simp only [List.append_assoc]]
      rw [List.getElem?_append_right (by simp only [List.length_append, beI_len, hl4]; omega)]
      simp only [List.length_append, beI_len, hl4]
      rfl
    have e : getE (putL k f r b c p a x h d ++ t) = 0 := by unfold getE; rw [if_neg hnl, if_neg (by rw [hkind]; exact hk0), if_neg (by rw [hkind]; exact hnl2), if_neg (by rw [hkind]; exact h2), if_pos ⟨hmay, h35⟩]
    exact ⟨e, by unfold getV; rw [if_pos e, if_neg (by rw [hkind]; exact h2), hkind, ef, er, ec, eb, ep, ea, ex, eh, ed]⟩

/-- Cut short it is short. -/
theorem get_cut {k f r b c p a x h d : Int} (hk : k = 1 ∨ k = 2 ∨ k = 3) (n : Nat) (hn : n < (putL k f r b c p a x h d).length) : getE ((putL k f r b c p a x h d).take n) = 4 := by
  have hl : ((putL k f r b c p a x h d).take n).length = n := by rw [List.length_take]; omega
  unfold getE
  by_cases h4 : n < 4
  · rw [if_pos (by omega)]
  · have hkind : kindOf ((putL k f r b c p a x h d).take n) = k := kind_hd hk (by rw [List.take_take, Nat.min_eq_left (by omega)]; exact putL_head hk)
    rw [putL_len hk] at hn
    rw [if_neg (by omega), hkind, if_neg (by rcases hk with rfl | rfl | rfl <;> decide), if_pos (by omega)]

/-- What is refused. -/
theorem get_no {bs : List Int} (h : getE bs ≠ 0) : (getE bs = 4 ∨ getE bs = 5) ∧ getV bs = msgV 0 0 0 0 0 0 0 0 0 0 := by
  refine ⟨?_, by unfold getV; rw [if_neg h]⟩
  unfold getE at h ⊢
  by_cases h1 : bs.length < 4
  · rw [if_pos h1]; exact .inl rfl
  rw [if_neg h1] at h ⊢
  by_cases h2 : kindOf bs = 0
  · rw [if_pos h2]; exact .inr rfl
  rw [if_neg h2] at h ⊢
  by_cases h3 : bs.length < sizeI (kindOf bs)
  · rw [if_pos h3]; exact .inl rfl
  rw [if_neg h3] at h ⊢
  by_cases h4 : kindOf bs = 2
  · rw [if_pos h4] at h; exact absurd rfl h
  rw [if_neg h4] at h ⊢
  by_cases h5 : mayG bs = true ∧ (kindOf bs = 3 → bs[35]? = some 0)
  · rw [if_pos h5] at h; exact absurd rfl h
  rw [if_neg h5]; exact .inr rfl

theorem fld_bounds (bs : List Int) (o m : Nat) (hb : ∀ z ∈ bs, 0 ≤ z ∧ z < 256) (hl : o + m ≤ bs.length) : 0 ≤ fld bs o m ∧ fld bs o m < 256 ^ m :=
  beN_bounds m _ (by simp; omega) (fun z hz => hb z (List.mem_of_mem_drop (List.mem_of_mem_take hz)))
theorem beI_fld (bs : List Int) (o m : Nat) (hb : ∀ z ∈ bs, 0 ≤ z ∧ z < 256) (hl : o + m ≤ bs.length) : beI (fld bs o m) m = (bs.drop o).take m :=
  beI_beN m _ (by simp; omega) (fun z hz => hb z (List.mem_of_mem_drop (List.mem_of_mem_take hz)))
theorem take_more (bs : List Int) (o m : Nat) : bs.take o ++ (bs.drop o).take m = bs.take (o + m) := List.take_add.symm

theorem kind_three (bs : List Int) : kindOf bs = 0 ∨ (kindOf bs = 1 ∧ bs.take 4 = hd 1) ∨ (kindOf bs = 2 ∧ bs.take 4 = hd 2) ∨ (kindOf bs = 3 ∧ bs.take 4 = hd 3) := by
  unfold kindOf
  split
  · exact .inr (.inl ⟨rfl, by assumption⟩)
  · split
    · exact .inr (.inr (.inl ⟨rfl, by assumption⟩))
    · split
      · exact .inr (.inr (.inr ⟨rfl, by assumption⟩))
      · exact .inl rfl

/-- What is read is laid again. -/
theorem put_get {bs : List Int} (hb : ∀ z ∈ bs, 0 ≤ z ∧ z < 256) (h : getE bs = 0) :
    ∃ k f r b c p a x h d : Int, getV bs = msgV k f r b c p a x h d ∧ Fits f r b c p a x h d ∧ mayB k f r b c p a x h d = true ∧ (putL k f r b c p a x h d).length ≤ bs.length ∧
      putL k f r b c p a x h d = bs.take (putL k f r b c p a x h d).length := by
  have hE := h
  unfold getE at h
  split at h
  · cases h
  rename_i hn4
  split at h
  · cases h
  rename_i hk0
  split at h
  · cases h
  rename_i hsz
  split at h
  · rename_i hk2
    have h4 : bs.take 4 = hd 2 := by
      rcases kind_three bs with e | ⟨e, _⟩ | ⟨_, e⟩ | ⟨e, _⟩
      · exact absurd e hk0
      · rw [hk2] at e; cases e
      · exact e
      · rw [hk2] at e; cases e
    refine ⟨2, 0, 0, 0, 0, 0, 0, 0, 0, 0, by unfold getV; rw [if_pos hE, if_pos hk2], ?_, by decide, ?_, ?_⟩
    · constructor <;> decide
    · show 4 ≤ bs.length; omega
    · show hd 2 = bs.take 4; exact h4.symm
  rename_i hk2
  split at h
  rotate_left
  · cases h
  rename_i hmay
  obtain ⟨hmay, h35⟩ := hmay
  have hlen : 35 ≤ bs.length := by
    unfold sizeI at hsz
    rw [if_neg hk2] at hsz
    split at hsz <;> omega
  have q := fun o m hl => fld_bounds bs o m hb hl
  have g41 := q 4 1 (by omega)
  have g58 := q 5 8 (by omega)
  have g134 := q 13 4 (by omega)
  have g178 := q 17 8 (by omega)
  have g252 := q 25 2 (by omega)
  have g272 := q 27 2 (by omega)
  have g292 := q 29 2 (by omega)
  have g312 := q 31 2 (by omega)
  have g332 := q 33 2 (by omega)
  rw [pow1] at g41
  rw [pow8] at g58 g178
  rw [pow4] at g134
  rw [pow2] at g252 g272 g292 g312 g332
  have hk : (kindOf bs = 1 ∧ bs.take 4 = hd 1) ∨ (kindOf bs = 3 ∧ bs.take 4 = hd 3) := by
    rcases kind_three bs with e | e | ⟨e, _⟩ | e
    · exact absurd e hk0
    · exact .inl e
    · exact absurd e hk2
    · exact .inr e
  have hput : (hd (kindOf bs) ++ beI (fld bs 4 1) 1 ++ beI (fld bs 5 8) 8 ++ beI (fld bs 13 4) 4 ++ beI (fld bs 17 8) 8 ++ beI (fld bs 25 2) 2 ++ beI (fld bs 27 2) 2 ++ beI (fld bs 29 2) 2 ++ beI (fld bs 31 2) 2 ++ beI (fld bs 33 2) 2) = bs.take 35 := by
    have e4 : hd (kindOf bs) = bs.take 4 := by rcases hk with ⟨e, e'⟩ | ⟨e, e'⟩ <;> rw [e, e']
    rw [e4, beI_fld bs 4 1 hb (by omega), take_more, beI_fld bs 5 8 hb (by omega), take_more bs 5 8, beI_fld bs 13 4 hb (by omega), take_more bs 13 4, beI_fld bs 17 8 hb (by omega), take_more bs 17 8, beI_fld bs 25 2 hb (by omega), take_more bs 25 2,
      beI_fld bs 27 2 hb (by omega), take_more bs 27 2, beI_fld bs 29 2 hb (by omega), take_more bs 29 2, beI_fld bs 31 2 hb (by omega), take_more bs 31 2, beI_fld bs 33 2 hb (by omega), take_more bs 33 2]
  refine ⟨kindOf bs, fld bs 4 1, fld bs 5 8, fld bs 17 8, fld bs 13 4, fld bs 25 2, fld bs 27 2, fld bs 29 2, fld bs 31 2, fld bs 33 2, by unfold getV; rw [if_pos hE, if_neg hk2],
    ⟨g41.1, g41.2, g58.1, g58.2, g178.1, g178.2, g134.1, g134.2, g252.1, g252.2, g272.1, g272.2, g292.1, g292.2, g312.1, g312.2, g332.1, g332.2⟩, hmay, ?_, ?_⟩
  · rw [putL_len (by rcases hk with ⟨e, _⟩ | ⟨e, _⟩; exact .inl e; exact .inr (.inr e))]; omega
  · rw [putL_len (by rcases hk with ⟨e, _⟩ | ⟨e, _⟩; exact .inl e; exact .inr (.inr e))]
    unfold putL
    rw [if_neg hk2, hput]
    rcases hk with ⟨e, _⟩ | ⟨e, _⟩
    · rw [e, if_neg (by decide), List.append_nil]; rfl
    · have h0 := h35 e
      rw [e, if_pos rfl]
      show bs.take 35 ++ beI 0 1 = bs.take 36
      have hlt : 35 < bs.length := (List.getElem?_eq_some_iff.1 h0).1
      rw [List.take_succ_eq_append_getElem hlt, (List.getElem?_eq_some_iff.1 h0).2]
      rfl
end Go.Proofs.YtcahlponmbnkcaaDoor
