/-
  A parcel's bytes: what is sealed is opened, what is opened was sealed. Plain laws.
-/
import Derived.Test.YtjfifehofflaeaaSpec9
namespace Go.Relay
open Go.RowKit Go.Eng Go.Wire
set_option linter.unusedSimpArgs false
set_option linter.unusedVariables false

def textsS (ts : List By) : By := ts.flatMap fun t => digS t.length ++ t
def bodyS (img : By) (ts : List By) : By := digS img.length ++ (img ++ (digS ts.length ++ textsS ts))
def signS (r : By) : By := Dig.sum r ++ r
def sealS (r : By) : By := markB ++ (Dig.be8 (sumN (signS r)) ++ signS r)
def fitsS (img : By) (ts : List By) : Prop := img.length ≤ 67108864 ∧ ts.length ≤ 1048576 ∧ ∀ t ∈ ts, t.length ≤ 4096

theorem sealS_length (r : By) : (sealS r).length = r.length + 44 := by
  simp only [sealS, signS, List.length_append, Dig.be8_length, Dig.sum_length, markB, List.length_cons, List.length_nil]; omega
theorem sealS_drop4 (r : By) : (sealS r).drop 4 = Dig.be8 (sumN (signS r)) ++ signS r := rfl
theorem sealS_drop12 (r : By) : (sealS r).drop 12 = signS r := by
  rw [show 12 = 4 + 8 from rfl, ← List.drop_drop, sealS_drop4]
  exact List.drop_left' (Dig.be8_length _)
theorem sealS_drop44 (r : By) : (sealS r).drop 44 = r := by
  rw [show 44 = 12 + 32 from rfl, ← List.drop_drop, sealS_drop12]
  exact List.drop_left' (Dig.sum_length _)
theorem head_seal {r : By} (hr : r.length ≤ 140737488355328) : headS (sealS r) = 0 := by
  have hl := sealS_length r
  have hs : sumN (signS r) < 2 ^ 64 := by
    have h1 := sumN_le (signS r)
    have h2 : (signS r).length = r.length + 32 := by simp only [signS, List.length_append, Dig.sum_length]; omega
    omega
  unfold headS
  rw [if_neg (by omega), if_neg (by simp [sealS, markB]), if_neg (by omega), if_neg, if_neg (by omega), if_neg]
  · rw [sealS_drop12, sealS_drop44]
    exact fun h => h (List.take_left' (Dig.sum_length _))
  · rw [sealS_drop4, sealS_drop12]
    refine fun h => h ?_
    rw [List.take_left' (Dig.be8_length _), be8_eq, beN_beL 8 _ (by omega)]
theorem seal_of_head {b : By} (h : headS b = 0) : 44 ≤ b.length ∧ b = sealS (b.drop 44) := by
  unfold headS at h
  by_cases h1 : b.length < 4
  · rw [if_pos h1] at h; omega
  rw [if_neg h1] at h
  by_cases h2 : b.take 4 ≠ markB
  · rw [if_pos h2] at h; omega
  rw [if_neg h2] at h
  by_cases h3 : b.length < 12
  · rw [if_pos h3] at h; omega
  rw [if_neg h3] at h
  by_cases h4 : beN ((b.drop 4).take 8) ≠ sumN (b.drop 12)
  · rw [if_pos h4] at h; omega
  rw [if_neg h4] at h
  by_cases h5 : b.length < 44
  · rw [if_pos h5] at h; omega
  rw [if_neg h5] at h
  by_cases h6 : (b.drop 12).take 32 ≠ Dig.sum (b.drop 44)
  · rw [if_pos h6] at h; omega
  refine ⟨by omega, ?_⟩
  have e2 : b.take 4 = markB := Classical.byContradiction h2
  have e4 : beN ((b.drop 4).take 8) = sumN (b.drop 12) := Classical.byContradiction h4
  have e6 : (b.drop 12).take 32 = Dig.sum (b.drop 44) := Classical.byContradiction h6
  have s12 : signS (b.drop 44) = b.drop 12 := by
    unfold signS
    rw [← e6, show 44 = 12 + 32 from rfl, ← List.drop_drop, List.take_append_drop]
  unfold sealS
  rw [s12, be8_eq, ← e4, beL_beN 8 _ (by rw [List.length_take, List.length_drop]; omega), ← e2]
  rw [show 12 = 4 + 8 from rfl, ← List.drop_drop, List.take_append_drop, List.take_append_drop]

/-! the body, read from its start -/
def pc1 (c : By) : RS × Nat := rdCount c 67108864 (0, 0)
def pc2 (c : By) : RS × By := rdRaw c (pc1 c).2 (pc1 c).1
def pc3 (c : By) : RS × Nat := rdCount c 1048576 (pc2 c).1
def pc4 (c : By) : RS × List By := rdTexts c (pc3 c).2 (pc3 c).1 []
theorem sc_pc {b : By} (h : 44 ≤ b.length) : sc1 b = (sh 44 (pc1 (b.drop 44)).1, (pc1 (b.drop 44)).2) ∧ sc2 b = (sh 44 (pc2 (b.drop 44)).1, (pc2 (b.drop 44)).2) ∧
    sc3 b = (sh 44 (pc3 (b.drop 44)).1, (pc3 (b.drop 44)).2) ∧ sc4 b = (sh 44 (pc4 (b.drop 44)).1, (pc4 (b.drop 44)).2) := by
  have e1 : sc1 b = (sh 44 (pc1 (b.drop 44)).1, (pc1 (b.drop 44)).2) := rdCount_sh (p := 44) (s := (0, 0))
  have e2 : sc2 b = (sh 44 (pc2 (b.drop 44)).1, (pc2 (b.drop 44)).2) := by unfold sc2 pc2; rw [e1]; exact rdRaw_sh h
  have e3 : sc3 b = (sh 44 (pc3 (b.drop 44)).1, (pc3 (b.drop 44)).2) := by unfold sc3 pc3; rw [e2]; exact rdCount_sh
  refine ⟨e1, e2, e3, ?_⟩
  unfold sc4 pc4
  rw [e3]
  exact rdTexts_sh _ _ _
theorem openS_body {b : By} (h : headS b = 0) : openS b = if rdEnd (b.drop 44) (pc4 (b.drop 44)).1 ≠ 0 then .error (rdEnd (b.drop 44) (pc4 (b.drop 44)).1) else .ok ((pc2 (b.drop 44)).2, (pc4 (b.drop 44)).2) := by
  have hl := (seal_of_head h).1
  obtain ⟨e1, e2, e3, e4⟩ := sc_pc hl
  unfold openS
  rw [if_neg (by omega), e4, e2, rdEnd_sh hl]

theorem rdCount_dig {c r : By} {p x most : Nat} (h : c.drop p = digS x ++ r) (hx : x < 2 ^ 64) (hm : x ≤ most) : rdCount c most (p, 0) = ((p + (digS x).length, 0), x) := by
  unfold rdCount
  rw [if_neg (by simp), h, cntS_dig hx hm]
theorem rdRaw_is {c l r : By} {p : Nat} (h : c.drop p = l ++ r) (hp : p ≤ c.length) : rdRaw c l.length (p, 0) = ((p + l.length, 0), l) := by
  unfold rdRaw
  have hl : c.length - p = l.length + r.length := by rw [← List.length_drop, h, List.length_append]
  rw [if_neg (by simp), if_pos (show p + l.length ≤ c.length by omega), h]
  simp
theorem rdText_is {c t r : By} {p : Nat} (h : c.drop p = digS t.length ++ (t ++ r)) (ht : t.length ≤ 4096) : rdText c 4096 (p, 0) = ((p + (digS t.length ++ t).length, 0), t) := by
  unfold rdText
  rw [if_neg (by simp), h, textS_dig (by omega) ht, List.length_append]
theorem drop_next {c l r : By} {p : Nat} (h : c.drop p = l ++ r) : c.drop (p + l.length) = r := by
  rw [← List.drop_drop, h]; exact List.drop_left
theorem textsS_cons (t : By) (ts : List By) : textsS (t :: ts) = (digS t.length ++ t) ++ textsS ts := by simp [textsS]
theorem rdTexts_are {c : By} : ∀ (ts : List By) (p : Nat) (acc : List By) (r : By), (∀ t ∈ ts, t.length ≤ 4096) → c.drop p = textsS ts ++ r → rdTexts c ts.length (p, 0) acc = ((p + (textsS ts).length, 0), acc ++ ts)
  | [], p, acc, r, _, _ => by simp [rdTexts, textsS]
  | t :: ts, p, acc, r, ht, h => by
    rw [textsS_cons, List.append_assoc] at h
    have h1 : rdText c 4096 (p, 0) = ((p + (digS t.length ++ t).length, 0), t) := rdText_is (by rw [h, List.append_assoc]) (ht t (List.mem_cons_self ..))
    rw [List.length_cons, rdTexts_step (s := (p, 0)) rfl, h1]
    rw [rdTexts_are ts _ (acc ++ [t]) r (fun u hu => ht u (List.mem_cons_of_mem _ hu)) (drop_next h), textsS_cons, List.length_append, List.append_assoc]
    simp [Nat.add_assoc]
theorem textsS_len : ∀ ts : List By, (∀ t ∈ ts, t.length ≤ 4096) → (textsS ts).length ≤ ts.length * 4106
  | [], _ => by simp [textsS]
  | t :: ts, h => by
    have h1 := textsS_len ts (fun u hu => h u (List.mem_cons_of_mem _ hu))
    have h2 := h t (List.mem_cons_self ..)
    have h3 := digS_ten (x := t.length) (by omega)
    rw [textsS_cons]
    simp only [List.length_append, List.length_cons]
    omega
theorem bodyS_len {img : By} {ts : List By} (h : fitsS img ts) : (bodyS img ts).length ≤ 5000000000 := by
  obtain ⟨h1, h2, h3⟩ := h
  have h4 := textsS_len ts h3
  have h5 := digS_ten (x := img.length) (by omega)
  have h6 := digS_ten (x := ts.length) (by omega)
  simp only [bodyS, List.length_append]
  omega
/-- what is sealed is opened -/
theorem open_seal {img : By} {ts : List By} (h : fitsS img ts) : openS (sealS (bodyS img ts)) = .ok (img, ts) := by
  have hlen := bodyS_len h
  have hh := head_seal (r := bodyS img ts) (by omega)
  obtain ⟨h1, h2, h3⟩ := h
  rw [openS_body hh, sealS_drop44]
  obtain ⟨c, hc⟩ : ∃ c, c = bodyS img ts := ⟨_, rfl⟩
  rw [← hc]
  have d0 : c.drop 0 = digS img.length ++ (img ++ (digS ts.length ++ textsS ts)) := by rw [hc]; rfl
  have d1 := drop_next d0
  have d2 := drop_next d1
  have d3 := drop_next d2
  have e1 : pc1 c = ((0 + (digS img.length).length, 0), img.length) := rdCount_dig d0 (by omega) h1
  have hl : c.length = (digS img.length).length + (img.length + ((digS ts.length).length + (textsS ts).length)) := by rw [hc]; simp only [bodyS, List.length_append]
  have e2 : pc2 c = ((0 + (digS img.length).length + img.length, 0), img) := by unfold pc2; rw [e1]; exact rdRaw_is d1 (by omega)
  have e3 : pc3 c = ((0 + (digS img.length).length + img.length + (digS ts.length).length, 0), ts.length) := by unfold pc3; rw [e2]; exact rdCount_dig d2 (by omega) h2
  have e4 : pc4 c = ((0 + (digS img.length).length + img.length + (digS ts.length).length + (textsS ts).length, 0), ts) := by
    unfold pc4; rw [e3]
    exact rdTexts_are ts _ [] [] h3 (by rw [d3, List.append_nil])
  rw [e4, e2]
  have he : rdEnd c (0 + (digS img.length).length + img.length + (digS ts.length).length + (textsS ts).length, 0) = 0 := by
    unfold rdEnd
    rw [if_neg]
    rintro ⟨_, h⟩
    simp only at h
    omega
  rw [he]; rfl

/-! back -/
theorem rdCount_back {c : By} {most : Nat} {s : RS} (h : (rdCount c most s).1.2 = 0) : s.2 = 0 ∧ c.drop s.1 = digS (rdCount c most s).2 ++ c.drop (rdCount c most s).1.1 ∧ (rdCount c most s).2 ≤ most := by
  by_cases h0 : s.2 ≠ 0
  · unfold rdCount at h; rw [if_pos h0] at h; exact absurd h h0
  · unfold rdCount at h ⊢
    rw [if_neg h0] at h ⊢
    cases hn : cntS (c.drop s.1) most with
    | error e => rw [hn] at h; simp only at h; have := cntS_err hn; omega
    | ok p =>
      obtain ⟨x, k⟩ := p
      obtain ⟨h1, h2, h3⟩ := cntS_back hn
      simp only
      refine ⟨by omega, ?_, h3⟩
      rw [← List.drop_drop]
      exact h1
theorem rdRaw_back {c : By} {n : Nat} {s : RS} (h : (rdRaw c n s).1.2 = 0) : s.2 = 0 ∧ c.drop s.1 = (rdRaw c n s).2 ++ c.drop (rdRaw c n s).1.1 ∧ (rdRaw c n s).2.length = n := by
  by_cases h0 : s.2 ≠ 0
  · unfold rdRaw at h; rw [if_pos h0] at h; exact absurd h h0
  · unfold rdRaw at h ⊢
    rw [if_neg h0] at h ⊢
    by_cases h1 : s.1 + n ≤ c.length
    · rw [if_pos h1]
      simp only
      refine ⟨by omega, ?_, by rw [List.length_take, List.length_drop]; omega⟩
      rw [← List.drop_drop, List.take_append_drop]
    · rw [if_neg h1] at h; simp at h
theorem rdText_back {c : By} {s : RS} (h : (rdText c 4096 s).1.2 = 0) : s.2 = 0 ∧ c.drop s.1 = (digS (rdText c 4096 s).2.length ++ (rdText c 4096 s).2) ++ c.drop (rdText c 4096 s).1.1 ∧ (rdText c 4096 s).2.length ≤ 4096 := by
  by_cases h0 : s.2 ≠ 0
  · unfold rdText at h; rw [if_pos h0] at h; exact absurd h h0
  · unfold rdText at h ⊢
    rw [if_neg h0] at h ⊢
    cases hn : textS (c.drop s.1) 4096 with
    | error e => rw [hn] at h; simp only at h; have := textS_err hn; omega
    | ok p =>
      obtain ⟨t, k⟩ := p
      obtain ⟨h1, h2, h3⟩ := textS_back hn
      simp only
      refine ⟨by omega, ?_, h3⟩
      rw [← List.drop_drop, List.append_assoc]
      exact h1
theorem rdTexts_back {c : By} : ∀ (n : Nat) (s : RS) (acc : List By), (rdTexts c n s acc).1.2 = 0 →
    s.2 = 0 ∧ ∃ ts, (rdTexts c n s acc).2 = acc ++ ts ∧ ts.length = n ∧ (∀ t ∈ ts, t.length ≤ 4096) ∧ c.drop s.1 = textsS ts ++ c.drop (rdTexts c n s acc).1.1
  | 0, s, acc, h => ⟨h, [], by simp [rdTexts], rfl, by simp, by simp [rdTexts, textsS]⟩
  | n + 1, s, acc, h => by
    by_cases h0 : s.2 ≠ 0
    · rw [rdTexts_stop h0] at h; exact absurd h h0
    · have h0' : s.2 = 0 := by omega
      rw [rdTexts_step h0'] at h ⊢
      obtain ⟨h1, ts, h2, h3, h4, h5⟩ := rdTexts_back n _ _ h
      obtain ⟨_, h6, h7⟩ := rdText_back h1
      refine ⟨h0', (rdText c 4096 s).2 :: ts, by rw [h2, List.append_assoc]; rfl, by rw [List.length_cons, h3], ?_, ?_⟩
      · intro t ht
        rcases List.mem_cons.1 ht with rfl | ht
        · exact h7
        · exact h4 t ht
      · rw [textsS_cons, List.append_assoc, ← h5]; exact h6
theorem rdEnd_back {c : By} {s : RS} (h : rdEnd c s = 0) : s.2 = 0 ∧ c.drop s.1 = [] := by
  unfold rdEnd at h
  by_cases h1 : s.2 = 0 ∧ s.1 < c.length
  · rw [if_pos h1] at h; omega
  · rw [if_neg h1] at h
    exact ⟨h, List.drop_eq_nil_of_le (by omega)⟩
/-- what is opened was sealed -/
theorem open_back {b img : By} {ts : List By} (h : openS b = .ok (img, ts)) : b = sealS (bodyS img ts) ∧ fitsS img ts := by
  by_cases hh : headS b = 0
  · rw [openS_body hh] at h
    obtain ⟨hl, hb⟩ := seal_of_head hh
    obtain ⟨c, hc⟩ : ∃ c, c = b.drop 44 := ⟨_, rfl⟩
    rw [← hc] at h hb
    by_cases he : rdEnd c (pc4 c).1 ≠ 0
    · rw [if_pos he] at h; cases h
    · rw [if_neg he] at h
      simp only [Except.ok.injEq, Prod.mk.injEq] at h
      obtain ⟨hi, ht⟩ := h
      obtain ⟨a4, b4⟩ := rdEnd_back (c := c) (s := (pc4 c).1) (by omega)
      obtain ⟨a3, ts', k1, k2, k3, k4⟩ := rdTexts_back _ _ _ a4
      obtain ⟨a2, b2, c2⟩ := rdCount_back (c := c) (most := 1048576) a3
      obtain ⟨a1, b1, c1⟩ := rdRaw_back (c := c) a2
      obtain ⟨a0, b0, c0⟩ := rdCount_back (c := c) (most := 67108864) (s := (0, 0)) a1
      change (pc4 c).2 = [] ++ ts' at k1
      change ts'.length = (pc3 c).2 at k2
      change c.drop (pc3 c).1.1 = textsS ts' ++ c.drop (pc4 c).1.1 at k4
      change c.drop (pc2 c).1.1 = digS (pc3 c).2 ++ c.drop (pc3 c).1.1 at b2
      change (pc3 c).2 ≤ 1048576 at c2
      change c.drop (pc1 c).1.1 = (pc2 c).2 ++ c.drop (pc2 c).1.1 at b1
      change (pc2 c).2.length = (pc1 c).2 at c1
      change c.drop 0 = digS (pc1 c).2 ++ c.drop (pc1 c).1.1 at b0
      change (pc1 c).2 ≤ 67108864 at c0
      rw [List.nil_append, ht] at k1
      subst k1
      rw [hi] at b1 c1
      have hbody : c = bodyS img ts := by
        have : c = c.drop 0 := rfl
        rw [this, b0, b1, b2, k4, b4, ← c1, ← k2, List.append_nil]; rfl
      rw [hbody] at hb
      exact ⟨hb, by omega, by omega, k3⟩
  · unfold openS at h
    rw [if_pos hh] at h; cases h
/-- errors -/
def OkE (k : Nat) : Prop := k = 0 ∨ (2 ≤ k ∧ k ≤ 5)
theorem rdCount_e {c : By} {most : Nat} {s : RS} (h : OkE s.2) : OkE (rdCount c most s).1.2 := by
  unfold rdCount
  by_cases h0 : s.2 ≠ 0
  · rw [if_pos h0]; exact h
  · rw [if_neg h0]
    cases hn : cntS (c.drop s.1) most with
    | error e => exact .inr (cntS_err hn)
    | ok p => exact .inl rfl
theorem rdRaw_e {c : By} {n : Nat} {s : RS} (h : OkE s.2) : OkE (rdRaw c n s).1.2 := by
  unfold rdRaw
  by_cases h0 : s.2 ≠ 0
  · rw [if_pos h0]; exact h
  · rw [if_neg h0]
    by_cases h1 : s.1 + n ≤ c.length
    · rw [if_pos h1]; exact .inl rfl
    · rw [if_neg h1]; exact .inr ⟨Nat.le_refl _, by show 2 ≤ 5; decide⟩
theorem rdText_e {c : By} {most : Nat} {s : RS} (h : OkE s.2) : OkE (rdText c most s).1.2 := by
  unfold rdText
  by_cases h0 : s.2 ≠ 0
  · rw [if_pos h0]; exact h
  · rw [if_neg h0]
    cases hn : textS (c.drop s.1) most with
    | error e => exact .inr (textS_err hn)
    | ok p => exact .inl rfl
theorem rdTexts_e {c : By} : ∀ (n : Nat) (s : RS) (acc : List By), OkE s.2 → OkE (rdTexts c n s acc).1.2
  | 0, s, acc, h => h
  | n + 1, s, acc, h => by
    by_cases h0 : s.2 ≠ 0
    · rw [rdTexts_stop h0]; exact h
    · rw [rdTexts_step (by omega)]; exact rdTexts_e n _ _ (rdText_e h)
theorem headS_e (b : By) : OkE (headS b) := by
  unfold headS OkE
  repeat' split
  all_goals omega
theorem open_err {b : By} {k : Nat} (h : openS b = .error k) : 2 ≤ k ∧ k ≤ 5 := by
  have hh := headS_e b
  unfold openS at h
  by_cases h0 : headS b ≠ 0
  · rw [if_pos h0] at h
    simp only [Except.error.injEq] at h
    rw [h] at hh h0
    unfold OkE at hh; omega
  · rw [if_neg h0] at h
    by_cases h1 : rdEnd b (sc4 b).1 ≠ 0
    · rw [if_pos h1] at h
      simp only [Except.error.injEq] at h
      have h2 : OkE (sc4 b).1.2 := rdTexts_e _ _ _ (rdCount_e (rdRaw_e (rdCount_e (.inl rfl))))
      rw [← h]
      unfold rdEnd at h1 ⊢
      unfold OkE at h2
      split
      · omega
      · rename_i h3; rw [if_neg h3] at h1; omega
    · rw [if_neg h1] at h; cases h
end Go.Relay
