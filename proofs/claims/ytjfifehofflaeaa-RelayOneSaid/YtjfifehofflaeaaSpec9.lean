/-
  A number's form: what is written is read, what is read was written. Plain laws.
-/
import Derived.Test.YtjfifehofflaeaaSpec8
namespace Go.Relay
open Go.RowKit Go.Eng Go.Wire
set_option linter.unusedSimpArgs false
set_option linter.unusedVariables false

theorem ofNat_toNat {y : Nat} (h : y < 256) : (UInt8.ofNat y).toNat = y := by simp; omega
theorem numS_dig : ∀ (y i x : Nat) (r : By), (0 < i → 0 < y) → i ≤ 9 → y * 2 ^ (7 * i) < 2 ^ 64 → numS (digS y ++ r) i x = .ok (x + y * 2 ^ (7 * i), i + (digS y).length) := by
  intro y
  induction y using Nat.strongRecOn with
  | _ y ih =>
    intro i x r h0 hi hy
    by_cases h : y < 128
    · rw [digS_lt h]
      have hc : (UInt8.ofNat y).toNat = y := ofNat_toNat (by omega)
      show numS (UInt8.ofNat y :: r) i x = _
      have h1 : ¬ ((y = 0 ∧ 0 < i) ∨ (i = 9 ∧ 1 < y)) := by
        rintro (⟨a, b⟩ | ⟨a, b⟩)
        · have := h0 b; omega
        · subst a
          have h2 : 2 * 2 ^ (7 * 9) ≤ y * 2 ^ (7 * 9) := Nat.mul_le_mul_right _ b
          have h3 : 2 * 2 ^ (7 * 9) = 2 ^ 64 := by decide
          omega
      rw [numS, hc, if_neg h1, if_pos h, Nat.mod_eq_of_lt h]
      rfl
    · rw [digS_ge h]
      have hc : (UInt8.ofNat (y % 128 + 128)).toNat = y % 128 + 128 := ofNat_toNat (by omega)
      have hi8 : i < 9 := by
        rcases Nat.lt_or_ge i 9 with h9 | h9
        · exact h9
        · have : i = 9 := by omega
          subst this
          have h2 : 128 * 2 ^ (7 * 9) ≤ y * 2 ^ (7 * 9) := Nat.mul_le_mul_right _ (by omega)
          have h3 : 2 ^ 64 ≤ 128 * 2 ^ (7 * 9) := by decide
          omega
      have hp : 2 ^ (7 * (i + 1)) = 128 * 2 ^ (7 * i) := by rw [Nat.mul_add, Nat.pow_add, Nat.mul_comm]
      have hdm : y * 2 ^ (7 * i) = y % 128 * 2 ^ (7 * i) + y / 128 * (128 * 2 ^ (7 * i)) := by
        rw [← Nat.mul_assoc, ← Nat.add_mul]
        congr 1
        omega
      show numS (UInt8.ofNat (y % 128 + 128) :: (digS (y / 128) ++ r)) i x = _
      rw [numS, hc, if_neg (by rintro (⟨a, b⟩ | ⟨a, b⟩) <;> omega), if_neg (by omega), show (y % 128 + 128) % 128 = y % 128 by omega]
      rw [ih (y / 128) (by omega) (i + 1) _ r (fun _ => by omega) (by omega) (by rw [hp]; omega), hp, List.length_cons]
      congr 2
      · omega
      · omega
theorem numS_back : ∀ (l : By) (i x v k : Nat), numS l i x = .ok (v, k) → ∃ y, v = x + y * 2 ^ (7 * i) ∧ l = digS y ++ l.drop (k - i) ∧ k = i + (digS y).length ∧ (0 < i → 0 < y)
  | [], i, x, v, k, h => by simp [numS] at h
  | c :: l, i, x, v, k, h => by
    have hc := c.toNat_lt
    rw [numS] at h
    split at h
    · cases h
    · rename_i hn
      split at h
      · rename_i h128
        simp only [Except.ok.injEq, Prod.mk.injEq] at h
        obtain ⟨rfl, rfl⟩ := h
        refine ⟨c.toNat, by rw [Nat.mod_eq_of_lt h128], ?_, by rw [digS_lt h128]; rfl, fun hi => ?_⟩
        · rw [digS_lt h128, show i + 1 - i = 1 by omega]
          have : UInt8.ofNat c.toNat = c := UInt8.toNat_inj.1 (ofNat_toNat (by omega))
          rw [this]; rfl
        · rcases Nat.eq_zero_or_pos c.toNat with h0 | h0
          · exact absurd (.inl ⟨h0, hi⟩) hn
          · exact h0
      · rename_i h128
        obtain ⟨y, rfl, hl, rfl, hy⟩ := numS_back l (i + 1) _ v k h
        have hy0 := hy (by omega)
        have hp : 2 ^ (7 * (i + 1)) = 128 * 2 ^ (7 * i) := by rw [Nat.mul_add, Nat.pow_add, Nat.mul_comm]
        have hge : ¬ (c.toNat % 128 + 128 * y) < 128 := by omega
        have e1 : (c.toNat % 128 + 128 * y) % 128 = c.toNat % 128 := by omega
        have e2 : (c.toNat % 128 + 128 * y) / 128 = y := by omega
        have e3 : UInt8.ofNat (c.toNat % 128 + 128) = c := UInt8.toNat_inj.1 (by rw [ofNat_toNat (by omega)]; omega)
        refine ⟨c.toNat % 128 + 128 * y, ?_, ?_, ?_, fun _ => by omega⟩
        · rw [hp, Nat.add_mul, Nat.mul_comm 128 y, Nat.mul_assoc, Nat.add_assoc]
        · rw [digS_ge hge, e1, e2, e3, show i + 1 + (digS y).length - i = (digS y).length + 1 by omega, List.drop_succ_cons, List.cons_append]
          rw [show i + 1 + (digS y).length - (i + 1) = (digS y).length by omega] at hl
          rw [← hl]
        · rw [digS_ge hge, e2, List.length_cons]; omega
theorem cntS_dig {x most : Nat} {r : By} (hx : x < 2 ^ 64) (hm : x ≤ most) : cntS (digS x ++ r) most = .ok (x, (digS x).length) := by
  unfold cntS
  rw [numS_dig x 0 0 r (fun h => absurd h (Nat.lt_irrefl _)) (by omega) (by simpa using hx)]
  simp [hm]
theorem cntS_back {l : By} {x k most : Nat} (h : cntS l most = .ok (x, k)) : l = digS x ++ l.drop k ∧ k = (digS x).length ∧ x ≤ most := by
  unfold cntS at h
  cases hn : numS l 0 0 with
  | error e => rw [hn] at h; cases h
  | ok p =>
    obtain ⟨v, j⟩ := p
    rw [hn] at h
    simp only at h
    split at h
    · simp only [Except.ok.injEq, Prod.mk.injEq] at h
      obtain ⟨rfl, rfl⟩ := h
      obtain ⟨y, hv, hl, hk, _⟩ := numS_back l 0 0 _ _ hn
      have : y = v := by simpa using hv.symm
      subst this
      exact ⟨by simpa using hl, by simpa using hk, by assumption⟩
    · cases h
theorem textS_dig {t r : By} {most : Nat} (hx : t.length < 2 ^ 64) (hm : t.length ≤ most) : textS (digS t.length ++ (t ++ r)) most = .ok (t, (digS t.length).length + t.length) := by
  unfold textS
  rw [cntS_dig hx hm]
  simp only
  rw [if_pos (by simp only [List.length_append]; omega)]
  simp
theorem textS_back {l t : By} {k most : Nat} (h : textS l most = .ok (t, k)) : l = digS t.length ++ (t ++ l.drop k) ∧ k = (digS t.length).length + t.length ∧ t.length ≤ most := by
  unfold textS at h
  cases hn : cntS l most with
  | error e => rw [hn] at h; cases h
  | ok p =>
    obtain ⟨x, j⟩ := p
    rw [hn] at h
    simp only at h
    split at h
    · rename_i hle
      simp only [Except.ok.injEq, Prod.mk.injEq] at h
      obtain ⟨rfl, rfl⟩ := h
      obtain ⟨hl, rfl, hm⟩ := cntS_back hn
      have hlen : ((l.drop (digS x).length).take x).length = x := by rw [List.length_take, List.length_drop]; omega
      rw [hlen]
      refine ⟨?_, rfl, hm⟩
      rw [← List.drop_drop, List.take_append_drop]
      exact hl
    · cases h
/-! errors -/
theorem numS_err : ∀ (l : By) (i x c : Nat), numS l i x = .error c → c = 2 ∨ c = 4
  | [], i, x, c, h => by simp [numS] at h; omega
  | b :: l, i, x, c, h => by
    rw [numS] at h
    split at h
    · simp only [Except.error.injEq] at h; omega
    · split at h
      · cases h
      · exact numS_err l _ _ c h
theorem cntS_err {l : By} {most c : Nat} (h : cntS l most = .error c) : 2 ≤ c ∧ c ≤ 5 := by
  unfold cntS at h
  cases hn : numS l 0 0 with
  | error e => rw [hn] at h; simp only [Except.error.injEq] at h; subst h; have := numS_err _ _ _ _ hn; omega
  | ok p =>
    obtain ⟨v, j⟩ := p
    rw [hn] at h
    simp only at h
    split at h
    · cases h
    · simp only [Except.error.injEq] at h; omega
theorem textS_err {l : By} {most c : Nat} (h : textS l most = .error c) : 2 ≤ c ∧ c ≤ 5 := by
  unfold textS at h
  cases hn : cntS l most with
  | error e => rw [hn] at h; simp only [Except.error.injEq] at h; subst h; exact cntS_err hn
  | ok p =>
    obtain ⟨v, j⟩ := p
    rw [hn] at h
    simp only at h
    split at h
    · cases h
    · simp only [Except.error.injEq] at h; omega
end Go.Relay
