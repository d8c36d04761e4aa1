/-
  Eight bytes are a number's: plain laws.
-/
import Derived.Test.YtjfifehofflaeaaSpec7
namespace Go.Relay
open Go.RowKit Go.Eng Go.Wire
set_option linter.unusedSimpArgs false
set_option linter.unusedVariables false
/-- the bytes of a number, the highest first -/
def beL : Nat → Nat → By
  | 0, _ => []
  | k + 1, x => beL k (x / 256) ++ [UInt8.ofNat x]
theorem beL_length : ∀ k x, (beL k x).length = k
  | 0, _ => rfl
  | k + 1, x => by simp [beL, beL_length k]
theorem beN_beL : ∀ k x, x < 256 ^ k → beN (beL k x) = x
  | 0, x, h => by have : x = 0 := by omega
                  subst this; rfl
  | k + 1, x, h => by
    rw [beL, beN_snoc, beN_beL k (x / 256) (by rw [Nat.div_lt_iff_lt_mul (by decide), ← Nat.pow_succ]; exact h)]
    simp; omega
theorem beL_beN : ∀ (k : Nat) (l : By), l.length = k → beL k (beN l) = l
  | 0, l, h => by rw [List.length_eq_zero_iff.1 h]; rfl
  | k + 1, l, h => by
    obtain ⟨m, c, rfl⟩ : ∃ m c, l = m ++ [c] := ⟨l.dropLast, l.getLast (by intro h'; rw [h'] at h; cases h), (List.dropLast_concat_getLast _).symm⟩
    have hm : m.length = k := by simpa using h
    have hc := c.toNat_lt
    rw [beL, beN_snoc, show (beN m * 256 + c.toNat) / 256 = beN m by omega, beL_beN k m hm]
    congr 2
    exact UInt8.toNat_inj.1 (by simp)
theorem be8_eq (x : Nat) : Dig.be8 x = beL 8 x := by
  simp [Dig.be8, beL, List.range_succ, Nat.div_div_eq_div_mul]
end Go.Relay
