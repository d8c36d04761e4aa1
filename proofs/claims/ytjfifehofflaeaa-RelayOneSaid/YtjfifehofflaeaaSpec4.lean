/-
  The writer's bytes: plain laws.
-/
import Derived.Test.YtjfifehofflaeaaSpec3
import Derived.Test.YtjfifehofflaeaaSpec2
namespace Go.Wire
open Go.RowKit Go.Eng
set_option linter.unusedSimpArgs false
set_option linter.unusedVariables false
def digS (x : Nat) : By := if h : x < 128 then [UInt8.ofNat x] else UInt8.ofNat (x % 128 + 128) :: digS (x / 128)
termination_by x
decreasing_by omega
theorem digS_lt {x : Nat} (h : x < 128) : digS x = [UInt8.ofNat x] := by rw [digS.eq_1, dif_pos h]
theorem digS_ge {x : Nat} (h : ¬ x < 128) : digS x = UInt8.ofNat (x % 128 + 128) :: digS (x / 128) := by rw [digS.eq_1, dif_neg h]
theorem digS_pos (x : Nat) : 0 < (digS x).length := by
  by_cases h : x < 128
  · rw [digS_lt h]; exact Nat.one_pos
  · rw [digS_ge h]; simp
theorem or128F : ∀ c : Fin 256, c.val ||| 128 = c.val % 128 + 128 := by decide +kernel
theorem or128 (x : Nat) : bitsOf .or .u8 ((UInt8.ofNat x).toNat : Int) 128 = ((UInt8.ofNat (x % 128 + 128)).toNat : Int) := by
  have h := Eng.u8_or (UInt8.ofNat x) 128
  have e : ((128 : UInt8).toNat : Int) = 128 := by decide
  rw [e] at h
  rw [h, UInt8.toNat_or]
  have h2 := or128F ⟨(UInt8.ofNat x).toNat, UInt8.toNat_lt _⟩
  have h3 : (128 : UInt8).toNat = 128 := by decide
  rw [h3]
  simp only at h2
  rw [h2]
  simp
  omega
theorem shr7 (x : Nat) : (x : Int).fdiv (2 ^ min (7 : Int).toNat IntKind.u64.bits) = ((x / 128 : Nat) : Int) := by
  have e : min (7 : Int).toNat IntKind.u64.bits = 7 := rfl
  rw [e, show ((2 : Int) ^ 7) = ((128 : Nat) : Int) from rfl, Int.fdiv_eq_ediv_of_nonneg _ (Int.natCast_nonneg _), Int.natCast_ediv]
theorem digS_len : ∀ (k x : Nat), x < 128 ^ (k + 1) → (digS x).length ≤ k + 1
  | 0, x, h => by rw [digS_lt (by omega)]; exact Nat.le_refl _
  | k + 1, x, h => by
    by_cases hx : x < 128
    · rw [digS_lt hx]; simp
    · rw [digS_ge hx]
      have h' : x < 128 ^ (k + 1) * 128 := by rw [← Nat.pow_succ]; exact h
      have := digS_len k (x / 128) (by rw [Nat.div_lt_iff_lt_mul (by omega)]; exact h')
      simp only [List.length_cons]
      omega
theorem digS_ten {x : Nat} (h : x < 2 ^ 64) : (digS x).length ≤ 10 := digS_len 9 x (Nat.lt_of_lt_of_le h (by decide))
end Go.Wire
