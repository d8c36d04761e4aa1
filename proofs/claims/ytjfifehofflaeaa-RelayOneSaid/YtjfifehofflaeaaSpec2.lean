/-
  Plain definitions: the form of a number. No program in sight.
-/
import Derived.Test.YtjfifehofflaeaaEng6
namespace Go.Wire
open Go.Eng

abbrev By := List UInt8
abbrev bv := bvv
/-- the number whose form begins here (i bytes were read, they come to x): its value, how many bytes; or the error -/
def numS : By → Nat → Nat → Except Nat (Nat × Nat)
  | [], _, _ => .error 2
  | c :: r, i, x =>
    if (c.toNat = 0 ∧ 0 < i) ∨ (i = 9 ∧ 1 < c.toNat) then .error 4
    else if c.toNat < 128 then .ok (x + c.toNat % 128 * 2 ^ (7 * i), i + 1)
    else numS r (i + 1) (x + c.toNat % 128 * 2 ^ (7 * i))

theorem and127 (c : UInt8) : bitsOf .and .u8 (c.toNat : Int) 127 = ((c.toNat % 128 : Nat) : Int) := by
  have h := Eng.u8_and c 127
  have e : ((127 : UInt8).toNat : Int) = 127 := by decide
  rw [e] at h
  rw [h, UInt8.toNat_and]
  have : (127 : UInt8).toNat = 2 ^ 7 - 1 := by decide
  rw [this, Nat.and_two_pow_sub_one_eq_mod]
theorem or_add {x y k : Nat} (hx : x < 2 ^ k) (h : x + y * 2 ^ k < 2 ^ 64) : bitsOf .or .u64 (x : Int) ((y * 2 ^ k : Nat) : Int) = ((x + y * 2 ^ k : Nat) : Int) := by
  have hy : y * 2 ^ k < 2 ^ 64 := by omega
  have hx' : x < 2 ^ 64 := by omega
  have h1 : (UInt64.ofNat x).toNat = x := by simp; omega
  have h2 : (UInt64.ofNat (y * 2 ^ k)).toNat = y * 2 ^ k := by simp; omega
  have := Eng.u64_or (UInt64.ofNat x) (UInt64.ofNat (y * 2 ^ k))
  rw [h1, h2] at this
  rw [this, UInt64.toNat_or, h1, h2]
  congr 1
  rw [Nat.or_comm, Nat.mul_comm, ← Nat.two_pow_add_eq_or_of_lt hx]
  omega
theorem shl7 {y k : Nat} (h : y * 2 ^ k < 2 ^ 64) (hk : k ≤ 64) : IntKind.u64.wrap (((y : Nat) : Int) * 2 ^ min ((k : Int)).toNat IntKind.u64.bits) = ((y * 2 ^ k : Nat) : Int) := by
  have e : min ((k : Int)).toNat IntKind.u64.bits = k := by show min k 64 = k; omega
  rw [e, wrap_u64]
  have : ((y : Nat) : Int) * 2 ^ k = ((y * 2 ^ k : Nat) : Int) := by simp
  rw [this]
  omega
/-- how far a form reaches, how great its number is -/
theorem numS_ok : ∀ (l : By) (i x r k : Nat), i ≤ 9 → x < 2 ^ (7 * i) → numS l i x = .ok (r, k) → i < k ∧ k ≤ i + l.length ∧ k ≤ 10 ∧ r < 2 ^ 64
  | [], _, _, _, _, _, _, h => by simp [numS] at h
  | c :: l, i, x, r, k, hi, hx, h => by
    have hc := c.toNat_lt
    have hs : x + c.toNat % 128 * 2 ^ (7 * i) < 2 ^ (7 * (i + 1)) := by
      have : 2 ^ (7 * (i + 1)) = 128 * 2 ^ (7 * i) := by rw [Nat.mul_add, Nat.pow_add, Nat.mul_comm]
      have h2 : c.toNat % 128 ≤ 127 := by omega
      have := Nat.mul_le_mul_right (2 ^ (7 * i)) h2
      omega
    simp only [numS] at h
    split at h
    · cases h
    · rename_i hn
      split at h
      · rename_i h128
        simp only [Except.ok.injEq, Prod.mk.injEq] at h
        obtain ⟨rfl, rfl⟩ := h
        refine ⟨by omega, by simp, by omega, ?_⟩
        by_cases h9 : i = 9
        · subst h9
          have : c.toNat ≤ 1 := by omega
          have h2 : c.toNat % 128 ≤ 1 := by omega
          have := Nat.mul_le_mul_right (2 ^ 63) h2
          have e : 7 * 9 = 63 := rfl
          rw [e] at hx ⊢
          omega
        · have : 2 ^ (7 * (i + 1)) ≤ 2 ^ 63 := Nat.pow_le_pow_right (by omega) (by omega)
          have : (2 : Nat) ^ 63 < 2 ^ 64 := by decide
          omega
      · by_cases h9 : i = 9
        · subst h9; omega
        · have := numS_ok l (i + 1) _ r k (by omega) hs h
          simp only [List.length_cons]
          omega
end Go.Wire
namespace Go.Wire
/-- a number that is at most so great -/
def cntS (l : By) (most : Nat) : Except Nat (Nat × Nat) :=
  match numS l 0 0 with
  | .error e => .error e
  | .ok (x, k) => if x ≤ most then .ok (x, k) else .error 5
theorem cntS_ok {l : By} {most x k : Nat} (h : cntS l most = .ok (x, k)) : k ≤ l.length ∧ x ≤ most ∧ 0 < k := by
  unfold cntS at h
  cases hn : numS l 0 0 with
  | error e => rw [hn] at h; cases h
  | ok p =>
    obtain ⟨y, j⟩ := p
    rw [hn] at h
    have := numS_ok l 0 0 y j (by omega) (by simp) hn
    simp only at h
    split at h
    · simp only [Except.ok.injEq, Prod.mk.injEq] at h; omega
    · cases h
end Go.Wire
namespace Go.Wire
open Go.Eng
def rawS (l : By) (n : Int) : Except Nat By := if n < 0 then .error 1 else if n ≤ l.length then .ok (l.take n.toNat) else .error 2
def textS (l : By) (most : Nat) : Except Nat (By × Nat) :=
  match cntS l most with
  | .error e => .error e
  | .ok (x, k) => if k + x ≤ l.length then .ok ((l.drop k).take x, k + x) else .error 2
/-- the number of some bytes, the highest first -/
def beN (l : By) : Nat := l.foldl (fun x c => x * 256 + c.toNat) 0
theorem beN_snoc (l : By) (c : UInt8) : beN (l ++ [c]) = beN l * 256 + c.toNat := by simp [beN]
theorem fold_lt : ∀ (l : By) (x : Nat), l.foldl (fun x c => x * 256 + c.toNat) x < (x + 1) * 256 ^ l.length
  | [], x => by simp
  | c :: l, x => by
    have h := fold_lt l (x * 256 + c.toNat)
    have hc := c.toNat_lt
    simp only [List.foldl_cons, List.length_cons, Nat.pow_succ]
    have h2 : (x * 256 + c.toNat + 1) ≤ (x + 1) * 256 := by omega
    have h3 := Nat.mul_le_mul_right (256 ^ l.length) h2
    have h4 : (x + 1) * 256 * 256 ^ l.length = (x + 1) * (256 ^ l.length * 256) := by rw [Nat.mul_assoc, Nat.mul_comm 256]
    omega
theorem beN_lt (l : By) : beN l < 256 ^ l.length := by
  have := fold_lt l 0
  simpa [beN] using this
theorem or_low {x c : Nat} (hc : c < 256) (h : x * 256 < 2 ^ 64) : bitsOf .or .u64 ((x * 256 : Nat) : Int) (c : Int) = ((x * 256 + c : Nat) : Int) := by
  have h1 : (UInt64.ofNat (x * 256)).toNat = x * 256 := by simp; omega
  have h2 : (UInt64.ofNat c).toNat = c := by simp; omega
  have := Eng.u64_or (UInt64.ofNat (x * 256)) (UInt64.ofNat c)
  rw [h1, h2] at this
  rw [this, UInt64.toNat_or, h1, h2]
  congr 1
  have e : x * 256 = 2 ^ 8 * x := by omega
  rw [e, ← Nat.two_pow_add_eq_or_of_lt (by omega)]
theorem shl8 {x : Nat} (h : x * 256 < 2 ^ 64) : IntKind.u64.wrap ((x : Int) * 2 ^ min ((8 : Int)).toNat IntKind.u64.bits) = ((x * 256 : Nat) : Int) := by
  have e : min ((8 : Int)).toNat IntKind.u64.bits = 8 := by decide
  rw [e, wrap_u64]
  omega
end Go.Wire
