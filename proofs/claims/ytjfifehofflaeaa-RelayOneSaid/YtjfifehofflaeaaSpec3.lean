/-
  What stands behind the bytes that a hash is made of, and the bytes of its words: plain laws.
-/
import Derived.Test.YtjfifehofflaeaaSpec1
namespace Go.Dig
open Go.RowKit Go.Eng
set_option linter.unusedSimpArgs false
set_option linter.unusedVariables false
/-- the padding on its way: z noughts, j bytes of the length -/
def padL (z m j : Nat) : By := 0x80 :: (List.replicate z 0 ++ (be8 m).take j)
theorem be8_length (m : Nat) : (be8 m).length = 8 := by simp [be8]
theorem padL_length {z m j : Nat} (h : j ≤ 8) : (padL z m j).length = 1 + z + j := by simp [padL, be8_length]; omega
theorem padL_zero (z m : Nat) : (padL z m 0).map bv ++ [bv 0] = (padL (z + 1) m 0).map bv := by
  simp [padL, List.replicate_succ']
theorem be8_take {m j : Nat} (h : j < 8) : (be8 m).take (j + 1) = (be8 m).take j ++ [UInt8.ofNat (m / 256 ^ (7 - j))] := by
  have hl : j < (be8 m).length := by rw [be8_length]; exact h
  rw [List.take_add_one, List.getElem?_eq_getElem hl]
  simp [be8]
theorem padL_byte {z m j : Nat} (h : j < 8) : (padL z m j).map bv ++ [bv (UInt8.ofNat (m / 256 ^ (7 - j)))] = (padL z m (j + 1)).map bv := by
  simp [padL, be8_take h]
theorem padL_full {n : Nat} : padL ((119 - n % 64) % 64) (n * 8 % 2 ^ 64) 8 = padOf n := by
  simp only [padL, padOf]
  rw [List.take_of_length_le (by rw [be8_length]; exact Nat.le_refl _)]
theorem pow256 (k : Nat) : (2 : Int) ^ (8 * k) = ((256 ^ k : Nat) : Int) := by
  rw [Int.pow_mul]; simp
theorem u8_ofNat (n : Nat) : IntKind.u8.wrap (n : Int) = ((UInt8.ofNat n).toNat : Int) := by
  rw [wrap_u8]; simp
theorem shr_u64 (m : Nat) {j : Nat} (h : j < 8) : (m : Int).fdiv (2 ^ min (56 - 8 * (j : Int)).toNat IntKind.u64.bits) = ((m / 256 ^ (7 - j) : Nat) : Int) := by
  have e : min (56 - 8 * (j : Int)).toNat IntKind.u64.bits = 8 * (7 - j) := by show min _ 64 = _; omega
  rw [e, pow256, Int.fdiv_eq_ediv_of_nonneg _ (Int.natCast_nonneg _), Int.natCast_ediv]
theorem shr_u32 (m k : Nat) : (m : Int).fdiv (2 ^ min (24 - 8 * ((k % 4 : Nat) : Int)).toNat IntKind.u32.bits) = ((m / 256 ^ (3 - k % 4) : Nat) : Int) := by
  have e : min (24 - 8 * ((k % 4 : Nat) : Int)).toNat IntKind.u32.bits = 8 * (3 - k % 4) := by show min _ 32 = _; omega
  rw [e, pow256, Int.fdiv_eq_ediv_of_nonneg _ (Int.natCast_nonneg _), Int.natCast_ediv]
theorem bytesOf_length (s : S8) : (bytesOf s).length = 32 := by simp [bytesOf]
/-- the answer on its way -/
def outA (s : S8) (k : Nat) : List Value := ((bytesOf s).take k).map bv ++ List.replicate (32 - k) (bv 0)
theorem outA_length (s : S8) {k : Nat} (h : k ≤ 32) : (outA s k).length = 32 := by simp [outA, bytesOf_length]; omega
theorem outA_set (s : S8) {k : Nat} (h : k < 32) : (outA s k).set k (bv (UInt8.ofNat ((s.list.getD (k / 4) 0).toNat / 256 ^ (3 - k % 4)))) = outA s (k + 1) := by
  have hb : k < (bytesOf s).length := by rw [bytesOf_length]; exact h
  have hl : (((bytesOf s).take k).map bv).length = k := by simp [bytesOf_length]; omega
  unfold outA
  rw [List.set_append_right _ _ (by omega), hl, Nat.sub_self, List.take_add_one, List.getElem?_eq_getElem hb, show 32 - k = (32 - (k + 1)) + 1 from by omega, List.replicate_succ, List.set_cons_zero]
  simp [bytesOf]
theorem outA_full (s : S8) : outA s 32 = (bytesOf s).map bv := by
  unfold outA
  rw [List.take_of_length_le (by rw [bytesOf_length]; exact Nat.le_refl _)]; simp
theorem markC_word {s : S8} {rest : List Value} {t i : Nat} (h : i < 8) : (markC s rest t)[i]? = some (wv (s.list.getD i 0)) := by
  have hl : (s.list.map wv).length = 8 := rfl
  unfold markC
  rw [List.getElem?_append_left (by omega)]
  exact list_get s h
theorem absorb_ge (s : S8) {l : By} (h : 64 ≤ l.length) : absorb s l = absorb (behind s (l.take 64)) (l.drop 64) := by
  rw [absorb.eq_1, dif_pos h]
theorem absorb_length (s : S8) (l : By) : (absorb s l).2.length < 64 := by
  by_cases h : 64 ≤ l.length
  · rw [absorb_ge s h]; exact absorb_length _ _
  · rw [absorb_lt s (by omega)]; show l.length < 64; omega
termination_by l.length
decreasing_by simp; omega
theorem absorb_mod (s : S8) (l : By) : (absorb s l).2.length = l.length % 64 := by
  by_cases h : 64 ≤ l.length
  · rw [absorb_ge s h, absorb_mod]; simp; omega
  · rw [absorb_lt s (by omega)]; show l.length = _; omega
termination_by l.length
decreasing_by simp; omega
theorem absorb_app (s : S8) (l m : By) : absorb s (l ++ m) = absorb (absorb s l).1 ((absorb s l).2 ++ m) := by
  by_cases h : 64 ≤ l.length
  · rw [absorb_ge s (l := l ++ m) (by simp; omega), absorb_ge s h, List.take_append_of_le_length h, List.drop_append_of_le_length h]
    exact absorb_app _ _ m
  · rw [absorb_lt s (l := l) (by omega)]
termination_by l.length
decreasing_by simp; omega
theorem rd_get {w0 : World} {L : List Ent} {a : Addr} {bs : By} {i : Nat} (hR : Rd w0 (some a) (bs.map bv)) (h : i < bs.length) : ∀ w, Heap w0 L w → w.cell? (a.add (i * 1)) = some (bv (bs.getD i 0)) := fun w H => by
  rw [Nat.mul_one]
  refine cell_old (hR.at_ (j := i) ?_) w H
  rw [List.getElem?_map, List.getD_eq_getElem?_getD, List.getElem?_eq_getElem h]
  rfl
theorem take_bv {bs : By} {i : Nat} (h : i < bs.length) : (bs.take i).map bv ++ [bv (bs.getD i 0)] = (bs.take (i + 1)).map bv := by
  rw [List.take_add_one, List.getD_eq_getElem?_getD, List.getElem?_eq_getElem h, List.map_append]
  rfl
/-- padding behind bytes -/
theorem padR_zero (b : By) (z m : Nat) : (b ++ padL z m 0).map bv ++ [bv 0] = (b ++ padL (z + 1) m 0).map bv := by
  rw [List.map_append, List.append_assoc, padL_zero, ← List.map_append]
theorem padR_byte {b : By} {z m j : Nat} (h : j < 8) : (b ++ padL z m j).map bv ++ [bv (UInt8.ofNat (m / 256 ^ (7 - j)))] = (b ++ padL z m (j + 1)).map bv := by
  rw [List.map_append, List.append_assoc, padL_byte h, ← List.map_append]
end Go.Dig
