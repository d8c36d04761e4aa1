/-
  Plain definitions: SHA-256 as the program and the reference compute it. No program in sight.
-/
import Derived.Test.YtjfifehofflaeaaEng11
namespace Go.Dig
open Go.Eng

abbrev By := List UInt8
abbrev bv := bvv
def wv (x : UInt32) : Value := .int .u32 x.toNat
def lv (x : UInt64) : Value := .int .u64 x.toNat

def rotr (x n : UInt32) : UInt32 := (x >>> n) ||| (x <<< (32 - n))
structure S8 where
  (a b c d e f g h : UInt32)
def S8.list (s : S8) : List UInt32 := [s.a, s.b, s.c, s.d, s.e, s.f, s.g, s.h]
def first : S8 := ⟨0x6a09e667, 0xbb67ae85, 0x3c6ef372, 0xa54ff53a, 0x510e527f, 0x9b05688c, 0x1f83d9ab, 0x5be0cd19⟩
def table : List UInt32 := [
  0x428a2f98, 0x71374491, 0xb5c0fbcf, 0xe9b5dba5, 0x3956c25b, 0x59f111f1, 0x923f82a4, 0xab1c5ed5,
  0xd807aa98, 0x12835b01, 0x243185be, 0x550c7dc3, 0x72be5d74, 0x80deb1fe, 0x9bdc06a7, 0xc19bf174,
  0xe49b69c1, 0xefbe4786, 0x0fc19dc6, 0x240ca1cc, 0x2de92c6f, 0x4a7484aa, 0x5cb0a9dc, 0x76f988da,
  0x983e5152, 0xa831c66d, 0xb00327c8, 0xbf597fc7, 0xc6e00bf3, 0xd5a79147, 0x06ca6351, 0x14292967,
  0x27b70a85, 0x2e1b2138, 0x4d2c6dfc, 0x53380d13, 0x650a7354, 0x766a0abb, 0x81c2c92e, 0x92722c85,
  0xa2bfe8a1, 0xa81a664b, 0xc24b8b70, 0xc76c51a3, 0xd192e819, 0xd6990624, 0xf40e3585, 0x106aa070,
  0x19a4c116, 0x1e376c08, 0x2748774c, 0x34b0bcb5, 0x391c0cb3, 0x4ed8aa4a, 0x5b9cca4f, 0x682e6ff3,
  0x748f82ee, 0x78a5636f, 0x84c87814, 0x8cc70208, 0x90befffa, 0xa4506ceb, 0xbef9a3f7, 0xc67178f2]
def round (s : S8) (kw : UInt32) : S8 :=
  let t1 := s.h + ((rotr s.e 6 ^^^ rotr s.e 11) ^^^ rotr s.e 25) + ((s.e &&& s.f) ^^^ (~~~s.e &&& s.g)) + kw
  let t2 := ((rotr s.a 2 ^^^ rotr s.a 13) ^^^ rotr s.a 22) + (((s.a &&& s.b) ^^^ (s.a &&& s.c)) ^^^ (s.b &&& s.c))
  ⟨t1 + t2, s.a, s.b, s.c, s.d + t1, s.e, s.f, s.g⟩
def be4 (b : By) (p : Nat) : UInt32 :=
  (((b.getD p 0).toUInt32 <<< 24 ||| (b.getD (p + 1) 0).toUInt32 <<< 16) ||| (b.getD (p + 2) 0).toUInt32 <<< 8) ||| (b.getD (p + 3) 0).toUInt32
def sg0 (x : UInt32) : UInt32 := (rotr x 7 ^^^ rotr x 18) ^^^ (x >>> 3)
def sg1 (x : UInt32) : UInt32 := (rotr x 17 ^^^ rotr x 19) ^^^ (x >>> 10)
/-- the words of a block, one by one: `words b n` are the first n -/
def nextW (b : By) (w : List UInt32) : UInt32 :=
  let t := w.length
  if t < 16 then be4 b (4 * t) else ((sg1 (w.getD (t - 2) 0) + w.getD (t - 7) 0) + sg0 (w.getD (t - 15) 0)) + w.getD (t - 16) 0
def words (b : By) : Nat → List UInt32
  | 0 => []
  | n + 1 => words b n ++ [nextW b (words b n)]
def rounds (b : By) (s : S8) : Nat → S8
  | 0 => s
  | n + 1 => round (rounds b s n) (table.getD n 0 + (words b 64).getD n 0)
def add8 (x s : S8) : S8 := ⟨x.a + s.a, x.b + s.b, x.c + s.c, x.d + s.d, x.e + s.e, x.f + s.f, x.g + s.g, x.h + s.h⟩
/-- the words behind one more block (the first 64 bytes of b) -/
def behind (s : S8) (b : By) : S8 := add8 (rounds b s 64) s
/-- all full blocks of l are gone through; what is left -/
def absorb (s : S8) (l : By) : S8 × By :=
  if h : 64 ≤ l.length then absorb (behind s (l.take 64)) (l.drop 64) else (s, l)
termination_by l.length
decreasing_by simp; omega
def be8 (n : Nat) : By := (List.range 8).map fun i => UInt8.ofNat (n / 256 ^ (7 - i))
/-- what is put behind n bytes -/
def padOf (n : Nat) : By := 0x80 :: (List.replicate ((119 - n % 64) % 64) 0 ++ be8 (n * 8 % 2 ^ 64))
def bytesOf (s : S8) : By := (List.range 32).map fun i => UInt8.ofNat ((s.list.getD (i / 4) 0).toNat / 256 ^ (3 - i % 4))
def sum (b : By) : By := bytesOf (absorb first (b ++ padOf b.length)).1

theorem words_length (b : By) : ∀ n, (words b n).length = n
  | 0 => rfl
  | n + 1 => by simp [words, words_length b n]
theorem words_getD (b : By) (m : Nat) : ∀ n i, i < n → n ≤ m → (words b n).getD i 0 = (words b m).getD i 0 := by
  induction m with
  | zero => intro n i h1 h2; omega
  | succ m ih =>
    intro n i h1 h2
    by_cases h : n = m + 1
    · subst h; rfl
    · rw [ih n i h1 (by omega)]
      simp only [words, List.getD_eq_getElem?_getD]
      rw [List.getElem?_append_left (by rw [words_length]; omega)]
theorem absorb_append (s : S8) (l m : By) : absorb s (l ++ m) = absorb (absorb s l).1 ((absorb s l).2 ++ m) := by
  induction hn : l.length using Nat.strongRecOn generalizing s l with
  | _ n ih =>
    rw [absorb.eq_1 s l]
    split
    · rename_i h
      rw [absorb.eq_1 s (l ++ m), dif_pos (by simp; omega)]
      rw [List.take_append_of_le_length h, List.drop_append_of_le_length h]
      exact ih _ (by simp; omega) _ _ rfl
    · rfl
theorem absorb_left (s : S8) (l : By) : (absorb s l).2.length = l.length % 64 := by
  induction hn : l.length using Nat.strongRecOn generalizing s l with
  | _ n ih =>
    rw [absorb.eq_1 s l]
    split
    · rename_i h
      rw [ih _ (by simp; omega) _ _ rfl]
      simp; omega
    · simp; omega
theorem sum_length (b : By) : (sum b).length = 32 := by simp [sum, bytesOf]
theorem u32_shr (x : UInt32) {n : Nat} (h : n < 32) : (x.toNat : Int).fdiv (2 ^ min ((n : Nat) : Int).toNat IntKind.u32.bits) = ((x >>> UInt32.ofNat n).toNat : Int) := by
  have e : min ((n : Nat) : Int).toNat IntKind.u32.bits = n := by show min n 32 = n; omega
  rw [e, UInt32.toNat_shiftRight, Int.fdiv_eq_ediv_of_nonneg _ (by exact Int.le_of_lt (Int.pow_pos (by decide)))]
  have h1 : (UInt32.ofNat n).toNat % 32 = n := by simp; omega
  rw [h1, Nat.shiftRight_eq_div_pow]
  simp
theorem u32_shl (x : UInt32) {n : Nat} (h : n < 32) : IntKind.u32.wrap ((x.toNat : Int) * 2 ^ min ((n : Nat) : Int).toNat IntKind.u32.bits) = ((x <<< UInt32.ofNat n).toNat : Int) := by
  have e : min ((n : Nat) : Int).toNat IntKind.u32.bits = n := by show min n 32 = n; omega
  rw [e, UInt32.toNat_shiftLeft, wrap_u32]
  have h1 : (UInt32.ofNat n).toNat % 32 = n := by simp; omega
  rw [h1, Nat.shiftLeft_eq]
  have : ((x.toNat : Int) * 2 ^ n) = ((x.toNat * 2 ^ n : Nat) : Int) := by simp
  rw [this]
  omega
theorem u8_u32 (c : UInt8) : IntKind.u32.wrap (c.toNat : Int) = (c.toUInt32.toNat : Int) := by
  have := c.toNat_lt
  rw [wr_u32 (by omega) (by omega)]
  simp
/-- the array of words as far as it is filled -/
def arrW (b : By) (t : Nat) : List Value := (words b t).map wv ++ List.replicate (64 - t) (.int .u32 0)
theorem arrW_length (b : By) (t : Nat) (h : t ≤ 64) : (arrW b t).length = 64 := by simp [arrW, words_length]; omega
theorem arrW_get (b : By) {t i : Nat} (h : i < t) : (arrW b t)[i]? = some (wv ((words b t).getD i 0)) := by
  have hl : i < (words b t).length := by rw [words_length]; exact h
  unfold arrW
  rw [List.getElem?_append_left (by simpa using hl)]
  simp [hl]
theorem arrW_set (b : By) {t : Nat} (h : t < 64) : (arrW b t).set t (wv (nextW b (words b t))) = arrW b (t + 1) := by
  have hl : ((words b t).map wv).length = t := by simp [words_length]
  unfold arrW
  rw [List.set_append_right _ _ (by omega), hl, Nat.sub_self]
  obtain ⟨m, hm⟩ : ∃ m, 64 - t = m + 1 := ⟨63 - t, by omega⟩
  rw [hm, List.replicate_succ, List.set_cons_zero, show 64 - (t + 1) = m from by omega]
  simp [words]
theorem arrW_full (b : By) : arrW b 64 = (words b 64).map wv := by simp [arrW]
theorem nextW_lo (b : By) {t : Nat} (h : t < 16) : nextW b (words b t) = be4 b (4 * t) := by
  simp [nextW, words_length, h]
theorem nextW_hi (b : By) {t : Nat} (h : ¬ t < 16) : nextW b (words b t) = ((sg1 ((words b t).getD (t - 2) 0) + (words b t).getD (t - 7) 0) + sg0 ((words b t).getD (t - 15) 0)) + (words b t).getD (t - 16) 0 := by
  simp only [nextW, words_length]
  rw [if_neg h]
theorem arrW_one (b : By) (t : Nat) : (arrW b t).all (·.oneCell') = true := by
  simp only [arrW, List.all_append, List.all_map, List.all_replicate, Bool.and_eq_true]
  refine ⟨List.all_eq_true.2 fun x _ => rfl, ?_⟩
  split
  · rfl
  · rfl
theorem table_get {i : Nat} (h : i < 64) : (table.map wv)[i]? = some (wv (table.getD i 0)) := by
  have hl : i < table.length := h
  simp [hl]
def refRound (s : S8) (k w : UInt32) : S8 :=
  let t1 := s.h + ((rotr s.e 6 ^^^ rotr s.e 11) ^^^ rotr s.e 25) + ((s.e &&& s.f) ^^^ (~~~s.e &&& s.g)) + k + w
  let t2 := ((rotr s.a 2 ^^^ rotr s.a 13) ^^^ rotr s.a 22) + (((s.a &&& s.b) ^^^ (s.a &&& s.c)) ^^^ (s.b &&& s.c))
  ⟨t1 + t2, s.a, s.b, s.c, s.d + t1, s.e, s.f, s.g⟩
theorem refRound_eq (s : S8) (k w : UInt32) : refRound s k w = round s (k + w) := by
  simp only [refRound, round, UInt32.add_assoc]
def mixL (p q : List UInt32) (i : Nat) : List UInt32 := p.take i ++ q.drop i
theorem mixL_get {p q : List UInt32} {i : Nat} (hp : p.length = 8) (hq : q.length = 8) (h : i < 8) : ((mixL p q i).map wv)[i]? = some (wv (q.getD i 0)) := by
  have hl : (p.take i).length = i := by simp; omega
  unfold mixL
  rw [List.getElem?_map, List.getElem?_append_right (by omega), hl, Nat.sub_self, List.getElem?_drop, Nat.add_zero, List.getElem?_eq_getElem (by omega)]
  simp [List.getD_eq_getElem?_getD, List.getElem?_eq_getElem (show i < q.length by omega)]
theorem mixL_set {p q : List UInt32} {i : Nat} (hp : p.length = 8) (hq : q.length = 8) (h : i < 8) : ((mixL p q i).map wv).set i (wv (p.getD i 0)) = (mixL p q (i + 1)).map wv := by
  have hl : (p.take i).length = i := by simp; omega
  unfold mixL
  rw [← List.map_set, List.set_append_right _ _ (by omega), hl, Nat.sub_self, List.drop_eq_getElem_cons (by omega), List.set_cons_zero, List.take_add_one, List.getElem?_eq_getElem (by omega)]
  congr 1
  rw [List.getD_eq_getElem?_getD, List.getElem?_eq_getElem (show i < p.length by omega)]
  simp only [Option.getD_some, Option.toList_some, List.append_assoc, List.singleton_append]
theorem mixL_length {p q : List UInt32} {i : Nat} (hp : p.length = 8) (hq : q.length = 8) (h : i ≤ 8) : (mixL p q i).length = 8 := by simp [mixL]; omega
theorem add8_getD (x s : S8) {i : Nat} (h : i < 8) : (add8 x s).list.getD i 0 = x.list.getD i 0 + s.list.getD i 0 := by
  have : i = 0 ∨ i = 1 ∨ i = 2 ∨ i = 3 ∨ i = 4 ∨ i = 5 ∨ i = 6 ∨ i = 7 := by omega
  rcases this with rfl | rfl | rfl | rfl | rfl | rfl | rfl | rfl <;> rfl
theorem list_get (s : S8) {i : Nat} (h : i < 8) : (s.list.map wv)[i]? = some (wv (s.list.getD i 0)) := by
  have hl : i < s.list.length := h
  simp [hl]
theorem be4_take (l : By) {p : Nat} (h : p + 3 < 64) : be4 (l.take 64) p = be4 l p := by
  have hg : ∀ q, q < 64 → (l.take 64).getD q 0 = l.getD q 0 := by
    intro q hq
    simp only [List.getD_eq_getElem?_getD, List.getElem?_take]
    rw [if_pos hq]
  simp only [be4]
  rw [hg p (by omega), hg (p + 1) (by omega), hg (p + 2) (by omega), hg (p + 3) (by omega)]
theorem nextW_take (l : By) (ws : List UInt32) : nextW (l.take 64) ws = nextW l ws := by
  unfold nextW
  by_cases h : ws.length < 16
  · rw [if_pos h, if_pos h, be4_take l (by omega)]
  · rw [if_neg h, if_neg h]
theorem words_take (l : By) : ∀ n, words (l.take 64) n = words l n
  | 0 => rfl
  | n + 1 => by
    show words (l.take 64) n ++ [nextW (l.take 64) (words (l.take 64) n)] = words l n ++ [nextW l (words l n)]
    rw [words_take l n, nextW_take]
theorem rounds_take (s : S8) (l : By) : ∀ n, rounds (l.take 64) s n = rounds l s n
  | 0 => rfl
  | n + 1 => by
    show round (rounds (l.take 64) s n) (table.getD n 0 + (words (l.take 64) 64).getD n 0) = round (rounds l s n) (table.getD n 0 + (words l 64).getD n 0)
    rw [rounds_take s l n, words_take]
theorem behind_take (s : S8) (l : By) : behind s (l.take 64) = behind s l := by
  unfold behind
  rw [rounds_take]
/-- the cells of a hash on its way -/
def markC (s : S8) (rest : List Value) (t : Nat) : List Value := s.list.map wv ++ (rest ++ [.int .u64 (t : Nat)])
def restC (buf : By) : List Value := buf.map bv ++ List.replicate (64 - buf.length) (bv 0)
theorem restC_length {buf : By} (h : buf.length ≤ 64) : (restC buf).length = 64 := by simp [restC]; omega
section
variable {s s' : S8} {rest rest' : List Value} {t t' : Nat}
theorem markC_tot (h : rest.length = 64) : (markC s rest t)[72]? = some (.int .u64 (t : Nat)) := by
  have hl : (s.list.map wv).length = 8 := rfl
  unfold markC
  rw [List.getElem?_append_right (by omega), hl, List.getElem?_append_right (by omega), h]
  rfl
theorem markC_length (h : rest.length = 64) : (markC s rest t).length = 73 := by
  have hl : (s.list.map wv).length = 8 := rfl
  unfold markC
  rw [List.length_append, hl, List.length_append, h]; rfl
theorem markC_setTot (h : rest.length = 64) : (markC s rest t).set 72 (.int .u64 (t' : Nat)) = markC s rest t' := by
  have hl : (s.list.map wv).length = 8 := rfl
  unfold markC
  rw [List.set_append_right _ _ (by omega), hl, List.set_append_right _ _ (by omega), h]
  rfl
theorem markC_words : ((markC s rest t).drop 0).take (s.list.map wv).length = s.list.map wv := by
  unfold markC
  rw [List.drop_zero, List.take_left]
theorem markC_rest (h : rest.length = 64) : ((markC s rest t).drop 8).take rest.length = rest := by
  have hl : (s.list.map wv).length = 8 := rfl
  unfold markC
  rw [← hl, List.drop_left, List.take_left]
theorem markC_setWords : (markC s rest t).take 0 ++ s'.list.map wv ++ (markC s rest t).drop (0 + (s'.list.map wv).length) = markC s' rest t := by
  have hl : (s'.list.map wv).length = (s.list.map wv).length := rfl
  unfold markC
  rw [hl, Nat.zero_add, List.drop_left, List.take_zero, List.nil_append]
theorem markC_setRest (h : rest.length = 64) (h' : rest'.length = 64) : (markC s rest t).take 8 ++ rest' ++ (markC s rest t).drop (8 + rest'.length) = markC s rest' t := by
  have hl : (s.list.map wv).length = 8 := rfl
  unfold markC
  rw [← hl, List.take_left, ← List.drop_drop, List.drop_left, h', ← h, List.drop_left, List.append_assoc]
theorem markC_copy (h : rest.length = 64) {k n : Nat} {src : List Value} (hn : k + n ≤ 64) : (markC s rest t).take (8 + k) ++ src ++ (markC s rest t).drop (8 + k + n) = markC s (rest.take k ++ src ++ rest.drop (k + n)) t := by
  have hl : (s.list.map wv).length = 8 := rfl
  unfold markC
  rw [← hl, List.take_length_add_append, Nat.add_assoc, List.drop_length_add_append, List.take_append_of_le_length (by omega), List.drop_append_of_le_length (by omega)]
  simp only [List.append_assoc]
end
theorem restC_copy {buf m : By} (h : buf.length + m.length ≤ 64) : (restC buf).take buf.length ++ m.map bv ++ (restC buf).drop (buf.length + m.length) = restC (buf ++ m) := by
  have hl : (buf.map bv).length = buf.length := by simp
  unfold restC
  rw [← hl, List.take_left, List.drop_length_add_append, List.drop_replicate, hl, List.map_append, List.append_assoc, List.append_assoc, List.length_append]
  congr 3
  omega
theorem restC_one (buf : By) : ∀ u ∈ restC buf, u.oneCell' = true := by
  intro u hu
  rcases List.mem_append.1 hu with hu | hu
  · obtain ⟨c, _, rfl⟩ := List.mem_map.1 hu; rfl
  · rw [(List.mem_replicate.1 hu).2]; rfl
theorem restC_full {buf : By} (h : buf.length = 64) : restC buf = buf.map bv := by simp [restC, h]
theorem restC_nil : restC [] = List.replicate 64 (bv 0) := rfl
theorem absorb_lt (s : S8) {l : By} (h : l.length < 64) : absorb s l = (s, l) := by
  rw [absorb.eq_1, dif_neg (by omega)]
theorem absorb_block (s : S8) {l m : By} (h : l.length = 64) : absorb s (l ++ m) = absorb (behind s l) m := by
  rw [absorb.eq_1, dif_pos (by simp; omega), List.take_append_of_le_length (by omega), List.drop_append_of_le_length (by omega), List.take_of_length_le (by omega), List.drop_eq_nil_of_le (by omega), List.nil_append]
theorem mark_fill {s : S8} {t k off : Nat} {u rem : By} (ho : off = 8 + u.length) (hk : k ≤ rem.length) (hk' : u.length + k ≤ 64) :
    (markC s (restC u) t).take off ++ (rem.map bv).take k ++ (markC s (restC u) t).drop (off + k) = markC s (restC (u ++ rem.take k)) t := by
  have hl : (rem.take k).length = k := by simp; omega
  subst ho
  rw [← List.map_take, markC_copy (restC_length (by omega)) (by omega)]
  have := restC_copy (buf := u) (m := rem.take k) (by omega)
  rw [hl] at this
  rw [this]
end Go.Dig
