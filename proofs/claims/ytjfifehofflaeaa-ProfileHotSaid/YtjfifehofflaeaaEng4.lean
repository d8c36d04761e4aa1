/-
  The engine, part 4: numbers in their range; lengths, cuts, texts; slices that are read.
-/
import Derived.Test.YtjfifehofflaeaaEng3
import Derived.Laws.IdiomCopy
namespace Go.Eng
open Go.RowKit
set_option linter.unusedSimpArgs false
set_option linter.unusedVariables false

/-! ### numbers -/
theorem wrap_i64 (a : Int) : IntKind.i64.wrap a = if 9223372036854775808 ≤ a % 18446744073709551616 then a % 18446744073709551616 - 18446744073709551616 else a % 18446744073709551616 := by
  simp [IntKind.wrap, IntKind.bits, IntKind.signed]
theorem wr_i64 {a : Int} (h0 : -9223372036854775808 ≤ a) (h1 : a ≤ 9223372036854775807) : IntKind.i64.wrap a = a := by
  rw [wrap_i64]
  split <;> omega
theorem wrap_u64 (a : Int) : IntKind.u64.wrap a = a % 18446744073709551616 := by simp [IntKind.wrap, IntKind.bits, IntKind.signed]
theorem wrap_u32 (a : Int) : IntKind.u32.wrap a = a % 4294967296 := by simp [IntKind.wrap, IntKind.bits, IntKind.signed]
theorem wrap_u16 (a : Int) : IntKind.u16.wrap a = a % 65536 := by simp [IntKind.wrap, IntKind.bits, IntKind.signed]
theorem wrap_u8 (a : Int) : IntKind.u8.wrap a = a % 256 := by simp [IntKind.wrap, IntKind.bits, IntKind.signed]

theorem wr_u64 {a : Int} (h0 : 0 ≤ a) (h1 : a ≤ 18446744073709551615) : IntKind.u64.wrap a = a := by rw [wrap_u64]; omega
theorem wr_u32 {a : Int} (h0 : 0 ≤ a) (h1 : a ≤ 4294967295) : IntKind.u32.wrap a = a := by rw [wrap_u32]; omega
theorem wr_u16 {a : Int} (h0 : 0 ≤ a) (h1 : a ≤ 65535) : IntKind.u16.wrap a = a := by rw [wrap_u16]; omega
theorem wr_u8 {a : Int} (h0 : 0 ≤ a) (h1 : a ≤ 255) : IntKind.u8.wrap a = a := by rw [wrap_u8]; omega

/-! words of a fixed width, as Lean has them -/
theorem u32_add (x y : UInt32) : IntKind.u32.wrap (x.toNat + y.toNat : Int) = (x + y).toNat := by rw [wrap_u32, UInt32.toNat_add]; omega
theorem u64_add (x y : UInt64) : IntKind.u64.wrap (x.toNat + y.toNat : Int) = (x + y).toNat := by rw [wrap_u64, UInt64.toNat_add]; omega
theorem u8_add (x y : UInt8) : IntKind.u8.wrap (x.toNat + y.toNat : Int) = (x + y).toNat := by rw [wrap_u8, UInt8.toNat_add]; omega
theorem bits_u32 (x y : UInt32) : BitVec.ofInt 32 (x.toNat : Int) = x.toBitVec := by
  apply BitVec.eq_of_toNat_eq
  have := x.toNat_lt
  simp [BitVec.toNat_ofInt]
  try omega
theorem ofInt_u32 (x : UInt32) : BitVec.ofInt 32 (x.toNat : Int) = x.toBitVec := bits_u32 x x
theorem ofInt_u64 (x : UInt64) : BitVec.ofInt 64 (x.toNat : Int) = x.toBitVec := by
  apply BitVec.eq_of_toNat_eq
  have := x.toNat_lt
  simp [BitVec.toNat_ofInt]
  try omega
theorem ofInt_u16 (x : UInt16) : BitVec.ofInt 16 (x.toNat : Int) = x.toBitVec := by
  apply BitVec.eq_of_toNat_eq
  have := x.toNat_lt
  simp [BitVec.toNat_ofInt]
  try omega
theorem ofInt_u8 (x : UInt8) : BitVec.ofInt 8 (x.toNat : Int) = x.toBitVec := by
  apply BitVec.eq_of_toNat_eq
  have := x.toNat_lt
  simp [BitVec.toNat_ofInt]
  try omega
theorem back_u32 (v : BitVec 32) : IntKind.u32.wrap (v.toNat : Int) = v.toNat := by have := v.isLt; rw [wrap_u32]; omega
theorem back_u64 (v : BitVec 64) : IntKind.u64.wrap (v.toNat : Int) = v.toNat := by have := v.isLt; rw [wrap_u64]; omega
theorem back_u16 (v : BitVec 16) : IntKind.u16.wrap (v.toNat : Int) = v.toNat := by have := v.isLt; rw [wrap_u16]; omega
theorem back_u8 (v : BitVec 8) : IntKind.u8.wrap (v.toNat : Int) = v.toNat := by have := v.isLt; rw [wrap_u8]; omega
theorem u32_and (x y : UInt32) : bitsOf .and .u32 x.toNat y.toNat = (x &&& y).toNat := by
  show IntKind.u32.wrap ((BitVec.ofInt 32 _ &&& BitVec.ofInt 32 _).toNat : Int) = _
  rw [ofInt_u32, ofInt_u32, back_u32]; rfl
theorem u32_or (x y : UInt32) : bitsOf .or .u32 x.toNat y.toNat = (x ||| y).toNat := by
  show IntKind.u32.wrap ((BitVec.ofInt 32 _ ||| BitVec.ofInt 32 _).toNat : Int) = _
  rw [ofInt_u32, ofInt_u32, back_u32]; rfl
theorem u32_xor (x y : UInt32) : bitsOf .xor .u32 x.toNat y.toNat = (x ^^^ y).toNat := by
  show IntKind.u32.wrap ((BitVec.ofInt 32 _ ^^^ BitVec.ofInt 32 _).toNat : Int) = _
  rw [ofInt_u32, ofInt_u32, back_u32]; rfl
theorem u64_and (x y : UInt64) : bitsOf .and .u64 x.toNat y.toNat = (x &&& y).toNat := by
  show IntKind.u64.wrap ((BitVec.ofInt 64 _ &&& BitVec.ofInt 64 _).toNat : Int) = _
  rw [ofInt_u64, ofInt_u64, back_u64]; rfl
theorem u64_or (x y : UInt64) : bitsOf .or .u64 x.toNat y.toNat = (x ||| y).toNat := by
  show IntKind.u64.wrap ((BitVec.ofInt 64 _ ||| BitVec.ofInt 64 _).toNat : Int) = _
  rw [ofInt_u64, ofInt_u64, back_u64]; rfl
theorem u64_xor (x y : UInt64) : bitsOf .xor .u64 x.toNat y.toNat = (x ^^^ y).toNat := by
  show IntKind.u64.wrap ((BitVec.ofInt 64 _ ^^^ BitVec.ofInt 64 _).toNat : Int) = _
  rw [ofInt_u64, ofInt_u64, back_u64]; rfl
theorem u16_or (x y : UInt16) : bitsOf .or .u16 x.toNat y.toNat = (x ||| y).toNat := by
  show IntKind.u16.wrap ((BitVec.ofInt 16 _ ||| BitVec.ofInt 16 _).toNat : Int) = _
  rw [ofInt_u16, ofInt_u16, back_u16]; rfl
theorem u8_and (x y : UInt8) : bitsOf .and .u8 x.toNat y.toNat = (x &&& y).toNat := by
  show IntKind.u8.wrap ((BitVec.ofInt 8 _ &&& BitVec.ofInt 8 _).toNat : Int) = _
  rw [ofInt_u8, ofInt_u8, back_u8]; rfl
theorem u8_or (x y : UInt8) : bitsOf .or .u8 x.toNat y.toNat = (x ||| y).toNat := by
  show IntKind.u8.wrap ((BitVec.ofInt 8 _ ||| BitVec.ofInt 8 _).toNat : Int) = _
  rw [ofInt_u8, ofInt_u8, back_u8]; rfl
theorem u32_not (x : UInt32) : bitsOf .xor .u32 (if IntKind.u32.signed then -1 else IntKind.u32.max) x.toNat = (~~~x).toNat := by
  have : (if IntKind.u32.signed then -1 else IntKind.u32.max) = (((0xffffffff : UInt32).toNat : Nat) : Int) := by decide
  rw [this, u32_xor]
  congr 1

/-! ### lengths, cuts, texts -/
section
variable {P : Program} {w0 : World} {L : List Ent} {C : World → Prop} {o : Oper} {ρ : Operand → Value} {v : Value}
theorem y_len_slice {x : Operand} {t e : TypeId} {a : Option Addr} {len cap : Nat} (ho : o.op = .call { callee := .builtin .len, args := #[x], argTypes := #[t] }) (hx : ρ x = .slice a len cap) (ht : P.underlying t = some (.slice e)) : Gives P C o ρ (.int .i64 len) := fun w _ => by
  simp [execOp, ho, resolve, invoke, builtin, Builtin.len_, hx, run_underlying ht, goInt]
theorem y_len_string {x : Operand} {t : TypeId} {s : ByteArray} (ho : o.op = .call { callee := .builtin .len, args := #[x], argTypes := #[t] }) (hx : ρ x = .string s) (ht : P.underlying t = some .string) : Gives P C o ρ (.int .i64 s.size) := fun w _ => by
  simp [execOp, ho, resolve, invoke, builtin, Builtin.len_, hx, run_underlying ht, goInt]
/-- where a cut of a slice begins -/
def subA (a : Option Addr) (cap l size : Nat) : Option Addr := if cap = l then a else a.map (·.add (l * size))
theorem subA_zero (a : Option Addr) (cap size : Nat) : subA a cap 0 size = a := by
  unfold subA; split
  · rfl
  · cases a <;> simp [Addr.add]
theorem y_slice_lh {x lo hi : Operand} {t e : TypeId} {a : Option Addr} {len cap n : Nat} {k1 k2 : IntKind} {l h : Int} (ho : o.op = .slice t x (some lo) (some hi) none) (hx : ρ x = .slice a len cap) (hlo : ρ lo = .int k1 l) (hhi : ρ hi = .int k2 h) (ht : P.underlying t = some (.slice e))
    (hs : ∀ w, (sizeOf e).run P w = .ok n w) (h0 : 0 ≤ l) (h1 : l ≤ h) (h2 : h ≤ cap) : Gives P C o ρ (.slice (subA a cap l.toNat n) (h.toNat - l.toNat) (cap - l.toNat)) := fun w _ => by
  have h3 : 0 ≤ h := by omega
  obtain ⟨hn, rfl⟩ := Int.eq_ofNat_of_zero_le h3
  obtain ⟨ln, rfl⟩ := Int.eq_ofNat_of_zero_le h0
  have h4 : ln ≤ hn := by omega
  have h5 : hn ≤ cap := by omega
  simp [execOp, ho, hx, hlo, hhi, Instr.sliceAt, Instr.slice, Instr.sliceBounds, Instr.sliceBound, asIntOf, run_underlying ht, h4, h5, hs w, subA]
theorem y_slice_l {x lo : Operand} {t e : TypeId} {a : Option Addr} {len cap n : Nat} {k1 : IntKind} {l : Int} (ho : o.op = .slice t x (some lo) none none) (hx : ρ x = .slice a len cap) (hlo : ρ lo = .int k1 l) (ht : P.underlying t = some (.slice e))
    (hs : ∀ w, (sizeOf e).run P w = .ok n w) (h0 : 0 ≤ l) (h1 : l ≤ len) : Gives P C o ρ (.slice (subA a cap l.toNat n) (len - l.toNat) (cap - l.toNat)) := fun w _ => by
  simp [execOp, ho, hx, hlo, Instr.sliceAt, Instr.slice, Instr.sliceBounds, Instr.sliceBound, asIntOf, run_underlying ht, h0, h1, hs w, subA]
theorem y_slice_h {x hi : Operand} {t e : TypeId} {a : Option Addr} {len cap n : Nat} {k1 : IntKind} {h : Int} (ho : o.op = .slice t x none (some hi) none) (hx : ρ x = .slice a len cap) (hhi : ρ hi = .int k1 h) (ht : P.underlying t = some (.slice e))
    (hs : ∀ w, (sizeOf e).run P w = .ok n w) (h0 : 0 ≤ h) (h1 : h ≤ cap) : Gives P C o ρ (.slice a h.toNat cap) := fun w _ => by
  have := subA_zero a cap n
  unfold subA at this
  simp [execOp, ho, hx, hhi, Instr.sliceAt, Instr.slice, Instr.sliceBounds, Instr.sliceBound, asIntOf, run_underlying ht, h0, h1, hs w]
  cases a <;> simp [Addr.add]
theorem toList_inj {a b : ByteArray} : (a.toList == b.toList) = decide (a = b) := by
  rw [Bool.eq_iff_iff]
  simp only [beq_iff_eq, decide_eq_true_eq]
  constructor
  · intro h
    rw [ByteArray.toList_eq, ByteArray.toList_eq] at h
    cases a; cases b
    congr 1
    exact Array.toList_inj.1 h
  · intro h; rw [h]
theorem y_str_eql {t t2 : TypeId} {x y : Operand} {a b : ByteArray} (ho : o.op = .binOp .eql t x y t2) (hx : ρ x = .string a) (hy : ρ y = .string b) : Gives P C o ρ (.bool (decide (a = b))) :=
  y_str ho hx hy (fun w => by simp [Op.stringOp, toList_inj]) (by simp) (by simp)
theorem y_str_neq {t t2 : TypeId} {x y : Operand} {a b : ByteArray} (ho : o.op = .binOp .neq t x y t2) (hx : ρ x = .string a) (hy : ρ y = .string b) : Gives P C o ρ (.bool (decide (a ≠ b))) :=
  y_str ho hx hy (fun w => by simp only [Op.stringOp, toList_inj]; simp) (by simp) (by simp)
end

/-! ### slices that are read -/
/-- from address A on these cells lie -/
structure Rd (w : World) (A : Option Addr) (cs : List Value) : Prop where
  cell : ∀ (j : Nat) (x : Value), cs[j]? = some x → ∃ a, A = some a ∧ w.cell? (a.add j) = some x
theorem Rd.nil (w : World) (A : Option Addr) : Rd w A [] := ⟨fun _ _ h => by simp at h⟩
theorem Rd.keep {w w' : World} {A : Option Addr} {cs : List Value} (R : Rd w A cs) (hw : ∀ b, b < w.heap.size → w'.heap[b]? = w.heap[b]?) : Rd w' A cs :=
  ⟨fun j x hx => by
    obtain ⟨a, rfl, hc⟩ := R.cell j x hx
    refine ⟨a, rfl, ?_⟩
    have hb := World.block_lt_of_cell? w _ hc
    rw [World.cell?_of_block (hw _ hb)]; exact hc⟩
theorem Rd.old {w0 w : World} {L : List Ent} {A : Option Addr} {cs : List Value} (R : Rd w0 A cs) (H : Heap w0 L w) : Rd w A cs := R.keep H.base.block
theorem Rd.some {w : World} {A : Option Addr} {cs : List Value} (R : Rd w A cs) {j : Nat} (h : j < cs.length) : ∃ a, A = some a ∧ w.cell? (a.add j) = cs[j]? := by
  obtain ⟨a, ha, hc⟩ := R.cell j cs[j] (by simp)
  exact ⟨a, ha, by rw [hc]; simp⟩
theorem Rd.at_ {w : World} {a : Addr} {cs : List Value} (R : Rd w (.some a) cs) {j : Nat} {x : Value} (h : cs[j]? = .some x) : w.cell? (a.add j) = .some x := by
  obtain ⟨a', ha, hc⟩ := R.cell j x h
  cases ha; exact hc
theorem Addr.add_add (a : Addr) (m n : Nat) : (a.add m).add n = a.add (m + n) := by
  unfold Addr.add
  by_cases h1 : m = 0
  · subst h1; simp
  · by_cases h2 : n = 0
    · subst h2; simp [h1]
    · simp [h1, h2, Nat.add_assoc]
theorem Rd.drop {w : World} {A : Option Addr} {cs : List Value} (R : Rd w A cs) (n : Nat) : Rd w (A.map (·.add n)) (cs.drop n) :=
  ⟨fun j x hx => by
    obtain ⟨a, rfl, hc⟩ := R.cell (n + j) x (by simpa using hx)
    exact ⟨_, rfl, by rw [Addr.add_add]; exact hc⟩⟩
theorem Rd.take {w : World} {A : Option Addr} {cs : List Value} (R : Rd w A cs) (n : Nat) : Rd w A (cs.take n) :=
  ⟨fun j x hx => R.cell j x (by rw [List.getElem?_take] at hx; split at hx; exact hx; cases hx)⟩
theorem Rd.sub {w : World} {A : Option Addr} {cs : List Value} (R : Rd w A cs) {cap l size : Nat} (hc : cs.length ≤ cap * size) : Rd w (subA A cap l size) (cs.drop (l * size)) := by
  unfold subA
  split
  · rename_i h; subst h; rw [List.drop_eq_nil_of_le hc]; exact Rd.nil _ _
  · exact R.drop _
theorem Rd.mono {w : World} {A : Option Addr} {cs ds : List Value} (R : Rd w A cs) (h : ds <+: cs) : Rd w A ds :=
  ⟨fun j x hx => R.cell j x (by obtain ⟨t, rfl⟩ := h; exact List.getElem?_append_left (List.getElem?_eq_some_iff.1 hx).1 ▸ hx)⟩
theorem rd_row {w : World} {B e sz : Nat} {A : Option Addr} {len cap n : Nat} {xs : List Value} (h : w.ownsRow B e sz (.slice A len cap) n xs) : Rd w A xs := by
  refine ⟨fun j x hx => ?_⟩
  rcases h.2 with ⟨h1, h2⟩ | ⟨g, cap', cur, h1, _⟩
  · have := h.1; subst h2; simp at this; subst this; simp at hx
  · obtain ⟨rfl, _, _⟩ : A = .some ⟨g, 0, .none⟩ ∧ len = n ∧ cap = cap' := by simpa using h1
    exact ⟨_, rfl, h.cells rfl j x hx⟩
theorem rd_blk {w0 w : World} {L : List Ent} {b : Nat} {e : TypeId} {cs : List Value} (H : Heap w0 L w) (k : Nat) (hk : L[k]? = .some (Ent.blk b e cs)) : Rd w (.some ⟨b, 0, .none⟩) cs :=
  ⟨fun j x hx => ⟨_, rfl, by rw [add_lit]; simpa using cell_blk hk (off := j) hx w H⟩⟩
section
variable {P : Program} {w0 : World} {L : List Ent} {v : Value}
theorem cell_rd {a : Addr} {cs : List Value} {j : Nat} (R : Rd w0 (.some a) cs) (hv : cs[j]? = .some v) : ∀ w, Heap w0 L w → w.cell? (a.add j) = .some v := fun w H => (R.old H).at_ hv
end
theorem Heap.row_len {w0 w : World} {L : List Ent} {e sz n : Nat} {v : Value} {xs : List Value} (H : Heap w0 L w) (k : Nat) (hk : L[k]? = .some (Ent.row w0.heap.size e sz v n xs)) : xs.length = n * sz := (H.get k hk).1
/-- a row's head: nil, or a block -/
theorem Heap.row_val {w0 w : World} {L : List Ent} {e sz n : Nat} {v : Value} {xs : List Value} (H : Heap w0 L w) (k : Nat) (hk : L[k]? = .some (Ent.row w0.heap.size e sz v n xs)) : ∃ A cap, v = .slice A n cap ∧ n ≤ cap ∧ Rd w A xs := by
  have h : w.ownsRow w0.heap.size e sz v n xs := H.get k hk
  rcases h.2 with ⟨rfl, rfl⟩ | ⟨g, cap, cur, rfl, _, _, hc, _⟩
  · exact ⟨_, _, rfl, Nat.le_refl _, rd_row h⟩
  · exact ⟨_, _, rfl, hc, rd_row h⟩
/-- a new empty row -/
theorem Heap.row0 {w0 w : World} {L : List Ent} (H : Heap w0 L w) (e sz : Nat) : Heap w0 (Ent.row w0.heap.size e sz (.slice .none 0 0) 0 [] :: L) w := by
  refine ⟨?_, ?_, ?_, H.base⟩
  · simpa [feet, Ent.row, Value.ownBlock] using H.nodup
  · simpa [feet, Ent.row, Value.ownBlock] using H.new
  · intro x hx
    rcases List.mem_cons.1 hx with rfl | hx
    · exact World.ownsRow_nil w _ e sz
    · exact H.oks x hx
end Go.Eng
