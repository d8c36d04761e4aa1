/-
  The engine, part 2: one rule for each operation.
-/
import Derived.Test.YtjfifehofflaeaaEng1
import Derived.Laws.CopyRow
import Derived.Laws.Cells
namespace Go.Eng
open Go.RowKit
set_option linter.unusedSimpArgs false
set_option linter.unusedVariables false

section
variable {P : Program} {w0 : World} {L : List Ent} {o : Oper} {ρ : Operand → Value}

/-- the operation hands back v, in every world of the class, and turns nothing. -/
def Gives (P : Program) (C : World → Prop) (o : Oper) (ρ : Operand → Value) (v : Value) : Prop := ∀ w, C w → (execOp ρ o).run P w = .ok (.value v) w

variable {C : World → Prop} {v : Value}

theorem y_move {x : Operand} (ho : o.op = .move x) (hx : ρ x = v) : Gives P C o ρ v := fun w _ => by
  subst hx; simp [execOp, ho]
theorem y_assign {x : Operand} (ho : o.op = .assign x) (hx : ρ x = v) : Gives P C o ρ v := fun w _ => by
  subst hx; simp [execOp, ho]
theorem y_pick {c x y : Operand} {b : Bool} (ho : o.op = .pick c x y) (hc : ρ c = .bool b) (hv : (if b then ρ x else ρ y) = v) : Gives P C o ρ v := fun w _ => by
  subst hv; simp [execOp, ho, hc, asBool]
theorem y_nilCheck {x : Operand} {a : Addr} (ho : o.op = .nilCheck x) (hx : ρ x = .pointer (some a)) : Gives P C o ρ (.pointer (some a)) := fun w _ => by
  simp [execOp, ho, hx]

/-! integers -/
theorem y_int {op : BinOp} {t t2 : TypeId} {x y : Operand} {k : IntKind} {a b : Int} (ho : o.op = .binOp op t x y t2) (hx : ρ x = .int k a) (hy : ρ y = .int k b)
    (h : ∀ w, (binOp op t (.int k a) (.int k b)).run P w = .ok v w) : Gives P C o ρ v := fun w _ => by
  simp [execOp, ho, hx, hy, eqGuard, h w]
theorem y_add {t t2 : TypeId} {x y : Operand} {k : IntKind} {a b r : Int} (ho : o.op = .binOp .add t x y t2) (hx : ρ x = .int k a) (hy : ρ y = .int k b) (hr : k.wrap (a + b) = r) : Gives P C o ρ (.int k r) :=
  y_int ho hx hy fun w => by subst hr; simp [binOp, Op.intArith]
theorem y_sub {t t2 : TypeId} {x y : Operand} {k : IntKind} {a b r : Int} (ho : o.op = .binOp .sub t x y t2) (hx : ρ x = .int k a) (hy : ρ y = .int k b) (hr : k.wrap (a - b) = r) : Gives P C o ρ (.int k r) :=
  y_int ho hx hy fun w => by subst hr; simp [binOp, Op.intArith]
theorem y_mul {t t2 : TypeId} {x y : Operand} {k : IntKind} {a b r : Int} (ho : o.op = .binOp .mul t x y t2) (hx : ρ x = .int k a) (hy : ρ y = .int k b) (hr : k.wrap (a * b) = r) : Gives P C o ρ (.int k r) :=
  y_int ho hx hy fun w => by subst hr; simp [binOp, Op.intArith]
theorem y_quo {t t2 : TypeId} {x y : Operand} {k : IntKind} {a b r : Int} (ho : o.op = .binOp .quo t x y t2) (hx : ρ x = .int k a) (hy : ρ y = .int k b) (hb : b ≠ 0) (hr : k.wrap (a.tdiv b) = r) : Gives P C o ρ (.int k r) :=
  y_int ho hx hy fun w => by subst hr; simp [binOp, Op.intDiv, hb]
theorem y_rem {t t2 : TypeId} {x y : Operand} {k : IntKind} {a b r : Int} (ho : o.op = .binOp .rem t x y t2) (hx : ρ x = .int k a) (hy : ρ y = .int k b) (hb : b ≠ 0) (hr : a.tmod b = r) : Gives P C o ρ (.int k r) :=
  y_int ho hx hy fun w => by subst hr; simp [binOp, Op.intDiv, hb]
/-- the value of & | ^ &^ -/
def bitsOf (op : BinOp) (k : IntKind) (a b : Int) : Int :=
  match op with
  | .and => k.wrap (BitVec.ofInt k.bits a &&& BitVec.ofInt k.bits b).toNat
  | .or => k.wrap (BitVec.ofInt k.bits a ||| BitVec.ofInt k.bits b).toNat
  | .xor => k.wrap (BitVec.ofInt k.bits a ^^^ BitVec.ofInt k.bits b).toNat
  | .andNot => k.wrap (BitVec.ofInt k.bits a &&& ~~~BitVec.ofInt k.bits b).toNat
  | _ => 0
theorem y_and {t t2 : TypeId} {x y : Operand} {k : IntKind} {a b r : Int} (ho : o.op = .binOp .and t x y t2) (hx : ρ x = .int k a) (hy : ρ y = .int k b) (hr : bitsOf .and k a b = r) : Gives P C o ρ (.int k r) :=
  y_int ho hx hy fun w => by subst hr; simp [binOp, Op.intBits, bitsOf]
theorem y_or {t t2 : TypeId} {x y : Operand} {k : IntKind} {a b r : Int} (ho : o.op = .binOp .or t x y t2) (hx : ρ x = .int k a) (hy : ρ y = .int k b) (hr : bitsOf .or k a b = r) : Gives P C o ρ (.int k r) :=
  y_int ho hx hy fun w => by subst hr; simp [binOp, Op.intBits, bitsOf]
theorem y_xor {t t2 : TypeId} {x y : Operand} {k : IntKind} {a b r : Int} (ho : o.op = .binOp .xor t x y t2) (hx : ρ x = .int k a) (hy : ρ y = .int k b) (hr : bitsOf .xor k a b = r) : Gives P C o ρ (.int k r) :=
  y_int ho hx hy fun w => by subst hr; simp [binOp, Op.intBits, bitsOf]
theorem y_andNot {t t2 : TypeId} {x y : Operand} {k : IntKind} {a b r : Int} (ho : o.op = .binOp .andNot t x y t2) (hx : ρ x = .int k a) (hy : ρ y = .int k b) (hr : bitsOf .andNot k a b = r) : Gives P C o ρ (.int k r) :=
  y_int ho hx hy fun w => by subst hr; simp [binOp, Op.intBits, bitsOf]
theorem y_shl {t t2 : TypeId} {x y : Operand} {k k2 : IntKind} {a b r : Int} (ho : o.op = .binOp .shl t x y t2) (hx : ρ x = .int k a) (hy : ρ y = .int k2 b) (hb : 0 ≤ b) (hr : k.wrap (a * 2 ^ min b.toNat k.bits) = r) : Gives P C o ρ (.int k r) := fun w _ => by
  have : ¬ b < 0 := by omega
  subst hr; simp [execOp, ho, hx, hy, eqGuard, binOp, Op.shift, this]
theorem y_shr {t t2 : TypeId} {x y : Operand} {k k2 : IntKind} {a b r : Int} (ho : o.op = .binOp .shr t x y t2) (hx : ρ x = .int k a) (hy : ρ y = .int k2 b) (hb : 0 ≤ b) (hr : a.fdiv (2 ^ min b.toNat k.bits) = r) : Gives P C o ρ (.int k r) := fun w _ => by
  have : ¬ b < 0 := by omega
  subst hr; simp [execOp, ho, hx, hy, eqGuard, binOp, Op.shift, this]
theorem y_eql {t t2 : TypeId} {x y : Operand} {k : IntKind} {a b : Int} (ho : o.op = .binOp .eql t x y t2) (hx : ρ x = .int k a) (hy : ρ y = .int k b) : Gives P C o ρ (.bool (decide (a = b))) :=
  y_int ho hx hy fun w => by
    have : (a == b) = decide (a = b) := by rw [Bool.eq_iff_iff]; simp
    simp [binOp, Op.intCmp, this]
theorem y_neq {t t2 : TypeId} {x y : Operand} {k : IntKind} {a b : Int} (ho : o.op = .binOp .neq t x y t2) (hx : ρ x = .int k a) (hy : ρ y = .int k b) : Gives P C o ρ (.bool (decide (a ≠ b))) :=
  y_int ho hx hy fun w => by
    have : (a != b) = decide (a ≠ b) := by rw [Bool.eq_iff_iff]; simp
    simp only [binOp, Op.intCmp, this]; simp
theorem y_lss {t t2 : TypeId} {x y : Operand} {k : IntKind} {a b : Int} (ho : o.op = .binOp .lss t x y t2) (hx : ρ x = .int k a) (hy : ρ y = .int k b) : Gives P C o ρ (.bool (decide (a < b))) :=
  y_int ho hx hy fun w => by simp [binOp, Op.intCmp]
theorem y_leq {t t2 : TypeId} {x y : Operand} {k : IntKind} {a b : Int} (ho : o.op = .binOp .leq t x y t2) (hx : ρ x = .int k a) (hy : ρ y = .int k b) : Gives P C o ρ (.bool (decide (a ≤ b))) :=
  y_int ho hx hy fun w => by simp [binOp, Op.intCmp]
theorem y_gtr {t t2 : TypeId} {x y : Operand} {k : IntKind} {a b : Int} (ho : o.op = .binOp .gtr t x y t2) (hx : ρ x = .int k a) (hy : ρ y = .int k b) : Gives P C o ρ (.bool (decide (b < a))) :=
  y_int ho hx hy fun w => by simp [binOp, Op.intCmp]
theorem y_geq {t t2 : TypeId} {x y : Operand} {k : IntKind} {a b : Int} (ho : o.op = .binOp .geq t x y t2) (hx : ρ x = .int k a) (hy : ρ y = .int k b) : Gives P C o ρ (.bool (decide (b ≤ a))) :=
  y_int ho hx hy fun w => by simp [binOp, Op.intCmp]
theorem y_not {t : TypeId} {x : Operand} {b : Bool} (ho : o.op = .unOp .not t x) (hx : ρ x = .bool b) : Gives P C o ρ (.bool (!b)) := fun w _ => by
  simp [execOp, ho, hx, Op.unary]
theorem y_neg {t : TypeId} {x : Operand} {k : IntKind} {a r : Int} (ho : o.op = .unOp .neg t x) (hx : ρ x = .int k a) (hr : k.wrap (0 - a) = r) : Gives P C o ρ (.int k r) := fun w _ => by
  subst hr; simp [execOp, ho, hx, Op.unary, Op.intArith]
theorem y_com {t : TypeId} {x : Operand} {k : IntKind} {a r : Int} (ho : o.op = .unOp .xor t x) (hx : ρ x = .int k a) (hr : bitsOf .xor k (if k.signed then -1 else k.max) a = r) : Gives P C o ρ (.int k r) := fun w _ => by
  subst hr; simp [execOp, ho, hx, Op.unary, Op.intBits, bitsOf]
theorem y_conv {src dst : TypeId} {x : Operand} {k k2 : IntKind} {a r : Int} {d : TypeDesc} (ho : o.op = .convert src dst x) (hx : ρ x = .int k2 a) (hs : P.underlying src = some d) (hd : P.underlying dst = some (.int k)) (hr : k.wrap a = r) : Gives P C o ρ (.int k r) := fun w _ => by
  subst hr; simp [execOp, ho, hx, convert, run_underlying hs, run_underlying hd, Conv.intToInt]

/-! strings -/
theorem y_str {op : BinOp} {t t2 : TypeId} {x y : Operand} {a b : ByteArray} (ho : o.op = .binOp op t x y t2) (hx : ρ x = .string a) (hy : ρ y = .string b)
    (h : ∀ w, (Op.stringOp op a b).run P w = .ok v w) (hs : op ≠ .shl) (hr : op ≠ .shr) : Gives P C o ρ v := fun w _ => by
  cases op <;> simp_all [execOp, eqGuard, binOp]

/-! structs, arrays as values -/
theorem y_field {t : TypeId} {x : Operand} {i : Nat} {fs : Array Field} {g : Field} {cs : Array Value} (ho : o.op = .field t x i) (hx : ρ x = .agg cs) (ht : P.underlying t = some (.struct fs)) (hg : fs[i]? = some g)
    (hp : ∀ w, (part g.type cs g.offset).run P w = .ok v w) : Gives P C o ρ v := fun w _ => by
  simp [execOp, ho, hx, Instr.field, run_underlying ht, hg, asAgg, hp w]
theorem y_extract {x : Operand} {i : Nat} {vs : Array Value} (ho : o.op = .extract x i) (hx : ρ x = .tuple vs) (hv : vs[i]? = some v) : Gives P C o ρ v := fun w _ => by
  simp [execOp, ho, hx, Instr.extract, hv]
theorem y_build {t : TypeId} {l : List (Nat × Operand)} {vals : List (Nat × Value)} (ho : o.op = .build t l.toArray) (hv : l.map (fun p => (p.1, ρ p.2)) = vals) (hb : ∀ w, (Instr.build t vals.toArray).run P w = .ok v w) : Gives P C o ρ v := fun w _ => by
  subst hv
  have := hb w
  simp only [execOp, ho, List.map_toArray] at this ⊢
  simp [this]
theorem y_mkiface {t : TypeId} {x : Operand} {u : Value} (ho : o.op = .makeInterface t x) (hx : ρ x = u) (ht : P.concrete t = true) : Gives P C o ρ (.iface t u) := fun w _ => by
  subst hx; simp [execOp, ho, run_makeInterface w t _ ht]
theorem y_mkfunc {fn : Fn} {l1 l2 : List Operand} {fi ca : List Value} (ho : o.op = .makeFunc fn l1.toArray l2.toArray) (h1 : l1.map ρ = fi) (h2 : l2.map ρ = ca) : Gives P C o ρ (.func fn fi.toArray ca.toArray) := fun w _ => by
  subst h1; subst h2
  simp [execOp, ho, Instr.makeFunc]

/-! addresses -/
theorem add_lit (b off n : Nat) : (⟨b, off, none⟩ : Addr).add n = ⟨b, off + n, none⟩ := by
  unfold Addr.add; split <;> simp_all
theorem y_fieldAddr {t : TypeId} {x : Operand} {i : Nat} {fs : Array Field} {g : Field} {b off n : Nat} (q : Nat) (ho : o.op = .fieldAddr t x i) (hx : ρ x = .pointer (some ⟨b, off, none⟩)) (ht : P.underlying t = some (.struct fs)) (hg : fs[i]? = some g)
    (hs : ∀ w, (sizeOf g.type).run P w = .ok (n + 1) w) (hq : g.offset = q) : Gives P C o ρ (.pointer (some ⟨b, off + q, none⟩)) := fun w _ => by
  subst hq
  simp [execOp, ho, hx, Instr.fieldAt, run_underlying ht, hg, Instr.sureAddr, fieldPlace, hs w, add_lit]
theorem y_indexArr {t e : TypeId} {x y : Operand} {len n : Nat} {b off : Nat} {k : IntKind} {i : Int} (ho : o.op = .indexAddr t x y) (hx : ρ x = .pointer (some ⟨b, off, none⟩)) (hy : ρ y = .int k i) (ht : P.underlying t = some (.array len e))
    (hs : ∀ w, (sizeOf e).run P w = .ok n w) (h0 : 0 ≤ i) (h1 : i < len) : Gives P C o ρ (.pointer (some ⟨b, off + i.toNat * n, none⟩)) := fun w _ => by
  simp [execOp, ho, hx, hy, Instr.indexAt, asIntOf, run_underlying ht, Instr.sureAddr, h0, h1, hs w, add_lit]
theorem y_indexSl {t e : TypeId} {x y : Operand} {n : Nat} {a : Addr} {len cap : Nat} {k : IntKind} {i : Int} (ho : o.op = .indexAddr t x y) (hx : ρ x = .slice (some a) len cap) (hy : ρ y = .int k i) (ht : P.underlying t = some (.slice e))
    (hs : ∀ w, (sizeOf e).run P w = .ok n w) (h0 : 0 ≤ i) (h1 : i < len) : Gives P C o ρ (.pointer (some (a.add (i.toNat * n)))) := fun w _ => by
  simp [execOp, ho, hx, hy, Instr.indexAt, asIntOf, run_underlying ht, h0, h1, hs w]
/-- a value of an array indexed -/
theorem y_indexVal {t e : TypeId} {x y : Operand} {len : Nat} {cs : Array Value} {k : IntKind} {i : Int} (ho : o.op = .index t x y) (hx : ρ x = .agg cs) (hy : ρ y = .int k i) (ht : P.underlying t = some (.array len e))
    (ha : ∀ w, (isAgg e).run P w = .ok false w) (hs : ∀ w, (sizeOf e).run P w = .ok 1 w) (h0 : 0 ≤ i) (h1 : i < len) (hv : cs[i.toNat]? = some v) : Gives P C o ρ v := fun w _ => by
  simp [execOp, ho, hx, hy, Instr.index, asIntOf, run_underlying ht, h0, h1, part, ha w, hs w, hv]
theorem y_indexStr {t : TypeId} {x y : Operand} {s : ByteArray} {k : IntKind} {i : Int} {c : UInt8} (ho : o.op = .index t x y) (hx : ρ x = .string s) (hy : ρ y = .int k i) (ht : P.underlying t = some .string)
    (h0 : 0 ≤ i) (hv : s[i.toNat]? = some c) : Gives P C o ρ (.int .u8 c.toNat) := fun w _ => by
  simp [execOp, ho, hx, hy, Instr.index, asIntOf, run_underlying ht, h0, hv]

/-! loads -/
theorem y_load {t : TypeId} {x : Operand} {a : Addr} (ho : o.op = .load t x) (hx : ρ x = .pointer (some a)) (ha : ∀ w, (isAgg t).run P w = .ok false w) (hc : ∀ w, C w → w.cell? a = some v) : Gives P C o ρ v := fun w hw => by
  simp [execOp, ho, hx, Instr.loadAt, Instr.sureAddr, loadVar, ha w, load, Sem.run, hc w hw]
theorem y_loadAgg {t : TypeId} {x : Operand} {a : Addr} {vs : List Value} (ho : o.op = .load t x) (hx : ρ x = .pointer (some a)) (ha : ∀ w, (isAgg t).run P w = .ok true w) (hs : ∀ w, (sizeOf t).run P w = .ok vs.length w)
    (hc : ∀ w, C w → ∀ j u, vs[j]? = some u → w.cell? (a.add j) = some u) : Gives P C o ρ (.agg vs.toArray) := fun w hw => by
  have := run_loadCells_list (P := P) w a vs (fun j u hu => hc w hw j u hu)
  simp [execOp, ho, hx, Instr.loadAt, Instr.sureAddr, loadVar, ha w, hs w, this]

theorem cell_blk {k b off : Nat} {e : TypeId} {cs : List Value} (hk : L[k]? = some (Ent.blk b e cs)) (hv : cs[off]? = some v) : ∀ w, Heap w0 L w → w.cell? ⟨b, off, none⟩ = some v := fun w H => by
  have h : w.heap[b]? = some (.cells cs.toArray e (0, 0)) := H.get k hk
  simp [World.cell?, h, hv]
theorem cells_blk {k b off : Nat} {e : TypeId} {cs vs : List Value} (hk : L[k]? = some (Ent.blk b e cs)) (hv : (cs.drop off).take vs.length = vs) : ∀ w, Heap w0 L w → ∀ j u, vs[j]? = some u → w.cell? ((⟨b, off, none⟩ : Addr).add j) = some u := fun w H j u hu => by
  rw [add_lit]
  refine cell_blk hk ?_ w H
  rw [← hv] at hu
  rw [List.getElem?_take] at hu
  split at hu
  · simpa using hu
  · cases hu
/-- memory that was there: a cell of it reads as it did. -/
theorem cell_old {a : Addr} (hc : w0.cell? a = some v) : ∀ w, Heap w0 L w → w.cell? a = some v := fun w H => by
  have hb : a.block < w0.heap.size := World.block_lt_of_cell? w0 a hc
  rw [World.cell?_of_block (H.base.block a.block hb)]; exact hc
/-- the i-th element of an owned row (elements of one cell). -/
theorem cell_row {k : Nat} {e B : Nat} {a : Addr} {len cap n i : Nat} {xs : List Value} (hk : L[k]? = some (Ent.row B e 1 (.slice (some a) len cap) n xs)) (hv : xs[i]? = some v) : ∀ w, Heap w0 L w → w.cell? (a.add i) = some v := fun w H => by
  have h : w.ownsRow B e 1 (.slice (some a) len cap) n xs := H.get k hk
  rcases h.2 with ⟨h1, _⟩ | ⟨g, cap', cur, h1, _⟩
  · cases h1
  · obtain ⟨ha, _, _⟩ : a = ⟨g, 0, none⟩ ∧ len = n ∧ cap = cap' := by simpa using h1
    subst ha
    exact h.cells rfl i v hv
end

/-! ### walking a list of operations -/
section
variable {P : Program} {w0 w : World} {L : List Ent} {ops : Array Oper} {Q : Exit → Act → World → Prop} {rest : List Oper} {n : Nat} {f : Nat → Value} {ds : List Deferred}

theorem L1 {o : Oper} {d : Nat} {v : Value} (hg : o.guard = none) (hd : o.dst = some d) (H : Heap w0 L w) (h : Gives P (Heap w0 L) o (ev n f) v)
    (k : wpList P ops Q rest (AA n (up f d v) ds) w) : wpList P ops Q (o :: rest) (AA n f ds) w :=
  wpList_plain hg fun K hK => by
    show o.upon P _ K Q ((execOp (AA n f ds).eval o).run P w)
    rw [eval_AA, h w H, Oper.upon_value, hd, put_AA]
    exact hK _ _ k
theorem L0 {o : Oper} {v : Value} (hg : o.guard = none) (hd : o.dst = none) (H : Heap w0 L w) (h : Gives P (Heap w0 L) o (ev n f) v)
    (k : wpList P ops Q rest (AA n f ds) w) : wpList P ops Q (o :: rest) (AA n f ds) w :=
  wpList_plain hg fun K hK => by
    show o.upon P _ K Q ((execOp (AA n f ds).eval o).run P w)
    rw [eval_AA, h w H, Oper.upon_value, hd, put_AA_none]
    exact hK _ _ k
/-- a step that turns the world. -/
theorem Lw {o : Oper} {d : Nat} {v : Value} {w' : World} (hg : o.guard = none) (hd : o.dst = some d) (h : (execOp (ev n f) o).run P w = .ok (.value v) w')
    (k : wpList P ops Q rest (AA n (up f d v) ds) w') : wpList P ops Q (o :: rest) (AA n f ds) w :=
  wpList_plain hg fun K hK => by
    show o.upon P _ K Q ((execOp (AA n f ds).eval o).run P w)
    rw [eval_AA, h, Oper.upon_value, hd, put_AA]
    exact hK _ _ k
theorem Lskip {o : Oper} {w' : World} (hg : o.guard = none) (hd : o.dst = none) (h : (execOp (ev n f) o).run P w = .ok .skip w')
    (k : wpList P ops Q rest (AA n f ds) w') : wpList P ops Q (o :: rest) (AA n f ds) w :=
  wpList_plain hg fun K hK => by
    show o.upon P _ K Q ((execOp (AA n f ds).eval o).run P w)
    rw [eval_AA, h, Oper.upon_skip, hd, put_AA_none]
    exact hK _ _ k
theorem yielded_AA {j s : Nat} (hj : (ops[j]?).bind (·.dst) = some s) {b : Bool} (hs : ev n f (.tmp s) = .bool b) : yielded ops (fr n f) j = some b := by
  have hsn : s < n := by
    rcases Nat.lt_or_ge s n with h | h
    · exact h
    · have hb : Nat.blt s n = false := by
        cases hb : Nat.blt s n with
        | false => rfl
        | true => exact absurd (by simpa [Nat.blt_eq] using hb) (Nat.not_lt.2 h)
      simp only [ev, hb, cond_false] at hs
      cases hs
  have hb : Nat.blt s n = true := by simpa [Nat.blt_eq] using hsn
  simp only [ev, hb, cond_true] at hs
  have : (fr n f)[s]? = some (.bool b) := by simp [fr, hsn, hs]
  unfold yielded
  rw [hj]
  simp [this]
/-- a guarded operation that is carried out. -/
theorem L1g {o : Oper} {d j s : Nat} {v : Value} {b : Bool} (hg : o.guard = some (j, b)) (hj : (ops[j]?).bind (·.dst) = some s) (hs : ev n f (.tmp s) = .bool b) (hd : o.dst = some d) (H : Heap w0 L w)
    (h : Gives P (Heap w0 L) o (ev n f) v) (k : wpList P ops Q rest (AA n (up f d v) ds) w) : wpList P ops Q (o :: rest) (AA n f ds) w :=
  wpList_step fun K hK => by
    have hw : Region.wanted o (yielded ops (AA n f ds).tmps) = true := by
      simp [Region.wanted, hg, AA, yielded_AA hj hs]
    rw [if_pos hw]
    show o.upon P _ K Q ((execOp (AA n f ds).eval o).run P w)
    rw [eval_AA, h w H, Oper.upon_value, hd, put_AA]
    exact hK _ _ k
/-- a guarded operation that is left out. -/
theorem Lno {o : Oper} {d j s : Nat} {b b' : Bool} (hg : o.guard = some (j, b)) (hj : (ops[j]?).bind (·.dst) = some s) (hs : ev n f (.tmp s) = .bool b') (hb : b' = !b) (hd : o.dst = some d)
    (k : wpList P ops Q rest (AA n (up f d undef) ds) w) : wpList P ops Q (o :: rest) (AA n f ds) w :=
  wpList_step fun K hK => by
    have hw : Region.wanted o (yielded ops (AA n f ds).tmps) = false := by
      subst hb
      simp [Region.wanted, hg, AA, yielded_AA hj hs]
    rw [if_neg (by rw [hw]; simp), hd, put_AA]
    exact hK _ _ k
/-- a guarded operation whose guard was itself left out. -/
theorem Lno' {o : Oper} {d j s : Nat} {b : Bool} (hg : o.guard = some (j, b)) (hj : (ops[j]?).bind (·.dst) = some s) (hs : f s = undef) (hd : o.dst = some d)
    (k : wpList P ops Q rest (AA n (up f d undef) ds) w) : wpList P ops Q (o :: rest) (AA n f ds) w :=
  wpList_step fun K hK => by
    have hw : Region.wanted o (yielded ops (AA n f ds).tmps) = false := by
      have : yielded ops (fr n f) j = none := by
        unfold yielded
        rw [hj]
        simp only [Option.bind_some]
        by_cases h : s < n
        · simp [fr, h, hs, undef]
        · simp [fr, h]
      simp [Region.wanted, hg, AA, this]
    rw [if_neg (by rw [hw]; simp), hd, put_AA]
    exact hK _ _ k

/-- a call of a function of the program. -/
theorem Lcall {o : Oper} {c : Call} {g : FuncId} {args : Array Value} (hg : o.guard = none) (ho : o.op = .call c) (hr : (do let d ← resolve (ev n f) c o.type; invoke d.target d.args : Sem Next) = callFunc g args)
    (he : ∀ w, (callFunc g args).run P w = .ok (.enter g args) w)
    (h : Calls P g args w fun e w' => match e with
      | .returned v => wpList P ops Q rest ((AA n f ds).put o.dst v) w'
      | .panicked ch => Q (.panic ch) (AA n f ds) w'
      | .outgrown => LetsOut Q) : wpList P ops Q (o :: rest) (AA n f ds) w :=
  wpList_plain hg fun K hK => by
    show o.upon P _ K Q ((execOp (AA n f ds).eval o).run P w)
    have : execOp (AA n f ds).eval o = callFunc g args := by rw [eval_AA, ← hr]; simp only [execOp, ho]
    rw [this, he w, Oper.upon_enter]
    refine h.mono fun e w' h' => ?_
    cases e with
    | returned v => exact hK _ _ h'
    | panicked ch => exact h'
    | outgrown => exact h'
end
end Go.Eng
