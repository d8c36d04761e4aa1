/-
  The engine, part 6: more operations.
-/
import Derived.Test.YtjfifehofflaeaaEng5
import Derived.Laws.IdiomStrings
import Derived.Laws.Small
namespace Go.Eng
open Go.RowKit
set_option linter.unusedSimpArgs false
set_option linter.unusedVariables false

def CellsAt : List (Addr × Value) → World → Prop
  | [], _ => True
  | (a, v) :: l, w => w.cell? a = some v ∧ CellsAt l w

section
variable {P : Program} {w0 : World} {L : List Ent} {C : World → Prop} {o : Oper} {ρ : Operand → Value} {v : Value}
theorem y_max2 {x y : Operand} {ts : Array TypeId} {k : IntKind} {a b : Int} (ho : o.op = .call { callee := .builtin .max, args := #[x, y], argTypes := ts }) (hx : ρ x = .int k a) (hy : ρ y = .int k b) : Gives P C o ρ (.int k (max a b)) := fun w _ => by
  have : (if b > a then b else a) = max a b := by omega
  simp [execOp, ho, resolve, invoke, builtin, hx, hy, run_max_int2, this]
theorem y_min2 {x y : Operand} {ts : Array TypeId} {k : IntKind} {a b : Int} (ho : o.op = .call { callee := .builtin .min, args := #[x, y], argTypes := ts }) (hx : ρ x = .int k a) (hy : ρ y = .int k b) : Gives P C o ρ (.int k (min a b)) := fun w _ => by
  have : (if b < a then b else a) = min a b := by omega
  simp [execOp, ho, resolve, invoke, builtin, hx, hy, run_min_int2, this]
theorem y_eqlG {t t2 : TypeId} {x y : Operand} {a b : Value} {r : Bool} (ho : o.op = .binOp .eql t x y t2) (hx : ρ x = a) (hy : ρ y = b) (hg : ∀ w, (eqGuard .eql t x y a b).run P w = .ok () w)
    (hb : binOp .eql t a b = (do let r ← Op.equalIn (9999 + 1) t a b; pure (.bool r) : Sem Value)) (h : ∀ w, (Op.equalIn (9999 + 1) t a b).run P w = .ok r w) : Gives P C o ρ (.bool r) := fun w _ => by
  subst hx; subst hy
  simp [execOp, ho, hg w, hb, h w]
theorem y_neqG {t t2 : TypeId} {x y : Operand} {a b : Value} {r : Bool} (ho : o.op = .binOp .neq t x y t2) (hx : ρ x = a) (hy : ρ y = b) (hg : ∀ w, (eqGuard .neq t x y a b).run P w = .ok () w)
    (hb : binOp .neq t a b = (do let r ← Op.equalIn (9999 + 1) t a b; pure (.bool (!r)) : Sem Value)) (h : ∀ w, (Op.equalIn (9999 + 1) t a b).run P w = .ok r w) : Gives P C o ρ (.bool (!r)) := fun w _ => by
  subst hx; subst hy
  simp [execOp, ho, hg w, hb, h w]
theorem eqIn_slice_nil (d : Nat) {t e : TypeId} {a : Option Addr} {l c c1 c2 : Nat} (ht : P.underlying t = some (.slice e)) (w : World) : (Op.equalIn (d + 1) t (.slice a l c) (.slice none c1 c2)).run P w = .ok a.isNone w := by
  cases a <;> simp [Op.equalIn, run_underlying ht]
theorem eqIn_ptr_nil (d : Nat) {t e : TypeId} {a : Option Addr} (ht : P.underlying t = some (.pointer e)) (w : World) : (Op.equalIn (d + 1) t (.pointer a) (.pointer none)).run P w = .ok a.isNone w := by
  cases a <;> simp [Op.equalIn, run_underlying ht]
theorem eqIn_iface_nil (d : Nat) {t u : TypeId} {z : Value} {ms : Array (String × TypeId)} (ht : P.underlying t = some (.interface ms)) (w : World) : (Op.equalIn (d + 1) t (.iface u z) .nilIface).run P w = .ok false w := by
  simp [Op.equalIn, run_underlying ht]
theorem eqIn_nil_nil (d : Nat) {t : TypeId} {ms : Array (String × TypeId)} (ht : P.underlying t = some (.interface ms)) (w : World) : (Op.equalIn (d + 1) t .nilIface .nilIface).run P w = .ok true w := by
  simp [Op.equalIn, run_underlying ht]
theorem eqIn_bool (d : Nat) {t : TypeId} {a b : Bool} (ht : P.underlying t = some .bool) (w : World) : (Op.equalIn (d + 1) t (.bool a) (.bool b)).run P w = .ok (a == b) w := by
  simp [Op.equalIn, run_underlying ht]
theorem y_slice_eql_nil {t t2 e : TypeId} {x y : Operand} {a : Option Addr} {l c c1 c2 : Nat} (ho : o.op = .binOp .eql t x y t2) (hx : ρ x = .slice a l c) (hy : ρ y = .slice none c1 c2) (ht : P.underlying t = some (.slice e)) : Gives P C o ρ (.bool a.isNone) :=
  y_eqlG ho hx hy (fun w => by simp [eqGuard]) rfl (eqIn_slice_nil _ ht)
theorem y_slice_neq_nil {t t2 e : TypeId} {x y : Operand} {a : Option Addr} {l c c1 c2 : Nat} (ho : o.op = .binOp .neq t x y t2) (hx : ρ x = .slice a l c) (hy : ρ y = .slice none c1 c2) (ht : P.underlying t = some (.slice e)) : Gives P C o ρ (.bool (!a.isNone)) :=
  y_neqG ho hx hy (fun w => by simp [eqGuard]) rfl (eqIn_slice_nil _ ht)
theorem y_ptr_eql_nil {t t2 e : TypeId} {x y : Operand} {a : Option Addr} (ho : o.op = .binOp .eql t x y t2) (hx : ρ x = .pointer a) (hy : ρ y = .pointer none) (ht : P.underlying t = some (.pointer e)) : Gives P C o ρ (.bool a.isNone) :=
  y_eqlG ho hx hy (fun w => by simp [eqGuard]) rfl (eqIn_ptr_nil _ ht)
theorem y_ptr_neq_nil {t t2 e : TypeId} {x y : Operand} {a : Option Addr} (ho : o.op = .binOp .neq t x y t2) (hx : ρ x = .pointer a) (hy : ρ y = .pointer none) (ht : P.underlying t = some (.pointer e)) : Gives P C o ρ (.bool (!a.isNone)) :=
  y_neqG ho hx hy (fun w => by simp [eqGuard]) rfl (eqIn_ptr_nil _ ht)
theorem y_iface_eql_nil {t t2 : TypeId} {x y : Operand} {u : TypeId} {z : Value} {ms : Array (String × TypeId)} (ho : o.op = .binOp .eql t x y t2) (hx : ρ x = .iface u z) (hy : ρ y = .nilIface) (ht : P.underlying t = some (.interface ms)) : Gives P C o ρ (.bool false) :=
  y_eqlG ho hx hy (fun w => by simp [eqGuard]) rfl (eqIn_iface_nil _ ht)
theorem y_iface_eql_nil2 {t t2 : TypeId} {x : Operand} {ms : Array (String × TypeId)} (ho : o.op = .binOp .eql t x (.const .nilIface) t2) (hx : ρ x = .nilIface) (hy : ρ (.const .nilIface) = .nilIface) (ht : P.underlying t = some (.interface ms)) : Gives P C o ρ (.bool true) :=
  y_eqlG ho hx hy (fun w => by simp [eqGuard]) rfl (eqIn_nil_nil _ ht)
theorem y_eql_bool {t t2 : TypeId} {x y : Operand} {a b : Bool} (ho : o.op = .binOp .eql t x y t2) (hx : ρ x = .bool a) (hy : ρ y = .bool b) (ht : P.underlying t = some .bool) : Gives P C o ρ (.bool (a == b)) :=
  y_eqlG ho hx hy (fun w => by simp [eqGuard]) rfl (eqIn_bool _ ht)
theorem y_assert_ok {t t2 : TypeId} {x : Operand} {z : Value} {d : TypeDesc} (ho : o.op = .typeAssert x t2 t true) (hx : ρ x = .iface t z) (ht : P.underlying t = some d) (hd : ∀ ms, d ≠ .interface ms) : Gives P C o ρ (.tuple #[z, .bool true]) := fun w _ => by
  cases d <;> simp_all [execOp, Instr.typeAssert, run_underlying ht]
/-- bytes as a string -/
def bvv (x : UInt8) : Value := .int .u8 x.toNat
theorem y_conv_slice_string {src dst e : TypeId} {x : Operand} {A : Option Addr} {cap n : Nat} (l : List UInt8) (ho : o.op = .convert src dst x) (hx : ρ x = .slice A n cap) (hs : P.underlying src = some (.slice e)) (hd : P.underlying dst = some .string) (he : P.underlying e = some (.int .u8))
    (hn : n = l.length) (R : ∀ w, C w → Rd w A (l.map bvv)) : Gives P C o ρ (.string ⟨l.toArray⟩) := fun w hw => by
  subst hn
  have hr := R w hw
  cases A with
  | none =>
    have : l = [] := by
      cases l with
      | nil => rfl
      | cons c l => obtain ⟨a, ha, _⟩ := hr.cell 0 (bvv c) (by simp); cases ha
    subst this
    have e1 : (⟨([] : List UInt8).toArray⟩ : ByteArray) = ByteArray.empty := rfl
    simp [execOp, ho, hx, run_convert_bytes_string w src dst e none _ cap hs he hd, Conv.bytesToString, e1]
  | some a =>
    have := run_convert_bytes_back (P := P) w src dst e a cap l hs he hd (fun j hj => hr.at_ (by simp [bvv, hj]))
    simp [execOp, ho, hx, this]
theorem cells_rd {A : Addr} {cs vs : List Value} {off : Nat} (R : ∀ w, C w → Rd w (some A) cs) (hv : (cs.drop off).take vs.length = vs) : ∀ w, C w → ∀ j u, vs[j]? = some u → w.cell? ((A.add off).add j) = some u := fun w hw j u hu => by
  rw [Addr.add_add]
  refine (R w hw).at_ ?_
  rw [← hv] at hu
  rw [List.getElem?_take] at hu
  split at hu
  · simpa using hu
  · cases hu
/-- a slice as an array's address -/
theorem y_slice2arrp {t e : TypeId} {x : Operand} {a : Addr} {len cap n : Nat} (ho : o.op = .sliceToArrayPointer t x) (hx : ρ x = .slice (some a) len cap) (ht : P.underlying t = some (.array n e)) (hn : n ≤ len) : Gives P C o ρ (.pointer (some a)) := fun w _ => by
  have : ¬ len < n := by omega
  simp [execOp, ho, hx, Instr.arrayAt, run_underlying ht, this]
theorem y_slice_arr_l {t e : TypeId} {x lo : Operand} {b off n sz : Nat} {k : IntKind} {l : Int} (ho : o.op = .slice t x (some lo) none none) (hx : ρ x = .pointer (some ⟨b, off, none⟩)) (hlo : ρ lo = .int k l) (ht : P.underlying t = some (.array n e)) (hs : ∀ w, (sizeOf e).run P w = .ok sz w)
    (h0 : 0 ≤ l) (h1 : l ≤ n) : Gives P C o ρ (.slice (subA (some ⟨b, off, none⟩) n l.toNat sz) (n - l.toNat) (n - l.toNat)) := fun w _ => by
  simp [execOp, ho, hx, hlo, Instr.sliceAt, run_underlying ht, Instr.sureAddr, Instr.sliceBounds, Instr.sliceBound, asIntOf, h0, h1, hs w, subA]
  split <;> simp_all
theorem y_slice_arr_ {t e : TypeId} {x : Operand} {b off n sz : Nat} (ho : o.op = .slice t x none none none) (hx : ρ x = .pointer (some ⟨b, off, none⟩)) (ht : P.underlying t = some (.array n e)) (hs : ∀ w, (sizeOf e).run P w = .ok sz w) :
    Gives P C o ρ (.slice (some ⟨b, off, none⟩) n n) := fun w _ => by
  simp [execOp, ho, hx, Instr.sliceAt, run_underlying ht, Instr.sureAddr, Instr.sliceBounds, hs w]
  intro _; simp [Addr.add]
end

/-- a block of which only its readable cells are known -/
def Ent.rd (b : Nat) (cs : List Value) : Ent :=
  ⟨[b], fun w => Rd w (some ⟨b, 0, none⟩) cs, fun w w' h R => ⟨fun j x hx => by
    obtain ⟨a, ha, hc⟩ := R.cell j x hx
    refine ⟨a, ha, ?_⟩
    obtain rfl : (⟨b, 0, none⟩ : Addr) = a := by simpa using ha
    rw [World.cell?_of_block (w := w) (w' := w') (by rw [add_lit]; exact h b (by simp))]; exact hc⟩⟩
theorem Heap.to_rd {w0 w : World} {L : List Ent} {b : Nat} {e : TypeId} {cs : List Value} (H : Heap w0 L w) (k : Nat) (hk : L[k]? = some (Ent.blk b e cs)) : Heap w0 (L.set k (Ent.rd b cs)) w :=
  H.upd k hk (fun _ _ _ => rfl) (Nat.le_refl _) rfl rfl rfl (rd_blk H k hk) (by simp [Ent.rd]) (fun c hc => by
    have : c = b := by simpa [Ent.rd] using hc
    subst this
    have h := mem_feet hk (b := c) (by simp [Ent.obj])
    exact ⟨.inl (by simp [Ent.obj]), (H.new c h).2⟩)
/-- a whole block is a row -/
theorem Heap.to_row {w0 w : World} {L : List Ent} {b : Nat} {e : TypeId} {cs : List Value} (H : Heap w0 L w) (k : Nat) (hk : L[k]? = some (Ent.blk b e cs)) (sz n cap : Nat) (hl : cs.length = cap * sz) (hn : n ≤ cap) (hc : cap ≤ maxLen) :
    Heap w0 (L.set k (Ent.row w0.heap.size e sz (.slice (some ⟨b, 0, none⟩) n cap) n (cs.take (n * sz)))) w := by
  have hbn := H.new b (mem_feet hk (by simp [Ent.obj]))
  refine H.upd k hk (fun _ _ _ => rfl) (Nat.le_refl _) rfl rfl rfl ?_ (by simp [Ent.row, Value.ownBlock]) (fun c hc => ?_)
  · refine ⟨?_, .inr ⟨b, cap, cs.toArray, rfl, hbn.1, H.get k hk, hn, hc, by simpa using hl, by simp⟩⟩
    have := Nat.mul_le_mul_right sz hn
    rw [List.length_take, hl]
    exact Nat.min_eq_left this
  · have : c = b := by simpa [Ent.row, Value.ownBlock, eq_comm] using hc
    subst this
    exact ⟨.inl (by simp [Ent.obj]), hbn.2⟩
theorem ownsRow_base {w : World} {B B' e sz : Nat} {v : Value} {n : Nat} {xs : List Value} (h : w.ownsRow B e sz v n xs) (hB : B' ≤ B) : w.ownsRow B' e sz v n xs := by
  refine ⟨h.1, ?_⟩
  rcases h.2 with hn | ⟨g, cap, cur, hv, hb, rest⟩
  · exact .inl hn
  · exact .inr ⟨g, cap, cur, hv, Nat.le_trans hB hb, rest⟩
theorem Heap.row_base {w0 w : World} {L : List Ent} {B B' e sz : Nat} {v : Value} {n : Nat} {xs : List Value} (H : Heap w0 (Ent.row B e sz v n xs :: L) w) (hB : B' ≤ B) : Heap w0 (Ent.row B' e sz v n xs :: L) w :=
  H.upd 0 rfl (fun _ _ _ => rfl) (Nat.le_refl _) rfl rfl rfl (ownsRow_base (H.get 0 rfl) hB) (by
    have := H.nodup
    simp only [feet, List.flatMap_cons] at this
    exact (List.nodup_append.1 this).1) (fun b hb => ⟨.inl hb, (H.new b (mem_feet (x := Ent.row B e sz v n xs) (k := 0) rfl hb)).2⟩)
/-- a callee's new row joins the memory -/
theorem Heap.app_row {w0 w w' : World} {L : List Ent} {e sz : Nat} {v : Value} {n : Nat} {xs : List Value} (H : Heap w0 L w) (K : Heap w [Ent.row w.heap.size e sz v n xs] w') : Heap w0 (Ent.row w0.heap.size e sz v n xs :: L) w' :=
  (H.app1 K).row_base H.base.size
section
variable {P : Program} {w0 w : World} {L : List Ent} {ops : Array Oper} {Q : Exit → Act → World → Prop} {rest : List Oper} {n : Nat} {f : Nat → Value} {ds : List Deferred}
end
end Go.Eng
