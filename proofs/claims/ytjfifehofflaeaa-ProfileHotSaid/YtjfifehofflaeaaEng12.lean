/-
  The engine, part 12: rows: an older base, a beginning of a row.
-/
import Derived.Test.YtjfifehofflaeaaEng11
namespace Go.Eng
open Go.RowKit
set_option linter.unusedSimpArgs false
set_option linter.unusedVariables false
theorem Heap.row_base_at {w0 w : World} {L : List Ent} {B B' e sz : Nat} {v : Value} {n : Nat} {xs : List Value} (H : Heap w0 L w) (k : Nat) (hk : L[k]? = some (Ent.row B e sz v n xs)) (hB : B' ≤ B) : Heap w0 (L.set k (Ent.row B' e sz v n xs)) w :=
  H.upd k hk (fun _ _ _ => rfl) (Nat.le_refl _) rfl rfl rfl (ownsRow_base (H.get k hk) hB) (by show v.ownBlock.toList.Nodup; cases v.ownBlock <;> simp) (fun b hb => ⟨.inl hb, (H.new b (mem_feet hk hb)).2⟩)
/-- a row's beginning -/
theorem ownsRow_take {w : World} {B e sz n m cap : Nat} {A : Option Addr} {xs : List Value} (h : w.ownsRow B e sz (.slice A n cap) n xs) (hm : m ≤ n) : w.ownsRow B e sz (.slice A m cap) m (xs.take (m * sz)) := by
  have hl := h.1
  have hms := Nat.mul_le_mul_right sz hm
  refine ⟨by rw [List.length_take, hl]; exact Nat.min_eq_left hms, ?_⟩
  rcases h.2 with ⟨h1, h2⟩ | ⟨g, cap', cur, h1, hb, hg, hc, hcm, hcs, ht⟩
  · obtain ⟨rfl, rfl, rfl⟩ : A = none ∧ n = 0 ∧ cap = 0 := by simpa using h1
    have : m = 0 := by omega
    subst this
    exact .inl ⟨rfl, rfl⟩
  · obtain ⟨rfl, _, rfl⟩ : A = some ⟨g, 0, none⟩ ∧ n = n ∧ cap = cap' := by simpa using h1
    refine .inr ⟨g, cap, cur, rfl, hb, hg, by omega, hcm, hcs, ?_⟩
    rw [← ht, List.take_take, Nat.min_eq_left hms]
theorem Heap.row_take {w0 w : World} {L : List Ent} {B e sz n m cap : Nat} {A : Option Addr} {xs : List Value} (H : Heap w0 L w) (k : Nat) (hk : L[k]? = some (Ent.row B e sz (.slice A n cap) n xs)) (hm : m ≤ n) : Heap w0 (L.set k (Ent.row B e sz (.slice A m cap) m (xs.take (m * sz)))) w :=
  H.upd k hk (fun _ _ _ => rfl) (Nat.le_refl _) rfl rfl rfl (ownsRow_take (H.get k hk) hm) (by cases A <;> simp [Ent.row, Value.ownBlock]) (fun b hb => by
    have hb' : b ∈ (Ent.row B e sz (.slice A n cap) n xs).foot := by cases A <;> exact hb
    exact ⟨.inl hb', (H.new b (mem_feet hk hb')).2⟩)
section
variable {P : Program} {w0 w : World} {L : List Ent} {ops : Array Oper} {Q : Exit → Act → World → Prop} {rest : List Oper} {n : Nat} {f : Nat → Value} {ds : List Deferred} {v : Value}
/-- a store into an element of a row (elements of one cell) -/
theorem LstoreRow {o : Oper} {t : TypeId} {x y : Operand} {A : Option Addr} {a : Addr} {B e m cap q : Nat} {xs : List Value} (j i : Nat) (hA : A = some a) (hq : q = i) (hg : o.guard = none) (hd : o.dst = none) (ho : o.op = .store t x y)
    (hx : ev n f x = .pointer (some (a.add q))) (hy : ev n f y = v) (H : Heap w0 L w) (hk : L[j]? = some (Ent.row B e 1 (.slice A m cap) m xs)) (hv1 : v.cells = #[v]) (hs : ∀ w, (sizeOf t).run P w = .ok 1 w)
    (h1 : v.oneCell' = true) (hi : i < m)
    (k : ∀ w', Heap w0 (L.set j (Ent.row B e 1 (.slice A m cap) m (xs.set i v))) w' → wpList P ops Q rest (AA n f ds) w') : wpList P ops Q (o :: rest) (AA n f ds) w := by
  subst hA; subst hq
  have hr : w.ownsRow B e 1 (.slice (some a) m cap) m xs := H.get j hk
  have hl := hr.1
  rcases hr.2 with ⟨h', _⟩ | ⟨g, cap', cur, h', hb, hg', hc, hcm, hcs, ht⟩
  · cases h'
  · obtain ⟨rfl, _, rfl⟩ : a = ⟨g, 0, none⟩ ∧ m = m ∧ cap = cap' := by simpa using h'
    rw [add_lit, Nat.zero_add] at hx
    have hst := run_storeCells_at P g q e [v] 0 cur w hg' (by simp; omega) (by simp [h1])
    simp only [Nat.add_zero] at hst
    refine Lskip (w' := w.setRow g (cur.toList.take q ++ [v] ++ cur.toList.drop (q + 1)).toArray) hg hd ?_ (k _ ?_)
    · simp [execOp, ho, hx, hy, Instr.storeAt, Instr.sureAddr, storeVar, hs w, hv1, hst]
    · have hcl : q < cur.toList.length := by simp; omega
      have e1 : cur.toList.take q ++ [v] ++ cur.toList.drop (q + 1) = cur.toList.set q v := by rw [List.set_eq_take_append_cons_drop, if_pos hcl]; simp
      have hbn := H.new g (mem_feet hk (by simp [Ent.row, Value.ownBlock]))
      refine H.upd j hk (fun c hc hne => setRow_other w g c _ (by simpa [Ent.row, Value.ownBlock, eq_comm] using hne)) (by simp) rfl rfl rfl ?_ (by simp [Ent.row, Value.ownBlock]) ?_
      · refine ⟨by simpa using hl, .inr ⟨g, cap, (cur.toList.set q v).toArray, rfl, hb, ?_, hc, hcm, ?_, ?_⟩⟩
        · rw [e1]; exact setRow_heap w g cur _ e _ hg'
        · simp only [List.size_toArray, List.length_set, Array.length_toList]; exact hcs
        · rw [← ht]
          simp [List.take_set]
      · intro c hc'
        have : c = g := by simpa [Ent.row, Value.ownBlock, eq_comm] using hc'
        subst this
        exact ⟨.inl (by simp [Ent.row, Value.ownBlock]), by simpa using hbn.2⟩
end
end Go.Eng
