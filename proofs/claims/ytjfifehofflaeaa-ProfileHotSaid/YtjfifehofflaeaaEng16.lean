/-
  The engine, part 16: a guarded call in a region that draws; a test turned round.
-/
import Derived.Test.YtjfifehofflaeaaEng15
namespace Go.Eng
open Go.RowKit
set_option linter.unusedSimpArgs false
set_option linter.unusedVariables false
section
variable {P : Program} {C : World → Prop} {ops : Array Oper} {Q : Act → Prop} {rest : List Oper} {n : Nat} {f : Nat → Value} {ds : List Deferred}
theorem Qfng {o : Oper} {d j s : Nat} {b : Bool} {g : FuncId} {xs : List Operand} {ts : Array TypeId} {xa : List Value} {v : Value} (hg : o.guard = some (j, b)) (hj : (ops[j]?).bind (·.dst) = some s) (hs : ev n f (.tmp s) = .bool b) (hd : o.dst = some d) (ho : o.op = .call { callee := .value (.func g), args := xs.toArray, argTypes := ts })
    (has : xs.map (ev n f) = xa) (he : ∀ args w, (callFunc g args).run P w = .ok (.enter g args) w)
    (h : ∀ w, C w → Calls P g xa.toArray w fun e w' => e = .returned v ∧ C w') (k : wpQuiet P ops C Q rest (AA n (up f d v) ds)) : wpQuiet P ops C Q (o :: rest) (AA n f ds) := by
  refine wpQuiet_step fun K hK => ?_
  rw [if_pos (by simp [Region.wanted, hg, AA, yielded_AA hj hs])]
  refine ⟨v, fun w hw => ?_, ?_⟩
  · have : execOp (AA n f ds).eval o = callFunc g xa.toArray := by
      rw [eval_AA]; subst has; simp [execOp, ho, resolve, ev, Deferred.ofValue, invoke]
    unfold Oper.quietAt
    rw [this, he _ w]
    exact ⟨rfl, h w hw⟩
  · rw [hd, put_AA]; exact hK _ k
end
section
variable {P : Program} {C : World → Prop} {o : Oper} {ρ : Operand → Value}
theorem y_notD {t : TypeId} {x : Operand} {b : Bool} (ho : o.op = .unOp .not t x) (hx : ρ x = .bool b) : Gives P C o ρ (.bool (decide (b = false))) := by
  have := y_not (P := P) (C := C) ho hx
  have e : (!b) = decide (b = false) := by cases b <;> rfl
  rw [e] at this
  exact this
end
section
variable {P : Program} {w0 w : World} {L : List Ent} {ops : Array Oper} {Q : Exit → Act → World → Prop} {rest : List Oper} {n : Nat} {f : Nat → Value} {ds : List Deferred}
/-- a readable slice at the end: elements of sz cells -/
theorem LappRK {o : Oper} {d : Nat} {s x : Operand} {t tx e : TypeId} {i : TypeInfo} {z v : Value} {c m c2 sz : Nat} {A2 : Option Addr} {xs news : List Value} (j : Nat) (hg : o.guard = none) (hd : o.dst = some d)
    (ho : o.op = .call { callee := .builtin .append, args := #[s, x], argTypes := #[t, tx] }) (hs : ev n f s = v) (hx : ev n f x = .slice A2 m c2) (H : Heap w0 L w) (hk : L[j]? = some (Ent.row w0.heap.size e sz v c xs))
    (ht : P.underlying t = some (.slice e)) (htx : P.underlying tx = some (.slice e)) (hi : P.info? e = some i) (hz : i.zero = some z) (hzs : z.cells.size = i.size) (hsz : i.size = sz) (hsz0 : 0 < sz) (h1 : ∀ u ∈ news, u.oneCell' = true)
    (hR : Rd w A2 news) (hm : news.length = m * sz) (hbytes : (c + m) * i.bytes ≤ 140737488355328) (h63 : c + m ≤ maxLen)
    (k : ∀ A cap w', c + m ≤ cap → Heap w0 (L.set j (Ent.row w0.heap.size e sz (.slice A (c + m) cap) (c + m) (xs ++ news))) w' → wpList P ops Q rest (AA n (up f d (.slice A (c + m) cap)) ds) w') : wpList P ops Q (o :: rest) (AA n f ds) w := by
  have hsrc : Src P sz tx (.slice A2 m c2) m news w := by
    cases A2 with
    | none =>
      have : news = [] := by
        cases news with
        | nil => rfl
        | cons c l => obtain ⟨a, ha, _⟩ := hR.cell 0 c (by simp); cases ha
      subst this
      have : m = 0 := by
        rcases Nat.eq_zero_or_pos m with h | h
        · exact h
        · have := Nat.mul_pos h hsz0; simp at hm; omega
      subst this
      exact Src.ofNil w htx _
    | some a => exact Src.ofSlice w htx a m c2 news hm (fun j u hu => hR.at_ hu) h1
  refine Lappend j hg hd ho hs hx H hk ht hi hz hzs hsz hsrc hbytes h63 ?_
  intro v' w' H' _
  have hj : j < L.length := (List.getElem?_eq_some_iff.1 hk).1
  obtain ⟨A, cap, rfl, hc⟩ := row_form (H'.get j (x := Ent.row w0.heap.size e sz v' (c + m) (xs ++ news)) (by simp [hj]))
  exact k A cap w' hc H'
/-- one element of sz cells more -/
theorem Lapp1K {o : Oper} {d : Nat} {s x : Operand} {t tx e e' : TypeId} {i : TypeInfo} {z v : Value} {c b sz : Nat} {xs us : List Value} (j : Nat) (hg : o.guard = none) (hd : o.dst = some d)
    (ho : o.op = .call { callee := .builtin .append, args := #[s, x], argTypes := #[t, tx] }) (hs : ev n f s = v) (hx : ev n f x = .slice (some ⟨b, 0, none⟩) 1 1) (H : Heap w0 (Ent.blk b e' us :: L) w) (hk : L[j]? = some (Ent.row w0.heap.size e sz v c xs))
    (ht : P.underlying t = some (.slice e)) (htx : P.underlying tx = some (.slice e)) (hi : P.info? e = some i) (hz : i.zero = some z) (hzs : z.cells.size = i.size) (hsz : i.size = sz) (h1 : us.all (·.oneCell') = true) (hus : us.length = sz)
    (hbytes : (c + 1) * i.bytes ≤ 140737488355328) (h63 : c + 1 ≤ maxLen)
    (k : ∀ A cap w', c + 1 ≤ cap → Heap w0 (L.set j (Ent.row w0.heap.size e sz (.slice A (c + 1) cap) (c + 1) (xs ++ us))) w' → wpList P ops Q rest (AA n (up f d (.slice A (c + 1) cap)) ds) w') : wpList P ops Q (o :: rest) (AA n f ds) w := by
  have hsrc : Src P sz tx (.slice (some ⟨b, 0, none⟩) 1 1) 1 us w :=
    Src.ofSlice w htx _ 1 1 us (by rw [hus, Nat.one_mul]) (fun j u hu => (rd_blk H 0 rfl).at_ hu) (fun u hu => List.all_eq_true.1 h1 u hu)
  refine Lappend (j + 1) hg hd ho hs hx H (by simpa using hk) ht hi hz hzs hsz hsrc hbytes h63 ?_
  intro v' w' H' _
  have H2 : Heap w0 (L.set j (Ent.row w0.heap.size e sz v' (c + 1) (xs ++ us))) w' := H'.tail
  have hj : j < L.length := (List.getElem?_eq_some_iff.1 hk).1
  obtain ⟨A, cap, rfl, hc⟩ := row_form (H2.get j (x := Ent.row w0.heap.size e sz v' (c + 1) (xs ++ us)) (by simp [hj]))
  exact k A cap w' hc H2
end
/-! ### entries by number, one more -/
def upd {α : Type} (f : Nat → α) (k : Nat) (v : α) (j : Nat) : α := if j = k then v else f j
theorem upd_at {α : Type} {f : Nat → α} {k : Nat} {v : α} : upd f k v k = v := by simp [upd]
theorem upd_ne {α : Type} {f : Nat → α} {k j : Nat} {v : α} (h : j ≠ k) : upd f k v j = f j := by simp [upd, h]
theorem Heap.last {w0 w : World} {x : Ent} {L : List Ent} (H : Heap w0 (x :: L) w) : Heap w0 (L ++ [x]) w := H.perm (List.perm_append_comm (l₁ := [x]) (l₂ := L))
theorem range_more {α : Type} {i : Nat} {F G : Nat → α} (h : ∀ j, j < i → F j = G j) : (List.range i).map F ++ [G i] = (List.range (i + 1)).map G := by
  rw [List.range_succ, List.map_append, List.map_singleton]
  congr 1
  exact List.map_congr_left fun j hj => h j (List.mem_range.1 hj)
end Go.Eng
