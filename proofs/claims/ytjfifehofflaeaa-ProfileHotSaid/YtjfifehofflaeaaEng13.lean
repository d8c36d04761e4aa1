/-
  The engine, part 13: rows that are grown while their old place is still read; several rows side by side.
-/
import Derived.Test.YtjfifehofflaeaaEng12
namespace Go.Eng
open Go.RowKit
set_option linter.unusedSimpArgs false
set_option linter.unusedVariables false
theorem add_block (a : Addr) (j : Nat) : (a.add j).block = a.block := by unfold Addr.add; split <;> rfl
theorem rd_block {w w' : World} {a : Addr} {cs : List Value} (R : Rd w (some a) cs) (h : w'.heap[a.block]? = w.heap[a.block]?) : Rd w' (some a) cs :=
  ⟨fun j x hx => ⟨a, rfl, by rw [World.cell?_of_block (w := w) (w' := w') (by rw [add_block]; exact h)]; exact R.at_ hx⟩⟩
/-- a row v that has grown out of the place A, where ys are still read -/
def Ent.row2 (B e : Nat) (A : Option Addr) (ys : List Value) (v : Value) (n : Nat) (xs : List Value) : Ent where
  foot := v.ownBlock.toList ++ (A.map (·.block)).toList.filter (fun b => decide (v.ownBlock ≠ some b))
  ok := fun w => w.ownsRow B e 1 v n xs ∧ Rd w A ys ∧ ∀ a, A = some a → v.ownBlock = some a.block → ys <+: xs ∧ a = ⟨a.block, 0, none⟩
  loc := fun w w' h ⟨h1, h2, h3⟩ => by
    refine ⟨ownsRow_loc (fun b hb => h b (by simp [hb])) h1, ?_, h3⟩
    cases A with
    | none => exact ⟨fun j x hx => by obtain ⟨a, ha, _⟩ := h2.cell j x hx; cases ha⟩
    | some a =>
      refine rd_block h2 (h a.block ?_)
      by_cases hb : v.ownBlock = some a.block
      · simp [hb]
      · simp [hb]
theorem Heap.to_row2 {w0 w : World} {L : List Ent} {B e n cap : Nat} {A : Option Addr} {xs : List Value} (H : Heap w0 L w) (k : Nat) (hk : L[k]? = some (Ent.row B e 1 (.slice A n cap) n xs)) : Heap w0 (L.set k (Ent.row2 B e A xs (.slice A n cap) n xs)) w := by
  have hr : w.ownsRow B e 1 (.slice A n cap) n xs := H.get k hk
  have hf : (Ent.row2 B e A xs (.slice A n cap) n xs).foot = (Ent.row B e 1 (.slice A n cap) n xs).foot := by
    cases A <;> simp [Ent.row2, Ent.row, Value.ownBlock]
  refine H.upd k hk (fun _ _ _ => rfl) (Nat.le_refl _) rfl rfl rfl ⟨hr, rd_row hr, fun a ha _ => ⟨List.prefix_refl _, ?_⟩⟩ ?_ (fun b hb => ?_)
  · subst ha
    rcases hr.2 with ⟨h', _⟩ | ⟨g, cap', cur, h', _⟩
    · cases h'
    · obtain ⟨rfl, _, _⟩ : a = ⟨g, 0, none⟩ ∧ n = n ∧ cap = cap' := by simpa using h'
      rfl
  · rw [hf]; cases A <;> simp [Ent.row, Value.ownBlock]
  · rw [hf] at hb
    exact ⟨.inl hb, (H.new b (mem_feet hk hb)).2⟩
theorem cell_row2 {w0 : World} {L : List Ent} {k B e len cap n i q : Nat} {A : Option Addr} {a : Addr} {ys xs : List Value} {v u : Value} (hk : L[k]? = some (Ent.row2 B e A ys v n xs)) (hv : v = .slice (some a) len cap) (hq : q = i) (hu : xs[i]? = some u) :
    ∀ w, Heap w0 L w → w.cell? (a.add q) = some u := fun w H => by
  subst hq; subst hv
  have h := (H.get k hk).1
  exact (rd_row h).at_ hu
theorem cell_row2o {w0 : World} {L : List Ent} {k B e n i q : Nat} {A : Option Addr} {a : Addr} {ys xs : List Value} {v u : Value} (hk : L[k]? = some (Ent.row2 B e A ys v n xs)) (hA : A = some a) (hq : q = i) (hu : ys[i]? = some u) :
    ∀ w, Heap w0 L w → w.cell? (a.add q) = some u := fun w H => by
  subst hq; subst hA
  exact (H.get k hk).2.1.at_ hu
theorem cell_blkA {w0 : World} {L : List Ent} {k b i q : Nat} {e : TypeId} {cs : List Value} {v : Value} (hk : L[k]? = some (Ent.blk b e cs)) (hq : q = i) (hv : cs[i]? = some v) : ∀ w, Heap w0 L w → w.cell? ((⟨b, 0, none⟩ : Addr).add q) = some v := fun w H => by
  subst hq; rw [add_lit, Nat.zero_add]; exact cell_blk hk hv w H
theorem cell_rowA {w0 : World} {L : List Ent} {k B e len cap n i q : Nat} {A : Option Addr} {a : Addr} {xs : List Value} {u : Value} (hk : L[k]? = some (Ent.row B e 1 (.slice A len cap) n xs)) (hA : A = some a) (hq : q = i) (hu : xs[i]? = some u) :
    ∀ w, Heap w0 L w → w.cell? (a.add q) = some u := fun w H => by
  subst hq; subst hA
  exact (rd_row (H.get k hk)).at_ hu
section
variable {P : Program} {C : World → Prop} {o : Oper} {ρ : Operand → Value}
theorem y_indexSlA {t e : TypeId} {x y : Operand} {n : Nat} {A : Option Addr} {a : Addr} {len cap : Nat} {k : IntKind} {i : Int} (hA : A = some a) (ho : o.op = .indexAddr t x y) (hx : ρ x = .slice A len cap) (hy : ρ y = .int k i) (ht : P.underlying t = some (.slice e))
    (hs : ∀ w, (sizeOf e).run P w = .ok n w) (h0 : 0 ≤ i) (h1 : i < len) : Gives P C o ρ (.pointer (some (a.add (i.toNat * n)))) := by
  subst hA; exact y_indexSl ho hx hy ht hs h0 h1
theorem y_len_sliceV {x : Operand} {t e : TypeId} {a : Option Addr} {len cap : Nat} {v : Value} (ho : o.op = .call { callee := .builtin .len, args := #[x], argTypes := #[t] }) (hx : ρ x = v) (hv : v = .slice a len cap) (ht : P.underlying t = some (.slice e)) : Gives P C o ρ (.int .i64 len) := y_len_slice ho (hx.trans hv) ht
end
section
variable {P : Program} {w0 w : World} {L : List Ent} {ops : Array Oper} {Q : Exit → Act → World → Prop} {rest : List Oper} {n : Nat} {f : Nat → Value} {ds : List Deferred}
/-- one element more, the old place still read -/
theorem LappKeep {o : Oper} {d : Nat} {s x : Operand} {t tx e e' : TypeId} {i : TypeInfo} {z v u : Value} {c b : Nat} {A : Option Addr} {ys xs : List Value} (j : Nat) (hg : o.guard = none) (hd : o.dst = some d)
    (ho : o.op = .call { callee := .builtin .append, args := #[s, x], argTypes := #[t, tx] }) (hs : ev n f s = v) (hx : ev n f x = .slice (some ⟨b, 0, none⟩) 1 1) (H : Heap w0 (Ent.blk b e' [u] :: L) w) (hk : L[j]? = some (Ent.row2 w0.heap.size e A ys v c xs))
    (ht : P.underlying t = some (.slice e)) (htx : P.underlying tx = some (.slice e)) (hi : P.info? e = some i) (hz : i.zero = some z) (hzs : z.cells.size = i.size) (hsz : i.size = 1) (h1 : u.oneCell' = true)
    (hbytes : (c + 1) * i.bytes ≤ 140737488355328) (h63 : c + 1 ≤ maxLen)
    (k : ∀ A' cap w', c + 1 ≤ cap → Heap w0 (L.set j (Ent.row2 w0.heap.size e A ys (.slice A' (c + 1) cap) (c + 1) (xs ++ [u]))) w' → wpList P ops Q rest (AA n (up f d (.slice A' (c + 1) cap)) ds) w') : wpList P ops Q (o :: rest) (AA n f ds) w := by
  have hsrc : Src P i.size tx (.slice (some ⟨b, 0, none⟩) 1 1) 1 [u] w := by
    rw [hsz]
    exact Src.ofSlice w htx _ 1 1 [u] rfl (fun i y hy => cells_blk (k := 0) (off := 0) (vs := [u]) rfl rfl w H i y hy) (by simpa using h1)
  replace H : Heap w0 L w := H.tail
  obtain ⟨hown, hold, hpre⟩ := H.get j hk
  rw [← hsz] at hown
  obtain ⟨v', w', hr, h2, h3, h4, h5, h6⟩ := run_append_src (P := P) w0.heap.size t tx o.type e i z ht hi hz hzs v c xs hown (.slice (some ⟨b, 0, none⟩) 1 1) 1 [u] hsrc h63 hbytes H.base.size
  rw [hsz] at h2 hown
  obtain ⟨A', cap, rfl, hc⟩ := row_form h2
  have hfoot : ∀ a, A = some a → a.block ∈ (Ent.row2 w0.heap.size e A ys v c xs).foot := fun a ha => by
    subst ha
    by_cases hb : v.ownBlock = some a.block <;> simp [Ent.row2, hb]
  have hsz' := h3.size
  have hRd : Rd w' A ys ∧ ∀ a, A = some a → Value.ownBlock (.slice A' (c + 1) cap) = some a.block → ys <+: xs ++ [u] ∧ a = ⟨a.block, 0, none⟩ := by
    cases A with
    | none => exact ⟨⟨fun j x hx => by obtain ⟨a, ha, _⟩ := hold.cell j x hx; cases ha⟩, fun a ha => by cases ha⟩
    | some a =>
      have hab := (H.new a.block (mem_feet hk (hfoot a rfl))).2
      by_cases hv : v.ownBlock = some a.block
      · obtain ⟨hp, ha0⟩ := hpre a rfl hv
        refine ⟨?_, fun a2 ha2 _ => by cases ha2; exact ⟨hp.trans (List.prefix_append _ _), ha0⟩⟩
        by_cases hv' : Value.ownBlock (.slice A' (c + 1) cap) = some a.block
        · have e1 : A' = some a := by
            rcases h2.2 with ⟨h', _⟩ | ⟨g, cap', cur, h', _⟩
            · cases h'
            · obtain ⟨rfl, _, _⟩ : A' = some ⟨g, 0, none⟩ ∧ c + 1 = c + 1 ∧ cap = cap' := by simpa using h'
              have : g = a.block := by simpa [Value.ownBlock] using hv'
              rw [this, ← ha0]
          have hnew := (rd_row h2).mono (hp.trans (List.prefix_append xs [u]))
          rw [e1] at hnew
          exact hnew
        · exact rd_block hold (h6 _ hv hv')
      · refine ⟨rd_block hold (h3.block a.block hab (fun h => hv h.symm)), fun a2 ha2 hv' => ?_⟩
        cases ha2
        rcases (h4 a.block hv').1 with h | h
        · exact absurd h hv
        · omega
  refine Lw (v := .slice A' (c + 1) cap) (w' := w') hg hd ?_ (k A' cap w' hc ?_)
  · unfold execOp
    simp only [ho, resolve, invoke, builtin, Sem.run_bind, Sem.run_pure, Result.andThen_ok, List.map_toArray, List.map_cons, List.map_nil, hs, hx, hr]
  · refine H.upd j hk (fun b hb hne => h3.block b hb (fun h => hne (by simp [Ent.row2, ← h]))) h3.size h3.os h3.tape h3.output ⟨h2, hRd.1, hRd.2⟩ ?_ ?_
    · simp only [Ent.row2]
      cases hv' : Value.ownBlock (.slice A' (c + 1) cap) with
      | none => cases A <;> simp
      | some g => cases A with
        | none => simp
        | some a => by_cases hga : g = a.block <;> simp [hga]
    · intro q hq
      simp only [Ent.row2, List.mem_append, Option.mem_toList, List.mem_filter, Option.map_eq_some_iff, decide_eq_true_eq, Option.mem_def] at hq
      rcases hq with hq | ⟨⟨a, ha, rfl⟩, _⟩
      · have := h4 q hq
        refine ⟨this.1.imp (fun h => by simp [Ent.row2, h]) id, this.2⟩
      · have hf := hfoot a ha
        exact ⟨.inl hf, Nat.lt_of_lt_of_le (H.new a.block (mem_feet hk hf)).2 hsz'⟩
end
/-! ### entries by number -/
theorem map_range_get {m k : Nat} {F : Nat → Ent} (hk : k < m) : ((List.range m).map F)[k]? = some (F k) := by simp [hk]
theorem map_range_set {m k : Nat} {F G : Nat → Ent} (hk : k < m) (h : ∀ j, j < m → j ≠ k → F j = G j) : ((List.range m).map F).set k (G k) = (List.range m).map G := by
  apply List.ext_getElem
  · simp
  · intro j h1 h2
    simp only [List.getElem_set, List.getElem_map, List.getElem_range]
    have hj : j < m := by simpa using h2
    split
    · rename_i e; rw [e]
    · rename_i e; exact h j hj (fun h => e h.symm)
theorem map_range_congr {m : Nat} {F G : Nat → Ent} (h : ∀ j, j < m → F j = G j) : (List.range m).map F = (List.range m).map G :=
  List.map_congr_left fun j hj => h j (List.mem_range.1 hj)
end Go.Eng
