/-
  The engine, part 9: copy; a cut of an array.
-/
import Derived.Test.YtjfifehofflaeaaEng8
namespace Go.Eng
open Go.RowKit
set_option linter.unusedSimpArgs false
set_option linter.unusedVariables false
section
variable {P : Program} {C : World → Prop} {o : Oper} {ρ : Operand → Value}
theorem y_slice_arr_in {t e : TypeId} {x lo : Operand} {b off n sz : Nat} {k : IntKind} (l : Nat) (ho : o.op = .slice t x (some lo) none none) (hx : ρ x = .pointer (some ⟨b, off, none⟩)) (hlo : ρ lo = .int k l) (ht : P.underlying t = some (.array n e)) (hs : ∀ w, (sizeOf e).run P w = .ok sz w)
    (h1 : l < n) : Gives P C o ρ (.slice (some ⟨b, off + l * sz, none⟩) (n - l) (n - l)) := fun w _ => by
  have hle : l ≤ n := by omega
  have hne : ¬ n = l := by omega
  simp [execOp, ho, hx, hlo, Instr.sliceAt, run_underlying ht, Instr.sureAddr, Instr.sliceBounds, Instr.sliceBound, asIntOf, hle, hne, hs w, add_lit]
end
section
variable {P : Program} {w0 w : World} {L : List Ent} {ops : Array Oper} {Q : Exit → Act → World → Prop} {rest : List Oper} {n : Nat} {f : Nat → Value} {ds : List Deferred}
/-- copy into a block (elements of one cell) -/
theorem Lcopy {o : Oper} {d : Nat} {x y : Operand} {t t2 e e' : TypeId} {b off dn dc sn sc : Nat} {A : Option Addr} {cs src : List Value} (j : Nat) (hg : o.guard = none) (hd : o.dst = some d)
    (ho : o.op = .call { callee := .builtin .copy, args := #[x, y], argTypes := #[t, t2] }) (hx : ev n f x = .slice (some ⟨b, off, none⟩) dn dc) (hy : ev n f y = .slice A sn sc) (H : Heap w0 L w) (hk : L[j]? = some (Ent.blk b e' cs))
    (ht : P.underlying t = some (.slice e)) (hs : ∀ w, (sizeOf e).run P w = .ok 1 w) (hR : Rd w A src) (hsn : src.length = sn) (h1 : ∀ u ∈ src, u.oneCell' = true) (hfit : off + min sn dn ≤ cs.length)
    (k : ∀ w', Heap w0 (L.set j (Ent.blk b e' (cs.take off ++ src.take (min sn dn) ++ cs.drop (off + min sn dn)))) w' → wpList P ops Q rest (AA n (up f d (.int .i64 (min sn dn : Nat))) ds) w') : wpList P ops Q (o :: rest) (AA n f ds) w := by
  subst hsn
  have hb : w.heap[b]? = some (.cells cs.toArray e' (0, 0)) := H.get j hk
  have hlen : (src.take (min src.length dn)).length = min src.length dn := by simp
  have hst := run_storeCells_at P b off e' (src.take (min src.length dn)) 0 cs.toArray w hb (by simp only [Nat.add_zero, hlen, List.size_toArray]; exact hfit) (fun v hv => h1 v (List.mem_of_mem_take hv))
  simp only [Nat.add_zero, hlen] at hst
  have hf : (Builtin.firstCells 1 (min src.length dn) (.slice A src.length sc)).run P w = .ok (src.take (min src.length dn)).toArray w := by
    cases A with
    | none =>
      have : src = [] := by
        cases src with
        | nil => rfl
        | cons c l => obtain ⟨a, ha, _⟩ := hR.cell 0 c (by simp); cases ha
      subst this
      simp [Builtin.firstCells]
    | some a => exact run_firstCells_some (P := P) w 1 (min src.length dn) a src.length sc _ (by rw [hlen]; omega) (fun j v hv => (hR.take _).at_ hv)
  refine Lw (v := .int .i64 (min src.length dn : Nat)) (w' := w.setRow b (cs.take off ++ src.take (min src.length dn) ++ cs.drop (off + min src.length dn)).toArray) hg hd ?_ (k _ ?_)
  · have hmin : Nat.min src.length dn = min src.length dn := rfl
    simp only [execOp, ho, resolve, invoke, builtin, Sem.run_bind, Sem.run_pure, Result.andThen_ok, List.map_toArray, List.map_cons, List.map_nil, hx, hy, Builtin.copy_, run_underlying ht, hs, Builtin.lenOf, hmin, hf, goInt]
    simp [Builtin.lenOf, hst, hf, hs, run_underlying ht, goInt]
  · refine H.upd j hk (fun c hc hne => setRow_other w b c _ (by simpa [Ent.obj] using hne)) (by simp) rfl rfl rfl ?_ (by simp [Ent.obj]) ?_
    · exact setRow_heap w b _ _ e' _ hb
    · intro c hc
      have : c = b := by simpa [Ent.obj] using hc
      subst this
      exact ⟨.inl (by simp [Ent.obj]), by simpa using (Array.getElem?_eq_some_iff.1 hb).1⟩
end
end Go.Eng
