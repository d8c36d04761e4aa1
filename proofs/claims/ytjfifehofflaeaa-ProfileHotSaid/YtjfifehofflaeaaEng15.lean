/-
  The engine, part 15: bytes of a constant text: the block is marked.
-/
import Derived.Test.YtjfifehofflaeaaEng14
namespace Go.Eng
open Go.RowKit
set_option linter.unusedSimpArgs false
set_option linter.unusedVariables false
theorem rd_obj {w0 w : World} {L : List Ent} {b : Nat} {e : TypeId} {cs : List Value} {fr : Nat × Nat} (H : Heap w0 L w) (k : Nat) (hk : L[k]? = some (Ent.obj b (.cells cs.toArray e fr))) : Rd w (some ⟨b, 0, none⟩) cs :=
  ⟨fun j x hx => ⟨_, rfl, by
    have h : w.heap[b]? = some (.cells cs.toArray e fr) := H.get k hk
    rw [add_lit, Nat.zero_add]
    simp [World.cell?, h, hx]⟩⟩
section
variable {P : Program} {w0 w : World} {L : List Ent} {ops : Array Oper} {Q : Exit → Act → World → Prop} {rest : List Oper} {n : Nat} {f : Nat → Value} {ds : List Deferred}
theorem LconvMark {o : Oper} {d : Nat} {t e e' : TypeId} {x : Operand} {b m c : Nat} {cs : List Value} (j : Nat) (hg : o.guard = none) (hd : o.dst = some d) (ho : o.op = .convert t t x) (hx : ev n f x = .slice (some ⟨b, 0, none⟩) m c)
    (H : Heap w0 L w) (hk : L[j]? = some (Ent.blk b e' cs)) (ht : P.underlying t = some (.slice e)) (he : P.underlying e = some (.int .u8))
    (k : ∀ w', Heap w0 (L.set j (Ent.obj b (.cells cs.toArray e' (cs.length, cs.length + 1)))) w' → wpList P ops Q rest (AA n (up f d (.slice (some ⟨b, 0, none⟩) m c)) ds) w') : wpList P ops Q (o :: rest) (AA n f ds) w := by
  have hb : w.heap[b]? = some (.cells cs.toArray e' (0, 0)) := H.get j hk
  have hlt : b < w.heap.size := (Array.getElem?_eq_some_iff.1 hb).1
  have hsh : w.shape? b = some (e', cs.length) := by
    unfold World.shape?
    rw [hb]
    simp
  refine Lw (v := .slice (some ⟨b, 0, none⟩) m c) (w' := w.freeze ⟨b, cs.length, none⟩ 1) hg hd ?_ (k _ ?_)
  · simp [execOp, ho, hx, convert, run_underlying ht, run_underlying he, markStringish, hsh]
  · refine H.upd j hk (fun g hg hne => ?_) (by simp [World.freeze]) rfl rfl rfl ?_ (by simp [Ent.obj]) ?_
    · have : b ≠ g := fun e => hne (by simp [Ent.obj, e])
      simp [World.freeze, Array.getElem?_modify, this]
    · show (w.freeze ⟨b, cs.length, none⟩ 1).heap[b]? = _
      simp [World.freeze, Array.getElem?_modify, hb]
    · intro g hg
      have : g = b := by simpa [Ent.obj] using hg
      subst this
      exact ⟨.inl (by simp [Ent.obj]), by simpa [World.freeze] using hlt⟩
end
end Go.Eng
