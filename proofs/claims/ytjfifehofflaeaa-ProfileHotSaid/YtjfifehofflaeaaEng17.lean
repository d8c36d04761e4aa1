/-
  The engine, part 17: maps of the run's own.
-/
import Derived.Test.YtjfifehofflaeaaEng16
import Derived.Maps.OwnSet
import Derived.Lib.SlKeysI
namespace Go.Eng
open Go.RowKit
set_option linter.unusedSimpArgs false
set_option linter.unusedVariables false
def Ent.mapE (P : Program) (k e : TypeId) (b n : Nat) (D : DataW Unit) : Ent :=
  ⟨[b], fun w => w.ownsMap P k (plainElem P e) b n D, fun w w' h h1 => by
    obtain ⟨es, clock, hb, Ft, hs, hD⟩ := h1
    exact ⟨es, clock, (h b (by simp)).trans hb, Ft, hs, hD⟩⟩
theorem ownsMap_old {P : Program} {k : TypeId} {R : Value → Option (DataW Unit × List MemPlace)} {w0 w : World} {L : List Ent} {b n : Nat} {D : DataW Unit} (h : w0.ownsMap P k R b n D) (H : Heap w0 L w) : w.ownsMap P k R b n D := by
  have hlt := h.lt
  obtain ⟨es, clock, hb, Ft, hs, hD⟩ := h
  exact ⟨es, clock, (H.base.block b hlt).trans hb, Ft, hs, hD⟩
section
variable {P : Program} {w0 w : World} {L : List Ent} {ops : Array Oper} {Q : Exit → Act → World → Prop} {rest : List Oper} {n : Nat} {f : Nat → Value} {ds : List Deferred}
theorem LmkMap {o : Oper} {d : Nat} {t : TypeId} (k e : TypeId) (hg : o.guard = none) (hd : o.dst = some d) (ho : o.op = .makeMap t none) (H : Heap w0 L w)
    (kk : ∀ b w', Heap w0 (Ent.mapE P k e b 0 (.map []) :: L) w' → wpList P ops Q rest (AA n (up f d (.map (some b))) ds) w') : wpList P ops Q (o :: rest) (AA n f ds) w := by
  refine Lw hg hd (v := .map (some w.heap.size)) (w' := w.alloc (.map #[] 0)) ?_ (kk w.heap.size _ ?_)
  · have hr : (Instr.makeMap t none).run P w = .ok (.map (some w.heap.size)) (w.alloc (.map #[] 0)) := rfl
    simp [execOp, ho, hr]
  · have H1 := H.alloc (.map #[] 0)
    refine H1.upd 0 rfl (y := Ent.mapE P k e w.heap.size 0 (.map [])) (fun _ _ _ => rfl) (Nat.le_refl _) rfl rfl rfl (World.ownsMap_made w P k _) (by simp [Ent.mapE]) (fun b hb => ?_)
    have : b = w.heap.size := by simpa [Ent.mapE] using hb
    subst this
    exact ⟨.inl (by simp [Ent.obj]), by simp⟩
theorem LmapUpd {o : Oper} {t k e : TypeId} {m x v : Operand} {b c : Nat} {D d : DataW Unit} {key val : Value} {kl : Lit} {ps : List MemPlace} (j : Nat) (hg : o.guard = none) (hd : o.dst = none) (ho : o.op = .mapUpdate t m x v)
    (hm : ev n f m = .map (some b)) (hx : ev n f x = key) (hv : ev n f v = val) (H : Heap w0 L w) (hk : L[j]? = some (Ent.mapE P k e b c D)) (K : Maps.Keyed P k) (ht : P.underlying t = some (.map k e)) (hn : c < maxLen)
    (hkey : keyOf P k key = some kl) (hval : plainElem (H := Unit) P e val = some (d, ps))
    (kk : ∀ w', Heap w0 (L.set j (Ent.mapE P k e b (c + 1) (D.put kl d))) w' → wpList P ops Q rest (AA n f ds) w') : wpList P ops Q (o :: rest) (AA n f ds) w := by
  have hown : w.ownsMap P k (plainElem P e) b c D := H.get j hk
  obtain ⟨w', hrun, h1, h2⟩ := hown.update K ht hn hkey hval
  refine Lskip (w' := w') hg hd ?_ (kk w' ?_)
  · simp [execOp, ho, hm, hx, hv, hrun]
  · refine H.upd j hk (fun g hg hne => h2.block g hg (fun e => hne (by simp [Ent.mapE]; simpa using e))) h2.size h2.os h2.tape h2.output h1 (by simp [Ent.mapE]) (fun g hg => ?_)
    have hbn := H.new b (mem_feet hk (by simp [Ent.mapE]))
    have : g = b := by simpa [Ent.mapE] using hg
    subst this
    exact ⟨.inl (by simp [Ent.mapE]), Nat.lt_of_lt_of_le hbn.2 h2.size⟩
end
section
variable {P : Program} {C : World → Prop} {o : Oper} {ρ : Operand → Value}
theorem y_lookup {t k e : TypeId} {m x : Operand} {b c : Nat} {D : DataW Unit} {kl : Lit} {key : Value} {q : IntKind} {r : Int} (ho : o.op = .lookup t m x false) (hm : ρ m = .map (some b)) (hx : ρ x = key) (K : Maps.Keyed P k) (ht : P.underlying t = some (.map k e)) (he : P.underlying e = some (.int q))
    (hz : ∀ w, (zeroValue e).run P w = .ok (.int q 0) w) (hkey : keyOf P k key = some kl) (hown : ∀ w, C w → w.ownsMap P k (plainElem P e) b c D) (hat : D.atKey kl (.lit (.int q 0)) = .lit (.int q r)) : Gives P C o ρ (.int q r) := fun w hw => by
  obtain ⟨c', hrun, hc, _⟩ := (hown w hw).lookup_int K ht he (hz w) hkey
  rw [hat] at hc
  have e1 : r = c' := by simpa using hc
  subst e1
  simp [execOp, ho, hm, hx, hrun]
end
end Go.Eng
