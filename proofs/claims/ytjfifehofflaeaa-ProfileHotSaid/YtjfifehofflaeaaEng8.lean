/-
  The engine, part 8: arrays: a cell at a computed place.
-/
import Derived.Test.YtjfifehofflaeaaEng7
namespace Go.Eng
open Go.RowKit
set_option linter.unusedSimpArgs false
set_option linter.unusedVariables false
section
variable {P : Program} {w0 w : World} {L : List Ent} {ops : Array Oper} {Q : Exit → Act → World → Prop} {rest : List Oper} {n : Nat} {f : Nat → Value} {ds : List Deferred} {v : Value}
theorem cell_blkI {k b off : Nat} {e : TypeId} {cs : List Value} (i : Nat) (hk : L[k]? = some (Ent.blk b e cs)) (hi : off = i) (hv : cs[i]? = some v) : ∀ w, Heap w0 L w → w.cell? ⟨b, off, none⟩ = some v := by
  subst hi; exact cell_blk hk hv
/-- a store of one cell into a block, at a computed place. -/
theorem Lset {o : Oper} {t : TypeId} {x y : Operand} {b off : Nat} {e : TypeId} {cs : List Value} (j i : Nat) (hg : o.guard = none) (hd : o.dst = none) (ho : o.op = .store t x y)
    (hx : ev n f x = .pointer (some ⟨b, off, none⟩)) (hy : ev n f y = v) (H : Heap w0 L w) (hk : L[j]? = some (Ent.blk b e cs)) (hv1 : v.cells = #[v]) (hs : ∀ w, (sizeOf t).run P w = .ok 1 w)
    (h1 : v.oneCell' = true) (hoff : off = i) (hi : i < cs.length)
    (k : ∀ w', Heap w0 (L.set j (Ent.blk b e (cs.set i v))) w' → wpList P ops Q rest (AA n f ds) w') : wpList P ops Q (o :: rest) (AA n f ds) w := by
  subst hoff
  refine Lstore j hg hd ho hx hy H hk (vs := [v]) (by rw [hv1]) (by simpa using hs) (by simp [h1]) (by simp [Nat.ble_eq]; omega) (fun w' H' => k w' ?_)
  have e : cs.set off v = cs.take off ++ [v] ++ cs.drop (off + 1) := by rw [List.set_eq_take_append_cons_drop, if_pos hi]; simp
  rw [e]
  exact H'
end
end Go.Eng
