/-
  The engine, part 11: make, and append to a row whose slice is named.
-/
import Derived.Test.YtjfifehofflaeaaEng10
import Derived.Laws.MakeOwn
namespace Go.Eng
open Go.RowKit
set_option linter.unusedSimpArgs false
set_option linter.unusedVariables false
theorem row_form {w : World} {B e sz n : Nat} {v : Value} {xs : List Value} (h : w.ownsRow B e sz v n xs) : ∃ A cap, v = .slice A n cap ∧ n ≤ cap := by
  rcases h.2 with ⟨rfl, rfl⟩ | ⟨g, cap, cur, rfl, _, _, h3, _⟩
  · exact ⟨none, 0, rfl, Nat.le_refl _⟩
  · exact ⟨_, cap, rfl, h3⟩
theorem made_one (v : Value) (n : Nat) : (madeCells #[v] n).toList = List.replicate n v := by
  apply List.ext_getElem
  · simp [size_madeCells]
  · intro i h1 h2
    simp [madeCells, Nat.mod_one]
section
variable {P : Program} {w0 w : World} {L : List Ent} {ops : Array Oper} {Q : Exit → Act → World → Prop} {rest : List Oper} {n : Nat} {f : Nat → Value} {ds : List Deferred}
theorem Lmake {o : Oper} {d : Nat} {t e : TypeId} {x y : Operand} {i : TypeInfo} {z : Value} {kl kc : IntKind} (l c : Nat) (hg : o.guard = none) (hd : o.dst = some d) (ho : o.op = .makeSlice t x y) (hx : ev n f x = .int kl l) (hy : ev n f y = .int kc c) (H : Heap w0 L w)
    (ht : P.underlying t = some (.slice e)) (hi : P.info? e = some i) (hz : i.zero = some z) (hlc : l ≤ c) (hbytes : i.bytes * c ≤ 281474976710656) (h63 : c ≤ 9223372036854775807)
    (k : ∀ b w', Heap w0 (Ent.blk b e (madeCells z.cells (c * i.size)).toList :: L) w' → wpList P ops Q rest (AA n (up f d (.slice (some ⟨b, 0, none⟩) l c)) ds) w') : wpList P ops Q (o :: rest) (AA n f ds) w := by
  refine Lnew (ob := .cells (madeCells z.cells (c * i.size)) e) (vb := fun b => .slice (some ⟨b, 0, none⟩) l c) hg hd H ?_ rfl (fun b w' H' => k b w' (by rw [Ent.blk, Array.toArray_toList]; exact H'))
  have h := run_make (P := P) w t e i z ht hi hz kl kc (l : Int) (c : Int) (by omega) (by omega) (by have h := hbytes; omega) (by omega)
  simp only [Int.toNat_natCast] at h
  simp [execOp, ho, hx, hy, h]
/-- one element more -/
theorem Lapp1 {o : Oper} {d : Nat} {s x : Operand} {t tx e e' : TypeId} {i : TypeInfo} {z v u : Value} {c b : Nat} {xs : List Value} (j : Nat) (hg : o.guard = none) (hd : o.dst = some d)
    (ho : o.op = .call { callee := .builtin .append, args := #[s, x], argTypes := #[t, tx] }) (hs : ev n f s = v) (hx : ev n f x = .slice (some ⟨b, 0, none⟩) 1 1) (H : Heap w0 (Ent.blk b e' [u] :: L) w) (hk : L[j]? = some (Ent.row w0.heap.size e 1 v c xs))
    (ht : P.underlying t = some (.slice e)) (htx : P.underlying tx = some (.slice e)) (hi : P.info? e = some i) (hz : i.zero = some z) (hzs : z.cells.size = i.size) (hsz : i.size = 1) (h1 : u.oneCell' = true)
    (hbytes : (c + 1) * i.bytes ≤ 140737488355328) (h63 : c + 1 ≤ maxLen)
    (k : ∀ A cap w', c + 1 ≤ cap → Heap w0 (L.set j (Ent.row w0.heap.size e 1 (.slice A (c + 1) cap) (c + 1) (xs ++ [u]))) w' → wpList P ops Q rest (AA n (up f d (.slice A (c + 1) cap)) ds) w') : wpList P ops Q (o :: rest) (AA n f ds) w := by
  refine Lappend (j + 1) hg hd ho hs hx H (by simpa using hk) ht hi hz hzs hsz (Src.ofSlice w htx _ 1 1 [u] rfl (fun i y hy => cells_blk (k := 0) (off := 0) (vs := [u]) rfl rfl w H i y hy) (by simpa using h1)) hbytes h63 ?_
  intro v' w' H' _
  have H2 : Heap w0 (L.set j (Ent.row w0.heap.size e 1 v' (c + 1) (xs ++ [u]))) w' := H'.tail
  have hj : j < L.length := (List.getElem?_eq_some_iff.1 hk).1
  obtain ⟨A, cap, rfl, hc⟩ := row_form (H2.get j (x := Ent.row w0.heap.size e 1 v' (c + 1) (xs ++ [u])) (by simp [hj]))
  exact k A cap w' hc H2
/-- a readable slice at the end -/
theorem LappR {o : Oper} {d : Nat} {s x : Operand} {t tx e : TypeId} {i : TypeInfo} {z v : Value} {c m c2 : Nat} {A2 : Option Addr} {xs news : List Value} (j : Nat) (hg : o.guard = none) (hd : o.dst = some d)
    (ho : o.op = .call { callee := .builtin .append, args := #[s, x], argTypes := #[t, tx] }) (hs : ev n f s = v) (hx : ev n f x = .slice A2 m c2) (H : Heap w0 L w) (hk : L[j]? = some (Ent.row w0.heap.size e 1 v c xs))
    (ht : P.underlying t = some (.slice e)) (htx : P.underlying tx = some (.slice e)) (hi : P.info? e = some i) (hz : i.zero = some z) (hzs : z.cells.size = i.size) (hsz : i.size = 1) (h1 : ∀ u ∈ news, u.oneCell' = true)
    (hR : Rd w A2 news) (hm : news.length = m) (hbytes : (c + m) * i.bytes ≤ 140737488355328) (h63 : c + m ≤ maxLen)
    (k : ∀ A cap w', c + m ≤ cap → Heap w0 (L.set j (Ent.row w0.heap.size e 1 (.slice A (c + m) cap) (c + m) (xs ++ news))) w' → wpList P ops Q rest (AA n (up f d (.slice A (c + m) cap)) ds) w') : wpList P ops Q (o :: rest) (AA n f ds) w := by
  have hsrc : Src P 1 tx (.slice A2 m c2) m news w := by
    cases A2 with
    | none =>
      have : news = [] := by
        cases news with
        | nil => rfl
        | cons c l => obtain ⟨a, ha, _⟩ := hR.cell 0 c (by simp); cases ha
      subst this
      have : m = 0 := by simpa using hm.symm
      subst this
      exact Src.ofNil w htx _
    | some a => exact Src.ofSlice w htx a m c2 news (by simpa using hm) (fun j u hu => hR.at_ hu) h1
  refine Lappend j hg hd ho hs hx H hk ht hi hz hzs hsz hsrc hbytes h63 ?_
  intro v' w' H' _
  have hj : j < L.length := (List.getElem?_eq_some_iff.1 hk).1
  obtain ⟨A, cap, rfl, hc⟩ := row_form (H'.get j (x := Ent.row w0.heap.size e 1 v' (c + m) (xs ++ news)) (by simp [hj]))
  exact k A cap w' hc H'
/-- the bytes of a text at the end -/
theorem LappT {o : Oper} {d : Nat} {s x : Operand} {t tx e : TypeId} {i : TypeInfo} {z v : Value} {c : Nat} {bs : ByteArray} {xs : List Value} (j : Nat) (hg : o.guard = none) (hd : o.dst = some d)
    (ho : o.op = .call { callee := .builtin .append, args := #[s, x], argTypes := #[t, tx] }) (hs : ev n f s = v) (hx : ev n f x = .string bs) (H : Heap w0 L w) (hk : L[j]? = some (Ent.row w0.heap.size e 1 v c xs))
    (ht : P.underlying t = some (.slice e)) (htx : P.underlying tx = some .string) (hi : P.info? e = some i) (hz : i.zero = some z) (hzs : z.cells.size = i.size) (hsz : i.size = 1)
    (hbytes : (c + bs.size) * i.bytes ≤ 140737488355328) (h63 : c + bs.size ≤ maxLen)
    (k : ∀ A cap w', c + bs.size ≤ cap → Heap w0 (L.set j (Ent.row w0.heap.size e 1 (.slice A (c + bs.size) cap) (c + bs.size) (xs ++ byteCells bs))) w' → wpList P ops Q rest (AA n (up f d (.slice A (c + bs.size) cap)) ds) w') : wpList P ops Q (o :: rest) (AA n f ds) w := by
  refine Lappend j hg hd ho hs hx H hk ht hi hz hzs hsz (Src.ofString w htx bs) hbytes h63 ?_
  intro v' w' H' _
  have hj : j < L.length := (List.getElem?_eq_some_iff.1 hk).1
  obtain ⟨A, cap, rfl, hc⟩ := row_form (H'.get j (x := Ent.row w0.heap.size e 1 v' (c + bs.size) (xs ++ byteCells bs)) (by simp [hj]))
  exact k A cap w' hc H'
end
end Go.Eng
