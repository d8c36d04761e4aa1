/-
  The engine, part 14: lists that are marked, grown one by one, and looked at.
-/
import Derived.Test.YtjfifehofflaeaaEng13
namespace Go.Eng
open Go.RowKit
set_option linter.unusedSimpArgs false
set_option linter.unusedVariables false
section
variable {M : Nat → Nat → Value} {n c : Nat → Nat} {A : Nat → Option Addr} {xs0 : Nat → List Value} {m k i j : Nat} {g : Nat → Value}
def mks (M : Nat → Nat → Value) (k n : Nat) : List Value := (List.range n).map (M k)
theorem mks_length : (mks M k i).length = i := by simp [mks]
theorem mks_succ : mks M k (i + 1) = mks M k i ++ [M k i] := by simp [mks, List.range_succ]
theorem mks_get (h : i < j) : (mks M k j)[i]? = some (M k i) := by simp [mks, h]
def hdV (A : Nat → Option Addr) (n c : Nat → Nat) (j : Nat) : Value := .slice (A j) (n j) (c j)
theorem hd_get (h : k < m) : ((List.range m).map g)[k]? = some (g k) := by simp [h]
/-- lists below k are marked, list k up to i -/
def cont (M : Nat → Nat → Value) (n : Nat → Nat) (xs0 : Nat → List Value) (k i j : Nat) : List Value := if j < k then mks M j (n j) else if j = k then mks M k i ++ (xs0 k).drop i else xs0 j
theorem cont_step (hl : (xs0 k).length = n k) (hi : i < n k) : (cont M n xs0 k i k).set i (M k i) = cont M n xs0 k (i + 1) k := by
  unfold cont
  rw [if_neg (Nat.lt_irrefl k), if_pos rfl, if_neg (Nat.lt_irrefl k), if_pos rfl, List.set_append_right _ _ (by rw [mks_length]; exact Nat.le_refl _), mks_length, Nat.sub_self, mks_succ, List.append_assoc]
  congr 1
  rw [List.drop_eq_getElem_cons (by omega : i < (xs0 k).length)]
  rfl
theorem cont_other (h : j ≠ k) : cont M n xs0 k i j = cont M n xs0 k (i + 1) j := by unfold cont; simp [h]
theorem cont_next (hl : (xs0 k).length = n k) : cont M n xs0 k (n k) = cont M n xs0 (k + 1) 0 := by
  funext j
  unfold cont
  by_cases h1 : j < k
  · rw [if_pos h1, if_pos (by omega)]
  · rw [if_neg h1]
    by_cases h2 : j = k
    · subst h2
      rw [if_pos rfl, if_pos (by omega), List.drop_eq_nil_of_le (by omega), List.append_nil]
    · rw [if_neg h2, if_neg (by omega)]
      by_cases h3 : j = k + 1
      · subst h3; rw [if_pos rfl]; simp [mks]
      · rw [if_neg h3]
theorem cont_zero : cont M n xs0 0 0 = xs0 := by
  funext j
  unfold cont
  by_cases h : j = 0
  · subst h; simp [mks]
  · simp [h]
theorem cont_all (h : j < m) : cont M n xs0 m 0 j = mks M j (n j) := by unfold cont; rw [if_pos h]
def cntF (n : Nat → Nat) (k i j : Nat) : Nat := if j < k then n j + 64 else if j = k then n k + i else n j
theorem cntF_self : cntF n k i k = n k + i := by unfold cntF; rw [if_neg (Nat.lt_irrefl k), if_pos rfl]
theorem cntF_other (h : j ≠ k) : cntF n k i j = cntF n k (i + 1) j := by unfold cntF; simp [h]
theorem cntF_next : cntF n k 64 = cntF n (k + 1) 0 := by
  funext j
  unfold cntF
  by_cases h1 : j < k
  · rw [if_pos h1, if_pos (by omega)]
  · rw [if_neg h1]
    by_cases h2 : j = k
    · subst h2; rw [if_pos rfl, if_pos (by omega)]
    · rw [if_neg h2, if_neg (by omega)]
      by_cases h3 : j = k + 1
      · subst h3; simp
      · rw [if_neg h3]
theorem cntF_zero : cntF n 0 0 = n := by
  funext j
  unfold cntF
  by_cases h : j = 0
  · subst h; simp
  · simp [h]
theorem cntF_all (h : j < m) : cntF n m 0 j = n j + 64 := by unfold cntF; rw [if_pos h]
theorem up_at {v : Value} : up g k v k = v := by unfold up; simp
theorem up_ne {v : Value} (h : j ≠ k) : up g k v j = g j := by
  unfold up
  have : Nat.beq j k = false := by
    cases hb : Nat.beq j k with
    | false => rfl
    | true => exact absurd (Nat.eq_of_beq_eq_true hb) h
  rw [this]; rfl
theorem up_range {v : Value} : (List.range (k + 1)).map (up g k v) = (List.range k).map g ++ [v] := by
  rw [List.range_succ, List.map_append, List.map_singleton, up_at]
  congr 1
  exact List.map_congr_left fun j hj => up_ne (by have := List.mem_range.1 hj; omega)
end
section
variable {w0 w : World} {e : TypeId} {M : Nat → Nat → Value} {n c : Nat → Nat} {A : Nat → Option Addr} {xs xs0 : Nat → List Value} {m k i j : Nat} {g : Nat → Value} {R : List Ent} {x y : Ent} {F G : Nat → Ent}
def rowF (w0 : World) (e : TypeId) (A : Nat → Option Addr) (n c : Nat → Nat) (xs : Nat → List Value) (j : Nat) : Ent := Ent.row w0.heap.size e 1 (.slice (A j) (n j) (c j)) (n j) (xs j)
def row2F (w0 : World) (e : TypeId) (A : Nat → Option Addr) (n : Nat → Nat) (M : Nat → Nat → Value) (g : Nat → Value) (cnt : Nat → Nat) (j : Nat) : Ent := Ent.row2 w0.heap.size e (A j) (mks M j (n j)) (g j) (cnt j) (mks M j (cnt j))
theorem at1 (hk : k < m) : (x :: ((List.range m).map F ++ R))[k + 1]? = some (F k) := by
  rw [List.getElem?_cons_succ, List.getElem?_append_left (by simpa using hk)]; exact map_range_get hk
theorem at2 (hk : k < m) : (x :: y :: ((List.range m).map F ++ R))[k + 2]? = some (F k) := by
  rw [List.getElem?_cons_succ, List.getElem?_cons_succ, List.getElem?_append_left (by simpa using hk)]; exact map_range_get hk
theorem Heap.upd1 (hk : k < m) (h : ∀ j, j < m → j ≠ k → F j = G j) (H : Heap w0 ((x :: ((List.range m).map F ++ R)).set (k + 1) (G k)) w) : Heap w0 (x :: ((List.range m).map G ++ R)) w := by
  rw [List.set_cons_succ, List.set_append_left _ _ (by simpa using hk), map_range_set hk h] at H
  exact H
theorem Heap.upd2 (hk : k < m) (h : ∀ j, j < m → j ≠ k → F j = G j) (H : Heap w0 ((x :: y :: ((List.range m).map F ++ R)).set (k + 2) (G k)) w) : Heap w0 (x :: y :: ((List.range m).map G ++ R)) w := by
  rw [List.set_cons_succ, List.set_cons_succ, List.set_append_left _ _ (by simpa using hk), map_range_set hk h] at H
  exact H
theorem Heap.mark (hk : k < m) (hl : (xs0 k).length = n k) (hi : i < n k)
    (H : Heap w0 ((x :: ((List.range m).map (rowF w0 e A n c (cont M n xs0 k i)) ++ R)).set (k + 1) (Ent.row w0.heap.size e 1 (.slice (A k) (n k) (c k)) (n k) ((cont M n xs0 k i k).set i (M k i)))) w) :
    Heap w0 (x :: ((List.range m).map (rowF w0 e A n c (cont M n xs0 k (i + 1))) ++ R)) w := by
  rw [cont_step hl hi] at H
  exact Heap.upd1 (G := rowF w0 e A n c (cont M n xs0 k (i + 1))) hk (fun j _ hj => by unfold rowF; rw [cont_other hj]) H
theorem rows_to_row2 (H : Heap w0 (x :: ((List.range m).map (rowF w0 e A n c (fun j => mks M j (n j))) ++ R)) w) : Heap w0 (x :: ((List.range m).map (row2F w0 e A n M (hdV A n c) n) ++ R)) w := by
  have key : ∀ t, t ≤ m → Heap w0 (x :: ((List.range m).map (fun j => if j < t then row2F w0 e A n M (hdV A n c) n j else rowF w0 e A n c (fun j => mks M j (n j)) j) ++ R)) w := by
    intro t
    induction t with
    | zero => intro _; simpa using H
    | succ t ih =>
      intro ht
      have h0 := ih (by omega)
      have htm : t < m := by omega
      refine Heap.upd1 (k := t) (F := fun j => if j < t then row2F w0 e A n M (hdV A n c) n j else rowF w0 e A n c (fun j => mks M j (n j)) j) htm (fun j _ hj => ?_) ?_
      · by_cases h : j < t
        · simp [h, Nat.lt_succ_of_lt h]
        · have h' : ¬ j < t + 1 := by omega
          simp [h, h']
      · simp only [Nat.lt_succ_self, if_true]
        exact h0.to_row2 (t + 1) (by rw [at1 htm]; simp [rowF])
  have h := key m (Nat.le_refl _)
  rw [map_range_congr (G := row2F w0 e A n M (hdV A n c) n) (fun j hj => by simp [hj])] at h
  exact h
theorem row2F_at {A1 : Option Addr} {c1 : Nat} : row2F w0 e A n M (up g k (.slice A1 (n k + i) c1)) (cntF n k i) k = Ent.row2 w0.heap.size e (A k) (mks M k (n k)) (.slice A1 (n k + i) c1) (n k + i) (mks M k (n k + i)) := by
  unfold row2F; rw [up_at, cntF_self]
theorem Heap.grow {A1 A2 : Option Addr} {c1 c2 : Nat} (hk : k < m)
    (H : Heap w0 ((x :: y :: ((List.range m).map (row2F w0 e A n M (up g k (.slice A1 (n k + i) c1)) (cntF n k i)) ++ R)).set (k + 2) (Ent.row2 w0.heap.size e (A k) (mks M k (n k)) (.slice A2 (n k + i + 1) c2) (n k + i + 1) (mks M k (n k + i) ++ [M k (n k + i)]))) w) :
    Heap w0 (x :: y :: ((List.range m).map (row2F w0 e A n M (up g k (.slice A2 (n k + (i + 1)) c2)) (cntF n k (i + 1))) ++ R)) w := by
  rw [← mks_succ] at H
  refine Heap.upd2 (k := k) (F := row2F w0 e A n M (up g k (.slice A1 (n k + i) c1)) (cntF n k i)) hk (fun j _ hj => ?_) ?_
  · unfold row2F; rw [up_ne hj, up_ne hj, cntF_other hj]
  · rw [row2F_at]; exact H
/-- the shape of a list that has been grown -/
theorem grown_form (hk : k < m) (H : Heap w0 (x :: y :: ((List.range m).map (row2F w0 e A n M g (cntF n m 0)) ++ R)) w) : ∃ A1 c1, g k = .slice A1 (n k + 64) c1 := by
  have h := (H.get (k + 2) (at2 hk)).1
  rw [cntF_all hk] at h
  obtain ⟨A1, c1, h1, _⟩ := row_form h
  exact ⟨A1, c1, h1⟩
end
end Go.Eng
