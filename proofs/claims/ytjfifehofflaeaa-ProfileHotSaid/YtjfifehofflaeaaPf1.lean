/-
  A profile in memory: what is read of it. No program in sight.
-/
import Derived.Test.YtjfifehofflaeaaEng15
namespace Go.Pf
open Go.RowKit Go.Eng
set_option linter.unusedSimpArgs false
set_option linter.unusedVariables false

/-- a spot's numbers -/
structure Sp where
  (c a b k : Int)
deriving DecidableEq
def sp0 : Sp := ⟨0, 0, 0, 0⟩
def spV (s : Sp) : List Value := [.int .i64 s.c, .int .u16 s.a, .int .u16 s.b, .int .i64 s.k]
abbrev Fs := List (List Sp)
def cellsV (l : List Sp) : List Value := l.flatMap spV
def spotN (fs : Fs) (fn pc : Nat) : Sp := (fs.getD fn []).getD pc sp0
theorem spot_out {fs : Fs} {fn pc : Nat} (h : ¬ (fn < fs.length ∧ pc < (fs.getD fn []).length)) : spotN fs fn pc = sp0 := by
  unfold spotN
  by_cases h1 : fn < fs.length
  · have h2 : (fs.getD fn []).length ≤ pc := by omega
    rw [List.getD_eq_getElem?_getD (l := fs.getD fn []), List.getElem?_eq_none h2]; rfl
  · rw [List.getD_eq_getElem?_getD (l := fs), List.getElem?_eq_none (by omega)]; rfl
theorem spV_length (s : Sp) : (spV s).length = 4 := rfl
theorem cellsV_length : ∀ l : List Sp, (cellsV l).length = l.length * 4
  | [] => rfl
  | s :: l => by simp only [cellsV, List.flatMap_cons, List.length_append, List.length_cons]; rw [← cellsV, cellsV_length l, spV_length]; omega
theorem cellsV_append (l m : List Sp) : cellsV (l ++ m) = cellsV l ++ cellsV m := by simp [cellsV]
theorem cellsV_one (s : Sp) : cellsV [s] = spV s := by simp [cellsV]
theorem cellsV_get : ∀ (l : List Sp) (i j : Nat), i < l.length → j < 4 → (cellsV l)[i * 4 + j]? = (spV (l.getD i sp0))[j]?
  | [], i, j, h, _ => absurd h (Nat.not_lt_zero _)
  | s :: l, 0, j, _, hj => by
    have : (cellsV (s :: l))[0 * 4 + j]? = (spV s ++ cellsV l)[j]? := by simp [cellsV]
    rw [this, List.getElem?_append_left (by rw [spV_length]; exact hj)]
    rfl
  | s :: l, i + 1, j, h, hj => by
    have e : (cellsV (s :: l)) = spV s ++ cellsV l := rfl
    rw [e, List.getElem?_append_right (by rw [spV_length]; omega), spV_length, show (i + 1) * 4 + j - 4 = i * 4 + j by omega, cellsV_get l i j (by simpa using h) hj]
    rfl
/-- a profile lies here: list j from B j on, with room for cc j -/
structure PfRd (w : World) (A : Option Addr) (fs : Fs) (B : Nat → Option Addr) (cc : Nat → Nat) : Prop where
  outer : Rd w A ((List.range fs.length).map fun j => .slice (B j) (fs.getD j []).length (cc j))
  inner : ∀ j, j < fs.length → Rd w (B j) (cellsV (fs.getD j []))
  cap : ∀ j, j < fs.length → (fs.getD j []).length ≤ cc j
section
variable {w0 w : World} {L : List Ent} {A : Option Addr} {fs : Fs} {B : Nat → Option Addr} {cc : Nat → Nat}
theorem PfRd.old (h : PfRd w0 A fs B cc) (H : Heap w0 L w) : PfRd w A fs B cc := ⟨h.outer.old H, fun j hj => (h.inner j hj).old H, h.cap⟩
theorem PfRd.head1 (h : PfRd w0 A fs B cc) {j : Nat} (hj : j < fs.length) : ∃ a, A = some a := by
  obtain ⟨a, ha, _⟩ := h.outer.some (j := j) (by simpa using hj)
  exact ⟨a, ha⟩
theorem PfRd.head2 (h : PfRd w0 A fs B cc) {j i : Nat} (hj : j < fs.length) (hi : i < (fs.getD j []).length) : ∃ a, B j = some a := by
  obtain ⟨a, ha, _⟩ := (h.inner j hj).some (j := i * 4) (by rw [cellsV_length]; omega)
  exact ⟨a, ha⟩
theorem PfRd.cellO (h : PfRd w0 A fs B cc) {j q : Nat} {a : Addr} (hA : A = some a) (hj : j < fs.length) (hq : q = j) : ∀ w, Heap w0 L w → w.cell? (a.add q) = some (.slice (B j) (fs.getD j []).length (cc j)) := fun w H => by
  subst hq; subst hA
  exact (h.outer.old H).at_ (by simp [hj])
theorem rd_spot {W : World} {a : Addr} {l : List Sp} {i q : Nat} (R : Rd W (some a) (cellsV l)) (hi : i < l.length) (hq : q = i * 4) : ∀ j u, (spV (l.getD i sp0))[j]? = some u → W.cell? ((a.add q).add j) = some u := fun j u hu => by
  subst hq
  rw [Addr.add_add]
  have hj : j < 4 := (List.getElem?_eq_some_iff.1 hu).1
  refine R.at_ ?_
  rw [cellsV_get l i j hi hj]; exact hu
theorem PfRd.cellS (h : PfRd w0 A fs B cc) {j i q : Nat} {a : Addr} (hB : B j = some a) (hj : j < fs.length) (hi : i < (fs.getD j []).length) (hq : q = i * 4) : ∀ w, Heap w0 L w → ∀ t u, (spV (spotN fs j i))[t]? = some u → w.cell? ((a.add q).add t) = some u := fun w H t u hu => by
  have R := (h.inner j hj).old H
  rw [hB] at R
  exact rd_spot R hi hq t u hu
end
end Go.Pf
