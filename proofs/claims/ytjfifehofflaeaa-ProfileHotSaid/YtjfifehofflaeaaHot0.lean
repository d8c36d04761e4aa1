/-
  The functions that ran most: plain laws.
-/
import Derived.Test.YtjfifehofflaeaaPf1
namespace Go.Pf
open Go.RowKit Go.Eng
set_option linter.unusedSimpArgs false
set_option linter.unusedVariables false
def cN (fs : Fs) (j : Nat) : Int := (spotN fs j 0).c
def before (c : Nat → Int) (x y : Nat) : Prop := c y < c x ∨ (c x = c y ∧ x < y)
structure HotOk (c : Nat → Int) (n : Nat) (least : Int) (l : List Nat) : Prop where
  pw : l.Pairwise (before c)
  mem : ∀ x, x ∈ l ↔ (x < n ∧ least ≤ c x)
theorem before_irrefl {c : Nat → Int} {x : Nat} : ¬ before c x x := by unfold before; omega
theorem before_asymm {c : Nat → Int} {x y : Nat} (h : before c x y) : ¬ before c y x := by unfold before at *; omega
theorem pw_nodup {c : Nat → Int} {l : List Nat} (h : l.Pairwise (before c)) : l.Nodup := h.imp fun {a b} h e => by subst e; exact before_irrefl h
theorem sorted_uniq {c : Nat → Int} : ∀ {l m : List Nat}, l.Pairwise (before c) → m.Pairwise (before c) → (∀ x, x ∈ l ↔ x ∈ m) → l = m
  | [], [], _, _, _ => rfl
  | [], y :: m, _, _, h => by have := (h y).2 (by simp); cases this
  | x :: l, [], _, _, h => by have := (h x).1 (by simp); cases this
  | x :: l, y :: m, h1, h2, h => by
    obtain ⟨a1, b1⟩ := List.pairwise_cons.1 h1
    obtain ⟨a2, b2⟩ := List.pairwise_cons.1 h2
    have hxy : x = y := by
      have hx := (h x).1 (by simp)
      have hy := (h y).2 (by simp)
      rcases List.mem_cons.1 hx with hx | hx
      · exact hx
      · rcases List.mem_cons.1 hy with hy | hy
        · exact hy.symm
        · exact absurd (a2 x hx) (before_asymm (a1 y hy))
    subst hxy
    congr 1
    refine sorted_uniq b1 b2 fun z => ⟨fun hz => ?_, fun hz => ?_⟩
    · have := (h z).1 (by simp [hz])
      rcases List.mem_cons.1 this with e | e
      · subst e; exact absurd (a1 z hz) before_irrefl
      · exact e
    · have := (h z).2 (by simp [hz])
      rcases List.mem_cons.1 this with e | e
      · subst e; exact absurd (a2 z hz) before_irrefl
      · exact e
theorem HotOk.uniq {c : Nat → Int} {n : Nat} {least : Int} {l m : List Nat} (h1 : HotOk c n least l) (h2 : HotOk c n least m) : l = m :=
  sorted_uniq h1.pw h2.pw fun x => by rw [h1.mem, h2.mem]
theorem nodup_le : ∀ (n : Nat) (l : List Nat), l.Nodup → (∀ x ∈ l, x < n) → l.length ≤ n
  | 0, l, _, h => by
    cases l with
    | nil => exact Nat.le_refl _
    | cons x l => have := h x (by simp); omega
  | n + 1, l, hn, h => by
    have h1 := nodup_le n (l.erase n) (hn.erase n) (fun x hx => by
      have h2 := h x (List.mem_of_mem_erase hx)
      have h3 : x ≠ n := fun e => by subst e; exact (hn.not_mem_erase hx)
      omega)
    have h4 : l.length - 1 ≤ (l.erase n).length := by rw [List.length_erase]; split <;> omega
    omega
structure HotInv (c : Nat → Int) (n : Nat) (least : Int) (l : List Nat) (o : List Bool) : Prop where
  ol : o.length = n
  ot : ∀ x, x < n → (o.getD x true = true ↔ (c x < least ∨ x ∈ l))
  lt : ∀ x ∈ l, x < n ∧ least ≤ c x
  pw : l.Pairwise (before c)
  bt : ∀ x ∈ l, ∀ y, y < n → y ∉ l → least ≤ c y → before c x y
def o0 (c : Nat → Int) (least : Int) (i : Nat) : List Bool := (List.range i).map fun x => decide (c x < least)
theorem o0_length {c : Nat → Int} {least : Int} {i : Nat} : (o0 c least i).length = i := by simp [o0]
theorem o0_succ {c : Nat → Int} {least : Int} {i : Nat} : o0 c least (i + 1) = o0 c least i ++ [decide (c i < least)] := by simp [o0, List.range_succ]
theorem HotInv.start (c : Nat → Int) (n : Nat) (least : Int) : HotInv c n least [] (o0 c least n) where
  ol := o0_length
  ot x hx := by simp [o0, List.getD_eq_getElem?_getD, hx]
  lt x hx := by cases hx
  pw := List.Pairwise.nil
  bt x hx := by cases hx
theorem HotInv.done_none {c : Nat → Int} {n : Nat} {least : Int} {l : List Nat} {o : List Bool} (h : HotInv c n least l o) (ha : ∀ x, x < n → o.getD x true = true) : HotOk c n least l :=
  ⟨h.pw, fun x => ⟨h.lt x, fun ⟨h1, h2⟩ => by
    rcases (h.ot x h1).1 (ha x h1) with h3 | h3
    · omega
    · exact h3⟩⟩
theorem HotInv.done_full {c : Nat → Int} {n : Nat} {least : Int} {l : List Nat} {o : List Bool} (h : HotInv c n least l o) (hl : l.length = n) : HotOk c n least l :=
  ⟨h.pw, fun x => ⟨h.lt x, fun ⟨h1, h2⟩ => Classical.byContradiction fun hx => by
    have := nodup_le n (x :: l) (List.nodup_cons.2 ⟨hx, pw_nodup h.pw⟩) (fun y hy => by
      rcases List.mem_cons.1 hy with rfl | hy
      · exact h1
      · exact (h.lt y hy).1)
    simp only [List.length_cons] at this
    omega⟩⟩
theorem getD_set {o : List Bool} {b x : Nat} (hb : b < o.length) : (o.set b true).getD x true = if b = x then true else o.getD x true := by
  rw [List.getD_eq_getElem?_getD, List.getElem?_set]
  split
  · rename_i e; subst e; simp
  · rw [← List.getD_eq_getElem?_getD]
theorem HotInv.step {c : Nat → Int} {n b : Nat} {least : Int} {l : List Nat} {o : List Bool} (h : HotInv c n least l o) (hb : b < n) (ho : o.getD b true = false) (hm : ∀ x, x < n → o.getD x true = false → x = b ∨ before c b x) :
    HotInv c n least (l ++ [b]) (o.set b true) := by
  have hbl : least ≤ c b ∧ b ∉ l := by
    have h1 := (h.ot b hb)
    rw [ho] at h1
    have h2 : ¬ (c b < least ∨ b ∈ l) := fun h' => by have := h1.2 h'; cases this
    exact ⟨by omega, fun h' => h2 (.inr h')⟩
  refine ⟨by rw [List.length_set]; exact h.ol, fun x hx => ?_, fun x hx => ?_, ?_, fun x hx y hy hyl hly => ?_⟩
  · rw [getD_set (by rw [h.ol]; exact hb)]
    by_cases e : b = x
    · subst e; simp
    · rw [if_neg e, h.ot x hx]
      simp only [List.mem_append, List.mem_singleton]
      constructor
      · rintro (h1 | h1)
        · exact .inl h1
        · exact .inr (.inl h1)
      · rintro (h1 | h1 | h1)
        · exact .inl h1
        · exact .inr h1
        · exact absurd h1.symm e
  · rcases List.mem_append.1 hx with hx | hx
    · exact h.lt x hx
    · have : x = b := by simpa using hx
      subst this; exact ⟨hb, hbl.1⟩
  · refine List.pairwise_append.2 ⟨h.pw, by simp, fun x hx y hy => ?_⟩
    have : y = b := by simpa using hy
    subst this
    exact h.bt x hx y hb hbl.2 hbl.1
  · have hyl' : y ∉ l ∧ y ≠ b := ⟨fun h' => hyl (by simp [h']), fun h' => hyl (by simp [h'])⟩
    rcases List.mem_append.1 hx with hx | hx
    · exact h.bt x hx y hy hyl'.1 hly
    · have : x = b := by simpa using hx
      subst this
      have ho : o.getD y true = false := by
        cases ho : o.getD y true with
        | false => rfl
        | true =>
          rcases (h.ot y hy).1 ho with h1 | h1
          · omega
          · exact absurd h1 hyl'.1
      rcases hm y hy ho with e | e
      · exact absurd e hyl'.2
      · exact e
/-- the best of those that are left, out of the first i -/
def BestInv (c : Nat → Int) (o : List Bool) (i : Nat) (b : Int) : Prop :=
  (b = -1 ∧ ∀ x, x < i → o.getD x true = true) ∨ (∃ j : Nat, b = j ∧ j < i ∧ o.getD j true = false ∧ ∀ x, x < i → o.getD x true = false → x = j ∨ before c j x)
theorem BestInv.start (c : Nat → Int) (o : List Bool) : BestInv c o 0 (-1) := .inl ⟨rfl, fun x h => absurd h (Nat.not_lt_zero _)⟩
theorem BestInv.take {c : Nat → Int} {o : List Bool} {i : Nat} {b : Int} (h : BestInv c o i b) (ho : o.getD i true = false) (hb : b < 0 ∨ c b.toNat < c i) : BestInv c o (i + 1) i := by
  refine .inr ⟨i, rfl, Nat.lt_succ_self i, ho, fun x hx hox => ?_⟩
  by_cases e : x = i
  · exact .inl e
  · right
    rcases h with ⟨h1, h2⟩ | ⟨j, rfl, h2, h3, h4⟩
    · rw [h2 x (by omega)] at hox; cases hox
    · have h5 : c j < c i := by
        rcases hb with hb | hb
        · omega
        · simpa using hb
      rcases h4 x (by omega) hox with e | e
      · subst e; exact .inl h5
      · unfold before at *; omega
theorem BestInv.keep {c : Nat → Int} {o : List Bool} {i : Nat} {b : Int} (h : BestInv c o i b) (hn : ¬ (o.getD i true = false ∧ (b < 0 ∨ c b.toNat < c i))) : BestInv c o (i + 1) b := by
  rcases h with ⟨h1, h2⟩ | ⟨j, rfl, h2, h3, h4⟩
  · refine .inl ⟨h1, fun x hx => ?_⟩
    by_cases e : x = i
    · subst e
      cases ho : o.getD x true with
      | true => rfl
      | false => exact absurd ⟨ho, .inl (by omega)⟩ hn
    · exact h2 x (by omega)
  · refine .inr ⟨j, rfl, by omega, h3, fun x hx hox => ?_⟩
    by_cases e : x = i
    · subst e
      right
      have : ¬ c j < c x := fun h => hn ⟨hox, .inr (by simpa using h)⟩
      unfold before; omega
    · exact h4 x (by omega) hox
theorem BestInv.lo {c : Nat → Int} {o : List Bool} {i : Nat} {b : Int} (h : BestInv c o i b) : -1 ≤ b ∧ b < i := by
  rcases h with ⟨h1, h2⟩ | ⟨j, rfl, h2, _⟩ <;> omega
end Go.Pf
