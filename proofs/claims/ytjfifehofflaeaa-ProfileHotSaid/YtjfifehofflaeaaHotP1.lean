/-
  The program: the map of those that ran often enough; an iterator over its keys.
-/
import Derived.Test.YtjfifehofflaeaaHot1
import Derived.Test.YtjfifehofflaeaaCmp1
namespace Go.Pf
open Go.RowKit Go.Eng Go.Proofs
set_option linter.unusedSimpArgs false
set_option linter.unusedVariables false
attribute [local irreducible] wpList wpQuiet wpStill wpMix wpMixE

/-- the map holds those of the first i that ran often enough -/
structure MapOk (c : Nat → Int) (least : Int) (i : Nat) (D : DataW Unit) : Prop where
  hs : ∀ x : Int, Maps.has D (.int .i64 x) = true ↔ ∃ y : Nat, x = y ∧ y < i ∧ least ≤ c y
  at_ : ∀ y : Nat, y < i → least ≤ c y → D.atKey (.int .i64 y) (.lit (.int .i64 0)) = .lit (.int .i64 (c y))
theorem keyLit (x : Int) : WideAt.IsKeyLit (.int .i64 x) := by simp [WideAt.IsKeyLit]
theorem MapOk.start (c : Nat → Int) (least : Int) : MapOk c least 0 (.map []) :=
  ⟨fun x => ⟨fun h => by simp [Maps.has] at h, fun ⟨y, _, h, _⟩ => absurd h (Nat.not_lt_zero _)⟩, fun y h => absurd h (Nat.not_lt_zero _)⟩
theorem MapOk.skip {c : Nat → Int} {least : Int} {i : Nat} {D : DataW Unit} (h : MapOk c least i D) (hl : ¬ least ≤ c i) : MapOk c least (i + 1) D :=
  ⟨fun x => (h.hs x).trans ⟨fun ⟨y, h1, h2, h3⟩ => ⟨y, h1, by omega, h3⟩, fun ⟨y, h1, h2, h3⟩ => ⟨y, h1, by
    rcases Nat.lt_or_ge y i with h4 | h4
    · exact h4
    · have : y = i := by omega
      subst this; exact absurd h3 hl, h3⟩⟩, fun y h1 h2 => h.at_ y (by
    rcases Nat.lt_or_ge y i with h4 | h4
    · exact h4
    · have : y = i := by omega
      subst this; exact absurd h2 hl) h2⟩
theorem MapOk.put {c : Nat → Int} {least : Int} {i : Nat} {D : DataW Unit} (h : MapOk c least i D) (hD : Maps.IsMap D) (hl : least ≤ c i) : MapOk c least (i + 1) (D.put (.int .i64 (i : Int)) (.lit (.int .i64 (c i)))) where
  hs x := by
    by_cases e : x = (i : Int)
    · subst e
      exact ⟨fun _ => ⟨i, rfl, Nat.lt_succ_self i, hl⟩, fun _ => Maps.has_put_same hD (keyLit _) _⟩
    · rw [Maps.has_put_other (fun h' => e (by simpa using h')), h.hs x]
      exact ⟨fun ⟨y, h1, h2, h3⟩ => ⟨y, h1, by omega, h3⟩, fun ⟨y, h1, h2, h3⟩ => ⟨y, h1, by
        rcases Nat.lt_or_ge y i with h4 | h4
        · exact h4
        · have : y = i := by omega
          subst this; exact absurd h1 e, h3⟩⟩
  at_ y h1 h2 := by
    by_cases e : y = i
    · subst e; exact Maps.atKey_put_same hD (keyLit _) _ _
    · rw [Maps.atKey_put_other (fun h' => e (by have h9 : (y : Int) = i := by simpa using h'
                                                omega))]
      exact h.at_ y (by omega) h2
def cnN (c : Nat → Int) (least : Int) (n : Nat) (z : Int) : Int := if 0 ≤ z ∧ z.toNat < n ∧ least ≤ c z.toNat then c z.toNat else 0
theorem MapOk.cn {c : Nat → Int} {least : Int} {n : Nat} {D : DataW Unit} (h : MapOk c least n D) (z : Int) : D.atKey (.int .i64 z) (.lit (.int .i64 0)) = .lit (.int .i64 (cnN c least n z)) := by
  unfold cnN
  by_cases hz : 0 ≤ z ∧ z.toNat < n ∧ least ≤ c z.toNat
  · rw [if_pos hz]
    have := h.at_ z.toNat hz.2.1 hz.2.2
    rwa [Int.toNat_of_nonneg hz.1] at this
  · rw [if_neg hz]
    refine Maps.atKey_of_not_has ?_ _
    cases hh : Maps.has D (.int .i64 z) with
    | false => rfl
    | true =>
      obtain ⟨y, rfl, h2, h3⟩ := (h.hs z).1 hh
      exact absurd ⟨by omega, by simpa using h2, by simpa using h3⟩ hz
section
variable {w0 w : World} {R : List Ent} {A : Option Addr} {fs : Fs} {B : Nat → Option Addr} {cc : Nat → Nat} {cap : Nat}
-- «keys»
theorem keys_calls {mb : Option Nat} : Calls Try.prog 70 #[.map mb] w0 fun e w' => ∃ b1, e = .returned (.func (.func 123) #[] #[.pointer (some ⟨b1, 0, none⟩)]) ∧ Heap w0 [Ent.blk b1 108 [.map mb]] w' := by
  refine c_enter (xa := [.map mb]) 4 Try.func70 rfl rfl rfl ?_
  have H := Heap.init w0
  refine wp_seq ?_
  -- R0
  refine c_region ?_
  refine Lbox rfl rfl rfl (z := .map mb) rfl H (cs := [.map mb]) rfl ?_; intro b1 w H
  refine L1 rfl rfl H (y_assign (v := .nilFunc) rfl rfl) ?_
  refine e_list ?_; (repeat (first | (with_reducible first | refine e_then ?_ | refine e_block ?_ | refine e_then_ret ?_ | refine e_block_ret ?_ | refine e_then_exit ?_ | refine e_block_here ?_ | refine e_then_panic ?_ | refine e_block_panic ?_) | refine e_block_on rfl ?_))
  refine wp_seq ?_
  -- R1
  refine c_region ?_
  refine L1 rfl rfl H (y_mkfunc (fi := []) (ca := [.pointer (some ⟨b1, 0, none⟩)]) rfl rfl rfl) ?_
  refine L1 rfl rfl H (y_assign (v := .func (.func 123) #[] #[.pointer (some ⟨b1, 0, none⟩)]) rfl rfl) ?_
  refine e_list ?_; (repeat (first | (with_reducible first | refine e_then ?_ | refine e_block ?_ | refine e_then_ret ?_ | refine e_block_ret ?_ | refine e_then_exit ?_ | refine e_block_here ?_ | refine e_then_panic ?_ | refine e_block_panic ?_) | refine e_block_on rfl ?_))
  refine wp_ret ?_; (repeat (first | (with_reducible first | refine e_then ?_ | refine e_block ?_ | refine e_then_ret ?_ | refine e_block_ret ?_ | refine e_then_exit ?_ | refine e_block_here ?_ | refine e_then_panic ?_ | refine e_block_panic ?_) | refine e_block_on rfl ?_))
  refine r_1 (v := .func (.func 123) #[] #[.pointer (some ⟨b1, 0, none⟩)]) rfl rfl ?_
  exact ⟨b1, rfl, H⟩
-- »keys
end
end Go.Pf
