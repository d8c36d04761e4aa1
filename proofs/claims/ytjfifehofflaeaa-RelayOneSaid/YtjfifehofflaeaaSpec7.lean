/-
  Reading behind a place is reading from that place: plain laws.
-/
import Derived.Test.YtjfifehofflaeaaSpec6
namespace Go.Relay
open Go.RowKit Go.Eng Go.Wire
set_option linter.unusedSimpArgs false
set_option linter.unusedVariables false
def sh (p : Nat) (s : RS) : RS := (p + s.1, s.2)
theorem rdCount_sh {b : By} {p most : Nat} {s : RS} : rdCount b most (sh p s) = (sh p (rdCount (b.drop p) most s).1, (rdCount (b.drop p) most s).2) := by
  unfold rdCount
  have e : b.drop (sh p s).1 = (b.drop p).drop s.1 := by rw [List.drop_drop]; rfl
  by_cases h : s.2 ≠ 0
  · rw [if_pos h, if_pos (show (sh p s).2 ≠ 0 from h)]
  · rw [if_neg h, if_neg (show ¬ (sh p s).2 ≠ 0 from h), e]
    cases cntS ((b.drop p).drop s.1) most with
    | ok q => simp [sh, Nat.add_assoc]
    | error c => simp [sh]
theorem rdText_sh {b : By} {p most : Nat} {s : RS} : rdText b most (sh p s) = (sh p (rdText (b.drop p) most s).1, (rdText (b.drop p) most s).2) := by
  unfold rdText
  have e : b.drop (sh p s).1 = (b.drop p).drop s.1 := by rw [List.drop_drop]; rfl
  by_cases h : s.2 ≠ 0
  · rw [if_pos h, if_pos (show (sh p s).2 ≠ 0 from h)]
  · rw [if_neg h, if_neg (show ¬ (sh p s).2 ≠ 0 from h), e]
    cases textS ((b.drop p).drop s.1) most with
    | ok q => simp [sh, Nat.add_assoc]
    | error c => simp [sh]
theorem rdTexts_sh {b : By} {p : Nat} : ∀ (n : Nat) (s : RS) (acc : List By), rdTexts b n (sh p s) acc = (sh p (rdTexts (b.drop p) n s acc).1, (rdTexts (b.drop p) n s acc).2)
  | 0, s, acc => rfl
  | n + 1, s, acc => by
    by_cases h : s.2 ≠ 0
    · rw [rdTexts_stop h, rdTexts_stop (show (sh p s).2 ≠ 0 from h)]
    · rw [rdTexts_step (show s.2 = 0 by omega), rdTexts_step (show (sh p s).2 = 0 from by show s.2 = 0; omega), rdText_sh, rdTexts_sh n]
theorem rdRaw_sh {b : By} {p n : Nat} {s : RS} (hp : p ≤ b.length) : rdRaw b n (sh p s) = (sh p (rdRaw (b.drop p) n s).1, (rdRaw (b.drop p) n s).2) := by
  unfold rdRaw
  have e : b.drop (sh p s).1 = (b.drop p).drop s.1 := by rw [List.drop_drop]; rfl
  have hl : (b.drop p).length = b.length - p := List.length_drop
  by_cases h : s.2 ≠ 0
  · rw [if_pos h, if_pos (show (sh p s).2 ≠ 0 from h)]
  · rw [if_neg h, if_neg (show ¬ (sh p s).2 ≠ 0 from h), e]
    by_cases h2 : s.1 + n ≤ (b.drop p).length
    · rw [if_pos h2, if_pos (show (sh p s).1 + n ≤ b.length by show p + s.1 + n ≤ b.length; omega)]; simp [sh, Nat.add_assoc]
    · rw [if_neg h2, if_neg (show ¬ (sh p s).1 + n ≤ b.length by show ¬ p + s.1 + n ≤ b.length; omega)]; simp [sh]
theorem rdEnd_sh {b : By} {p : Nat} {s : RS} (hp : p ≤ b.length) : rdEnd b (sh p s) = rdEnd (b.drop p) s := by
  have hl : (b.drop p).length = b.length - p := List.length_drop
  unfold rdEnd
  by_cases h : s.2 = 0 ∧ s.1 < (b.drop p).length
  · rw [if_pos h, if_pos (show (sh p s).2 = 0 ∧ (sh p s).1 < b.length from ⟨h.1, by show p + s.1 < b.length; omega⟩)]
  · rw [if_neg h, if_neg (show ¬ ((sh p s).2 = 0 ∧ (sh p s).1 < b.length) from fun h' => h ⟨h'.1, by have h2 : p + s.1 < b.length := h'.2; omega⟩)]; rfl
end Go.Relay
