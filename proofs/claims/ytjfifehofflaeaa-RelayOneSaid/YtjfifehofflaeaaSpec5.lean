/-
  A relay's parcel: plain laws.
-/
import Derived.Test.YtjfifehofflaeaaSpec4
namespace Go.Relay
open Go.RowKit Go.Eng Go.Wire
set_option linter.unusedSimpArgs false
set_option linter.unusedVariables false
def sumN (b : By) : Nat := b.foldl (fun x c => x + c.toNat) 0
theorem sumN_snoc (b : By) (c : UInt8) : sumN (b ++ [c]) = sumN b + c.toNat := by simp [sumN]
theorem fold_le : ∀ (l : By) (x : Nat), l.foldl (fun x c => x + c.toNat) x ≤ x + 255 * l.length
  | [], x => by simp
  | c :: l, x => by
    have h := fold_le l (x + c.toNat)
    have := c.toNat_lt
    simp only [List.foldl_cons, List.length_cons]
    omega
theorem sumN_le (b : By) : sumN b ≤ 255 * b.length := by have := fold_le b 0; simpa [sumN] using this
theorem sumN_take {b : By} {i : Nat} (h : i < b.length) : sumN (b.take (i + 1)) = sumN (b.take i) + (b.getD i 0).toNat := by
  rw [List.take_add_one, List.getElem?_eq_getElem h, List.getD_eq_getElem?_getD, List.getElem?_eq_getElem h]
  exact sumN_snoc _ _
def markB : By := [80, 84, 82, 1]
/-- what is ahead of the body: nought, or the number of what is wrong -/
def headS (b : By) : Nat :=
  if b.length < 4 then 2
  else if b.take 4 ≠ markB then 4
  else if b.length < 12 then 2
  else if beN ((b.drop 4).take 8) ≠ sumN (b.drop 12) then 4
  else if b.length < 44 then 2
  else if (b.drop 12).take 32 ≠ Dig.sum (b.drop 44) then 4
  else 0
end Go.Relay
