/-
  What opening a parcel comes to: a reader's state, place and error; plain.
-/
import Derived.Test.YtjfifehofflaeaaSpec5
namespace Go.Relay
open Go.RowKit Go.Eng Go.Wire
set_option linter.unusedSimpArgs false
set_option linter.unusedVariables false
abbrev RS := Nat × Nat
def rdCount (b : By) (most : Nat) (s : RS) : RS × Nat :=
  if s.2 ≠ 0 then (s, 0) else match cntS (b.drop s.1) most with
    | .ok (x, k) => ((s.1 + k, 0), x)
    | .error c => ((s.1, c), 0)
def rdRaw (b : By) (n : Nat) (s : RS) : RS × By :=
  if s.2 ≠ 0 then (s, []) else if s.1 + n ≤ b.length then ((s.1 + n, 0), (b.drop s.1).take n) else ((s.1, 2), [])
def rdText (b : By) (most : Nat) (s : RS) : RS × By :=
  if s.2 ≠ 0 then (s, []) else match textS (b.drop s.1) most with
    | .ok (l, k) => ((s.1 + k, 0), l)
    | .error c => ((s.1, c), [])
def rdTexts (b : By) : Nat → RS → List By → RS × List By
  | 0, s, acc => (s, acc)
  | n + 1, s, acc => if s.2 ≠ 0 then (s, acc) else rdTexts b n (rdText b 4096 s).1 (acc ++ [(rdText b 4096 s).2])
def rdEnd (b : By) (s : RS) : Nat := if s.2 = 0 ∧ s.1 < b.length then 3 else s.2
def sc1 (b : By) : RS × Nat := rdCount b 67108864 (44, 0)
def sc2 (b : By) : RS × By := rdRaw b (sc1 b).2 (sc1 b).1
def sc3 (b : By) : RS × Nat := rdCount b 1048576 (sc2 b).1
def sc4 (b : By) : RS × List By := rdTexts b (sc3 b).2 (sc3 b).1 []
def openS (b : By) : Except Nat (By × List By) :=
  if headS b ≠ 0 then .error (headS b) else if rdEnd b (sc4 b).1 ≠ 0 then .error (rdEnd b (sc4 b).1) else .ok ((sc2 b).2, (sc4 b).2)
theorem rdTexts_stop {b : By} {n : Nat} {s : RS} {acc : List By} (h : s.2 ≠ 0) : rdTexts b n s acc = (s, acc) := by
  cases n with
  | zero => rfl
  | succ n => rw [rdTexts, if_pos h]
theorem rdTexts_step {b : By} {n : Nat} {s : RS} {acc : List By} (h : s.2 = 0) : rdTexts b (n + 1) s acc = rdTexts b n (rdText b 4096 s).1 (acc ++ [(rdText b 4096 s).2]) := by
  rw [rdTexts, if_neg (by omega)]
end Go.Relay
