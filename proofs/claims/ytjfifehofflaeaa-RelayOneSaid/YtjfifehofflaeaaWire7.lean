/-
  The reader's calls, as plain functions of the reader's state.
-/
import Derived.Test.YtjfifehofflaeaaWire6
import Derived.Test.YtjfifehofflaeaaSpec6
namespace Go.Relay
open Go.RowKit Go.Eng Go.Proofs Go.Wire
set_option linter.unusedSimpArgs false
set_option linter.unusedVariables false
section
variable {w0 w : World} {R : List Ent} {g : Nat} {A : Option Addr} {cap : Nat} {b : By} {s : RS}
abbrev rds (w0 : World) (g : Nat) (A : Option Addr) (cap : Nat) (b : By) (s : RS) (R : List Ent) : List Ent := rdr w0 g A cap b s.1 (s.2 : Nat) R
theorem rCount {most : Nat} (hm : most ≤ 4611686018427387904) (H : Heap w0 (rds w0 g A cap b s R) w) (hcap : b.length ≤ cap) (hb : b.length ≤ 140737488355328) (hat : s.1 ≤ b.length) :
    Calls Try.prog 55 #[.pointer (some ⟨g, 0, none⟩), .int .i64 (most : Nat)] w fun e w' => e = .returned (.int .i64 ((rdCount b most s).2 : Nat)) ∧ (rdCount b most s).1.1 ≤ b.length ∧ (rdCount b most s).2 ≤ most ∧ Heap w0 (rds w0 g A cap b (rdCount b most s).1 R) w' := by
  refine (count_reads hm H hcap hb hat).mono ?_
  rintro e w' ⟨a', er, x, rfl, hle, ⟨h0, rfl, k, hk, rfl⟩ | ⟨h0, rfl, rfl, ⟨hne, rfl⟩ | ⟨h1, c, rfl, hc⟩⟩, H⟩
  · have hs : s.2 = 0 := by omega
    have e1 : rdCount b most s = ((s.1 + k, 0), x) := by unfold rdCount; rw [if_neg (by omega), hk]
    rw [e1]; exact ⟨rfl, hle, (cntS_ok hk).2.1, H⟩
  · have e1 : rdCount b most s = (s, 0) := by unfold rdCount; rw [if_pos (by omega)]
    rw [e1]; exact ⟨rfl, hle, Nat.zero_le _, H⟩
  · have e1 : rdCount b most s = ((s.1, c), 0) := by unfold rdCount; rw [if_neg (by omega), hc]
    rw [e1]; exact ⟨rfl, hle, Nat.zero_le _, H⟩
theorem rRaw {n : Nat} (hn : n ≤ 9223372036854775807) (H : Heap w0 (rds w0 g A cap b s R) w) (hcap : b.length ≤ cap) (hb : b.length ≤ 140737488355328) (hat : s.1 ≤ b.length) :
    Calls Try.prog 54 #[.pointer (some ⟨g, 0, none⟩), .int .i64 (n : Nat)] w fun e w' => ∃ A1 c1, e = .returned (.slice A1 (rdRaw b n s).2.length c1) ∧ (rdRaw b n s).2.length ≤ c1 ∧ (rdRaw b n s).1.1 ≤ b.length ∧
      Heap w0 (rds w0 g A cap b (rdRaw b n s).1 (rowB w0 A1 c1 (rdRaw b n s).2 :: R)) w' := by
  refine (rawN_calls hn H hcap hb hat).mono ?_
  rintro e w' ⟨a', er, A1, c1, l1, rfl, hc1, hle, ⟨h0, rfl, hn1, rfl, rfl⟩ | ⟨h0, rfl, rfl, ⟨hne, rfl⟩ | ⟨h1, rfl, hn1⟩⟩, H⟩
  · have e1 : rdRaw b n s = ((s.1 + n, 0), (b.drop s.1).take n) := by unfold rdRaw; rw [if_neg (by omega), if_pos hn1]
    rw [e1]; exact ⟨A1, c1, rfl, hc1, hle, H⟩
  · have e1 : rdRaw b n s = (s, []) := by unfold rdRaw; rw [if_pos (by omega)]
    rw [e1]; exact ⟨A1, c1, rfl, hc1, hle, H⟩
  · have e1 : rdRaw b n s = ((s.1, 2), []) := by unfold rdRaw; rw [if_neg (by omega), if_neg (by omega)]
    rw [e1]; exact ⟨A1, c1, rfl, hc1, hle, H⟩
theorem rText {most : Nat} (hm : most ≤ 4611686018427387904) (H : Heap w0 (rds w0 g A cap b s R) w) (hcap : b.length ≤ cap) (hb : b.length ≤ 140737488355328) (hat : s.1 ≤ b.length) :
    Calls Try.prog 57 #[.pointer (some ⟨g, 0, none⟩), .int .i64 (most : Nat)] w fun e w' => e = .returned (.string ⟨(rdText b most s).2.toArray⟩) ∧ (rdText b most s).1.1 ≤ b.length ∧ Heap w0 (rds w0 g A cap b (rdText b most s).1 R) w' := by
  refine (text_reads hm H hcap hb hat).mono ?_
  rintro e w' ⟨a', er, l, rfl, hle, ⟨h0, rfl, k, hk, rfl⟩ | ⟨h0, rfl, rfl, ⟨hne, rfl⟩ | ⟨h1, c, rfl, hc⟩⟩, H⟩
  · have e1 : rdText b most s = ((s.1 + k, 0), l) := by unfold rdText; rw [if_neg (by omega), hk]
    rw [e1]; exact ⟨rfl, hle, H⟩
  · have e1 : rdText b most s = (s, []) := by unfold rdText; rw [if_pos (by omega)]
    rw [e1]; exact ⟨rfl, hle, H⟩
  · have e1 : rdText b most s = ((s.1, c), []) := by unfold rdText; rw [if_neg (by omega), hc]
    rw [e1]; exact ⟨rfl, hle, H⟩
theorem rErr (H : Heap w0 (rds w0 g A cap b s R) w) :
    Calls Try.prog 56 #[.pointer (some ⟨g, 0, none⟩)] w fun e w' => e = .returned (.int .i64 (s.2 : Nat)) ∧ Heap w0 (rds w0 g A cap b s R) w' := err_calls H
theorem rEnd (H : Heap w0 (rds w0 g A cap b s R) w) (hat : s.1 ≤ b.length) (hb : b.length ≤ 140737488355328) :
    Calls Try.prog 58 #[.pointer (some ⟨g, 0, none⟩)] w fun e w' => e = .returned (.int .i64 (rdEnd b s : Nat)) ∧ Heap w0 (rds w0 g A cap b s R) w' := by
  refine (end_calls H hat hb).mono ?_
  rintro e w' ⟨rfl, H⟩
  refine ⟨?_, H⟩
  unfold rdEnd
  by_cases h : s.2 = 0 ∧ s.1 < b.length
  · rw [if_pos h, if_pos ⟨by omega, h.2⟩]; rfl
  · rw [if_neg h, if_neg (fun h' => h ⟨by omega, h'.2⟩)]
end
end Go.Relay
