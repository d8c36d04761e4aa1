/-
  The comparison by which the program sorts: walks that keep the world.
-/
import Derived.Test.YtjfifehofflaeaaEng17
import Derived.Test.YtjfifehofflaeaaInts1
import Derived.Test.YtjfifehofflaeaaChecked
namespace Go.Pf
open Go.RowKit Go.Eng Go.Proofs
set_option linter.unusedSimpArgs false
set_option linter.unusedVariables false
attribute [local irreducible] wpList wpQuiet wpStill wpMix wpMixE

def cmpI (a b : Int) : Int := if a < b then -1 else if b < a then 1 else 0
def orI (x y : Int) : Int := if x ≠ 0 then x else y
def inR (z : Int) : Prop := -9223372036854775808 ≤ z ∧ z ≤ 9223372036854775807
theorem inR_wf {z : Int} (h : inR z) : (Lit.int .i64 z).wf = true := by
  unfold inR at h
  simpa [Lit.wf, IntKind.min, IntKind.max, IntKind.signed, IntKind.bits] using h
theorem key_int {z : Int} (h : inR z) : keyOf Try.prog 3 (.int .i64 z) = some (.int .i64 z) := by
  have hw := inR_wf h
  simp [keyOf, Try.underlying3, mapKey, hw]
section
variable {w0 w : World} {R : List Ent}
theorem cell_or {a : Addr} {x y : Int} {i : Nat} (hx : w0.cell? (a.add 0) = some (.int .i64 x)) (hy : w0.cell? (a.add 1) = some (.int .i64 y)) (hi : i < 2) : ∀ w, Heap w0 [] w → w.cell? (a.add (i * 1)) = some (.int .i64 (if i = 0 then x else y)) := fun w H => by
  rw [Nat.mul_one]
  by_cases h : i = 0
  · subst h; exact cell_old hx w H
  · have : i = 1 := by omega
    subst this; exact cell_old hy w H
end
section
variable {w0 w : World} {R : List Ent}
-- «nan64»
theorem nan64_calls {x : Int} : Calls Try.prog 124 #[.int .i64 x] w0 fun e w' => e = .returned (.bool false) ∧ w0 = w' := by
  refine c_enter (xa := [.int .i64 x]) 6 Try.func124 rfl rfl rfl ?_
  have H := Heap.init w0
  refine wp_seq ?_
  -- R0
  refine c_region ?_
  refine L1 rfl rfl H (y_assign (v := (.bool _)) rfl rfl) ?_
  refine e_list ?_; (repeat (first | (with_reducible first | refine e_then ?_ | refine e_block ?_ | refine e_then_ret ?_ | refine e_block_ret ?_ | refine e_then_exit ?_ | refine e_block_here ?_ | refine e_then_panic ?_ | refine e_block_panic ?_) | refine e_block_on rfl ?_))
  refine wp_seq ?_
  -- R1
  refine c_region ?_
  refine L1 rfl rfl H (y_move (v := (.int .i64 _)) rfl rfl) ?_
  refine L1 rfl rfl H (y_move (v := (.int .i64 _)) rfl rfl) ?_
  refine L1 rfl rfl H (y_neqF rfl rfl rfl) ?_
  refine L1 rfl rfl H (y_assign (v := (.bool _)) rfl rfl) ?_
  refine e_list ?_; (repeat (first | (with_reducible first | refine e_then ?_ | refine e_block ?_ | refine e_then_ret ?_ | refine e_block_ret ?_ | refine e_then_exit ?_ | refine e_block_here ?_ | refine e_then_panic ?_ | refine e_block_panic ?_) | refine e_block_on rfl ?_))
  refine wp_ret ?_; (repeat (first | (with_reducible first | refine e_then ?_ | refine e_block ?_ | refine e_then_ret ?_ | refine e_block_ret ?_ | refine e_then_exit ?_ | refine e_block_here ?_ | refine e_then_panic ?_ | refine e_block_panic ?_) | refine e_block_on rfl ?_))
  refine r_1 (v := (.bool _)) rfl rfl ?_
  exact ⟨rfl, rfl⟩
-- »nan64
-- «nanI»
theorem nanI_calls {x : Int} : Calls Try.prog 125 #[.int .i64 x] w0 fun e w' => e = .returned (.bool false) ∧ w0 = w' := by
  refine c_enter (xa := [.int .i64 x]) 6 Try.func125 rfl rfl rfl ?_
  have H := Heap.init w0
  refine wp_seq ?_
  -- R0
  refine c_region ?_
  refine L1 rfl rfl H (y_assign (v := (.bool _)) rfl rfl) ?_
  refine e_list ?_; (repeat (first | (with_reducible first | refine e_then ?_ | refine e_block ?_ | refine e_then_ret ?_ | refine e_block_ret ?_ | refine e_then_exit ?_ | refine e_block_here ?_ | refine e_then_panic ?_ | refine e_block_panic ?_) | refine e_block_on rfl ?_))
  refine wp_seq ?_
  -- R1
  refine c_region ?_
  refine L1 rfl rfl H (y_move (v := (.int .i64 _)) rfl rfl) ?_
  refine L1 rfl rfl H (y_move (v := (.int .i64 _)) rfl rfl) ?_
  refine L1 rfl rfl H (y_neqF rfl rfl rfl) ?_
  refine L1 rfl rfl H (y_assign (v := (.bool _)) rfl rfl) ?_
  refine e_list ?_; (repeat (first | (with_reducible first | refine e_then ?_ | refine e_block ?_ | refine e_then_ret ?_ | refine e_block_ret ?_ | refine e_then_exit ?_ | refine e_block_here ?_ | refine e_then_panic ?_ | refine e_block_panic ?_) | refine e_block_on rfl ?_))
  refine wp_ret ?_; (repeat (first | (with_reducible first | refine e_then ?_ | refine e_block ?_ | refine e_then_ret ?_ | refine e_block_ret ?_ | refine e_then_exit ?_ | refine e_block_here ?_ | refine e_then_panic ?_ | refine e_block_panic ?_) | refine e_block_on rfl ?_))
  refine r_1 (v := (.bool _)) rfl rfl ?_
  exact ⟨rfl, rfl⟩
-- »nanI
-- «cmp64»
theorem cmp64_calls {a b : Int} : Calls Try.prog 73 #[.int .i64 a, .int .i64 b] w0 fun e w' => e = .returned (.int .i64 (cmpI a b)) ∧ w0 = w' := by
  refine c_enter (xa := [.int .i64 a, .int .i64 b]) 20 Try.func73 rfl rfl rfl ?_
  have H := Heap.init w0
  refine wp_seq ?_
  -- R0
  refine c_region ?_
  refine L1 rfl rfl H (y_assign (v := (.int .i64 _)) rfl rfl) ?_
  refine e_list ?_; (repeat (first | (with_reducible first | refine e_then ?_ | refine e_block ?_ | refine e_then_ret ?_ | refine e_block_ret ?_ | refine e_then_exit ?_ | refine e_block_here ?_ | refine e_then_panic ?_ | refine e_block_panic ?_) | refine e_block_on rfl ?_))
  refine wp_seq ?_
  -- R1
  refine c_region ?_
  refine L1 rfl rfl H (y_move (v := (.int .i64 _)) rfl rfl) ?_
  refine Lfn rfl rfl rfl (xa := [(.int .i64 _)]) rfl Try.call124 ?_   -- cmp.isNaN[int64]
  refine nan64_calls.mono ?_
  rintro e w' ⟨rfl, rfl⟩
  refine ⟨.bool false, rfl, ?_⟩
  refine L1 rfl rfl H (y_assign (v := (.bool _)) rfl rfl) ?_
  refine e_list ?_; (repeat (first | (with_reducible first | refine e_then ?_ | refine e_block ?_ | refine e_then_ret ?_ | refine e_block_ret ?_ | refine e_then_exit ?_ | refine e_block_here ?_ | refine e_then_panic ?_ | refine e_block_panic ?_) | refine e_block_on rfl ?_))
  refine wp_seq ?_
  -- R2
  refine c_region ?_
  refine L1 rfl rfl H (y_move (v := (.int .i64 _)) rfl rfl) ?_
  refine Lfn rfl rfl rfl (xa := [(.int .i64 _)]) rfl Try.call124 ?_   -- cmp.isNaN[int64]
  refine nan64_calls.mono ?_
  rintro e w' ⟨rfl, rfl⟩
  refine ⟨.bool false, rfl, ?_⟩
  refine L1 rfl rfl H (y_assign (v := (.bool _)) rfl rfl) ?_
  refine e_list ?_; (repeat (first | (with_reducible first | refine e_then ?_ | refine e_block ?_ | refine e_then_ret ?_ | refine e_block_ret ?_ | refine e_then_exit ?_ | refine e_block_here ?_ | refine e_then_panic ?_ | refine e_block_panic ?_) | refine e_block_on rfl ?_))
  refine wp_seq ?_
  refine wp_seq ?_
  -- R3
  refine c_region ?_
  refine L1 rfl rfl H (y_move (v := (.bool _)) rfl rfl) ?_
  refine e_list ?_; (repeat (first | (with_reducible first | refine e_then ?_ | refine e_block ?_ | refine e_then_ret ?_ | refine e_block_ret ?_ | refine e_then_exit ?_ | refine e_block_here ?_ | refine e_then_panic ?_ | refine e_block_panic ?_) | refine e_block_on rfl ?_))
  refine c_f rfl ?_   -- if 0
  refine wp_skip ?_; (repeat (first | (with_reducible first | refine e_then ?_ | refine e_block ?_ | refine e_then_ret ?_ | refine e_block_ret ?_ | refine e_then_exit ?_ | refine e_block_here ?_ | refine e_then_panic ?_ | refine e_block_panic ?_) | refine e_block_on rfl ?_))
  refine wp_seq ?_
  refine wp_seq ?_
  -- R7
  refine c_region ?_
  refine L1 rfl rfl H (y_move (v := (.bool _)) rfl rfl) ?_
  refine e_list ?_; (repeat (first | (with_reducible first | refine e_then ?_ | refine e_block ?_ | refine e_then_ret ?_ | refine e_block_ret ?_ | refine e_then_exit ?_ | refine e_block_here ?_ | refine e_then_panic ?_ | refine e_block_panic ?_) | refine e_block_on rfl ?_))
  refine c_f rfl ?_   -- if 1
  refine wp_skip ?_; (repeat (first | (with_reducible first | refine e_then ?_ | refine e_block ?_ | refine e_then_ret ?_ | refine e_block_ret ?_ | refine e_then_exit ?_ | refine e_block_here ?_ | refine e_then_panic ?_ | refine e_block_panic ?_) | refine e_block_on rfl ?_))
  refine wp_seq ?_
  refine wp_seq ?_
  -- R9
  refine c_region ?_
  refine L1 rfl rfl H (y_move (v := (.int .i64 _)) rfl rfl) ?_
  refine L1 rfl rfl H (y_move (v := (.int .i64 _)) rfl rfl) ?_
  refine L1 rfl rfl H (y_lss rfl rfl rfl) ?_
  refine e_list ?_; (repeat (first | (with_reducible first | refine e_then ?_ | refine e_block ?_ | refine e_then_ret ?_ | refine e_block_ret ?_ | refine e_then_exit ?_ | refine e_block_here ?_ | refine e_then_panic ?_ | refine e_block_panic ?_) | refine e_block_on rfl ?_))
  refine c_if rfl (fun h2 => ?_) (fun h2 => ?_)   -- if 2
  · skip
    have he : cmpI a b = -1 := if_pos h2
    refine wp_seq ?_
    -- R10
    refine c_region ?_
    refine L1 rfl rfl H (y_assign (v := (.int .i64 _)) rfl rfl) ?_
    refine e_list ?_; (repeat (first | (with_reducible first | refine e_then ?_ | refine e_block ?_ | refine e_then_ret ?_ | refine e_block_ret ?_ | refine e_then_exit ?_ | refine e_block_here ?_ | refine e_then_panic ?_ | refine e_block_panic ?_) | refine e_block_on rfl ?_))
    refine wp_ret ?_; (repeat (first | (with_reducible first | refine e_then ?_ | refine e_block ?_ | refine e_then_ret ?_ | refine e_block_ret ?_ | refine e_then_exit ?_ | refine e_block_here ?_ | refine e_then_panic ?_ | refine e_block_panic ?_) | refine e_block_on rfl ?_))
    refine r_1 (v := (.int .i64 _)) rfl rfl ?_
    rw [he]
    exact ⟨rfl, rfl⟩
  · skip
    refine wp_skip ?_; (repeat (first | (with_reducible first | refine e_then ?_ | refine e_block ?_ | refine e_then_ret ?_ | refine e_block_ret ?_ | refine e_then_exit ?_ | refine e_block_here ?_ | refine e_then_panic ?_ | refine e_block_panic ?_) | refine e_block_on rfl ?_))
    refine wp_seq ?_
    refine wp_seq ?_
    -- R11
    refine c_region ?_
    refine L1 rfl rfl H (y_move (v := (.int .i64 _)) rfl rfl) ?_
    refine L1 rfl rfl H (y_move (v := (.int .i64 _)) rfl rfl) ?_
    refine L1 rfl rfl H (y_gtr rfl rfl rfl) ?_
    refine e_list ?_; (repeat (first | (with_reducible first | refine e_then ?_ | refine e_block ?_ | refine e_then_ret ?_ | refine e_block_ret ?_ | refine e_then_exit ?_ | refine e_block_here ?_ | refine e_then_panic ?_ | refine e_block_panic ?_) | refine e_block_on rfl ?_))
    refine c_if rfl (fun h3 => ?_) (fun h3 => ?_)   -- if 3
    · skip
      have he : cmpI a b = 1 := by unfold cmpI; rw [if_neg h2, if_pos h3]
      refine wp_seq ?_
      -- R12
      refine c_region ?_
      refine L1 rfl rfl H (y_assign (v := (.int .i64 _)) rfl rfl) ?_
      refine e_list ?_; (repeat (first | (with_reducible first | refine e_then ?_ | refine e_block ?_ | refine e_then_ret ?_ | refine e_block_ret ?_ | refine e_then_exit ?_ | refine e_block_here ?_ | refine e_then_panic ?_ | refine e_block_panic ?_) | refine e_block_on rfl ?_))
      refine wp_ret ?_; (repeat (first | (with_reducible first | refine e_then ?_ | refine e_block ?_ | refine e_then_ret ?_ | refine e_block_ret ?_ | refine e_then_exit ?_ | refine e_block_here ?_ | refine e_then_panic ?_ | refine e_block_panic ?_) | refine e_block_on rfl ?_))
      refine r_1 (v := (.int .i64 _)) rfl rfl ?_
      rw [he]
      exact ⟨rfl, rfl⟩
    · skip
      have he : cmpI a b = 0 := by unfold cmpI; rw [if_neg h2, if_neg h3]
      refine wp_skip ?_; (repeat (first | (with_reducible first | refine e_then ?_ | refine e_block ?_ | refine e_then_ret ?_ | refine e_block_ret ?_ | refine e_then_exit ?_ | refine e_block_here ?_ | refine e_then_panic ?_ | refine e_block_panic ?_) | refine e_block_on rfl ?_))
      refine wp_seq ?_
      -- R13
      refine c_region ?_
      refine L1 rfl rfl H (y_assign (v := (.int .i64 _)) rfl rfl) ?_
      refine e_list ?_; (repeat (first | (with_reducible first | refine e_then ?_ | refine e_block ?_ | refine e_then_ret ?_ | refine e_block_ret ?_ | refine e_then_exit ?_ | refine e_block_here ?_ | refine e_then_panic ?_ | refine e_block_panic ?_) | refine e_block_on rfl ?_))
      refine wp_ret ?_; (repeat (first | (with_reducible first | refine e_then ?_ | refine e_block ?_ | refine e_then_ret ?_ | refine e_block_ret ?_ | refine e_then_exit ?_ | refine e_block_here ?_ | refine e_then_panic ?_ | refine e_block_panic ?_) | refine e_block_on rfl ?_))
      refine r_1 (v := (.int .i64 _)) rfl rfl ?_
      rw [he]
      exact ⟨rfl, rfl⟩
-- »cmp64
-- «cmpInt»
theorem cmpInt_calls {a b : Int} : Calls Try.prog 74 #[.int .i64 a, .int .i64 b] w0 fun e w' => e = .returned (.int .i64 (cmpI a b)) ∧ w0 = w' := by
  refine c_enter (xa := [.int .i64 a, .int .i64 b]) 20 Try.func74 rfl rfl rfl ?_
  have H := Heap.init w0
  refine wp_seq ?_
  -- R0
  refine c_region ?_
  refine L1 rfl rfl H (y_assign (v := (.int .i64 _)) rfl rfl) ?_
  refine e_list ?_; (repeat (first | (with_reducible first | refine e_then ?_ | refine e_block ?_ | refine e_then_ret ?_ | refine e_block_ret ?_ | refine e_then_exit ?_ | refine e_block_here ?_ | refine e_then_panic ?_ | refine e_block_panic ?_) | refine e_block_on rfl ?_))
  refine wp_seq ?_
  -- R1
  refine c_region ?_
  refine L1 rfl rfl H (y_move (v := (.int .i64 _)) rfl rfl) ?_
  refine Lfn rfl rfl rfl (xa := [(.int .i64 _)]) rfl Try.call125 ?_   -- cmp.isNaN[int]
  refine nanI_calls.mono ?_
  rintro e w' ⟨rfl, rfl⟩
  refine ⟨.bool false, rfl, ?_⟩
  refine L1 rfl rfl H (y_assign (v := (.bool _)) rfl rfl) ?_
  refine e_list ?_; (repeat (first | (with_reducible first | refine e_then ?_ | refine e_block ?_ | refine e_then_ret ?_ | refine e_block_ret ?_ | refine e_then_exit ?_ | refine e_block_here ?_ | refine e_then_panic ?_ | refine e_block_panic ?_) | refine e_block_on rfl ?_))
  refine wp_seq ?_
  -- R2
  refine c_region ?_
  refine L1 rfl rfl H (y_move (v := (.int .i64 _)) rfl rfl) ?_
  refine Lfn rfl rfl rfl (xa := [(.int .i64 _)]) rfl Try.call125 ?_   -- cmp.isNaN[int]
  refine nanI_calls.mono ?_
  rintro e w' ⟨rfl, rfl⟩
  refine ⟨.bool false, rfl, ?_⟩
  refine L1 rfl rfl H (y_assign (v := (.bool _)) rfl rfl) ?_
  refine e_list ?_; (repeat (first | (with_reducible first | refine e_then ?_ | refine e_block ?_ | refine e_then_ret ?_ | refine e_block_ret ?_ | refine e_then_exit ?_ | refine e_block_here ?_ | refine e_then_panic ?_ | refine e_block_panic ?_) | refine e_block_on rfl ?_))
  refine wp_seq ?_
  refine wp_seq ?_
  -- R3
  refine c_region ?_
  refine L1 rfl rfl H (y_move (v := (.bool _)) rfl rfl) ?_
  refine e_list ?_; (repeat (first | (with_reducible first | refine e_then ?_ | refine e_block ?_ | refine e_then_ret ?_ | refine e_block_ret ?_ | refine e_then_exit ?_ | refine e_block_here ?_ | refine e_then_panic ?_ | refine e_block_panic ?_) | refine e_block_on rfl ?_))
  refine c_f rfl ?_   -- if 0
  refine wp_skip ?_; (repeat (first | (with_reducible first | refine e_then ?_ | refine e_block ?_ | refine e_then_ret ?_ | refine e_block_ret ?_ | refine e_then_exit ?_ | refine e_block_here ?_ | refine e_then_panic ?_ | refine e_block_panic ?_) | refine e_block_on rfl ?_))
  refine wp_seq ?_
  refine wp_seq ?_
  -- R7
  refine c_region ?_
  refine L1 rfl rfl H (y_move (v := (.bool _)) rfl rfl) ?_
  refine e_list ?_; (repeat (first | (with_reducible first | refine e_then ?_ | refine e_block ?_ | refine e_then_ret ?_ | refine e_block_ret ?_ | refine e_then_exit ?_ | refine e_block_here ?_ | refine e_then_panic ?_ | refine e_block_panic ?_) | refine e_block_on rfl ?_))
  refine c_f rfl ?_   -- if 1
  refine wp_skip ?_; (repeat (first | (with_reducible first | refine e_then ?_ | refine e_block ?_ | refine e_then_ret ?_ | refine e_block_ret ?_ | refine e_then_exit ?_ | refine e_block_here ?_ | refine e_then_panic ?_ | refine e_block_panic ?_) | refine e_block_on rfl ?_))
  refine wp_seq ?_
  refine wp_seq ?_
  -- R9
  refine c_region ?_
  refine L1 rfl rfl H (y_move (v := (.int .i64 _)) rfl rfl) ?_
  refine L1 rfl rfl H (y_move (v := (.int .i64 _)) rfl rfl) ?_
  refine L1 rfl rfl H (y_lss rfl rfl rfl) ?_
  refine e_list ?_; (repeat (first | (with_reducible first | refine e_then ?_ | refine e_block ?_ | refine e_then_ret ?_ | refine e_block_ret ?_ | refine e_then_exit ?_ | refine e_block_here ?_ | refine e_then_panic ?_ | refine e_block_panic ?_) | refine e_block_on rfl ?_))
  refine c_if rfl (fun h2 => ?_) (fun h2 => ?_)   -- if 2
  · skip
    have he : cmpI a b = -1 := if_pos h2
    refine wp_seq ?_
    -- R10
    refine c_region ?_
    refine L1 rfl rfl H (y_assign (v := (.int .i64 _)) rfl rfl) ?_
    refine e_list ?_; (repeat (first | (with_reducible first | refine e_then ?_ | refine e_block ?_ | refine e_then_ret ?_ | refine e_block_ret ?_ | refine e_then_exit ?_ | refine e_block_here ?_ | refine e_then_panic ?_ | refine e_block_panic ?_) | refine e_block_on rfl ?_))
    refine wp_ret ?_; (repeat (first | (with_reducible first | refine e_then ?_ | refine e_block ?_ | refine e_then_ret ?_ | refine e_block_ret ?_ | refine e_then_exit ?_ | refine e_block_here ?_ | refine e_then_panic ?_ | refine e_block_panic ?_) | refine e_block_on rfl ?_))
    refine r_1 (v := (.int .i64 _)) rfl rfl ?_
    rw [he]
    exact ⟨rfl, rfl⟩
  · skip
    refine wp_skip ?_; (repeat (first | (with_reducible first | refine e_then ?_ | refine e_block ?_ | refine e_then_ret ?_ | refine e_block_ret ?_ | refine e_then_exit ?_ | refine e_block_here ?_ | refine e_then_panic ?_ | refine e_block_panic ?_) | refine e_block_on rfl ?_))
    refine wp_seq ?_
    refine wp_seq ?_
    -- R11
    refine c_region ?_
    refine L1 rfl rfl H (y_move (v := (.int .i64 _)) rfl rfl) ?_
    refine L1 rfl rfl H (y_move (v := (.int .i64 _)) rfl rfl) ?_
    refine L1 rfl rfl H (y_gtr rfl rfl rfl) ?_
    refine e_list ?_; (repeat (first | (with_reducible first | refine e_then ?_ | refine e_block ?_ | refine e_then_ret ?_ | refine e_block_ret ?_ | refine e_then_exit ?_ | refine e_block_here ?_ | refine e_then_panic ?_ | refine e_block_panic ?_) | refine e_block_on rfl ?_))
    refine c_if rfl (fun h3 => ?_) (fun h3 => ?_)   -- if 3
    · skip
      have he : cmpI a b = 1 := by unfold cmpI; rw [if_neg h2, if_pos h3]
      refine wp_seq ?_
      -- R12
      refine c_region ?_
      refine L1 rfl rfl H (y_assign (v := (.int .i64 _)) rfl rfl) ?_
      refine e_list ?_; (repeat (first | (with_reducible first | refine e_then ?_ | refine e_block ?_ | refine e_then_ret ?_ | refine e_block_ret ?_ | refine e_then_exit ?_ | refine e_block_here ?_ | refine e_then_panic ?_ | refine e_block_panic ?_) | refine e_block_on rfl ?_))
      refine wp_ret ?_; (repeat (first | (with_reducible first | refine e_then ?_ | refine e_block ?_ | refine e_then_ret ?_ | refine e_block_ret ?_ | refine e_then_exit ?_ | refine e_block_here ?_ | refine e_then_panic ?_ | refine e_block_panic ?_) | refine e_block_on rfl ?_))
      refine r_1 (v := (.int .i64 _)) rfl rfl ?_
      rw [he]
      exact ⟨rfl, rfl⟩
    · skip
      have he : cmpI a b = 0 := by unfold cmpI; rw [if_neg h2, if_neg h3]
      refine wp_skip ?_; (repeat (first | (with_reducible first | refine e_then ?_ | refine e_block ?_ | refine e_then_ret ?_ | refine e_block_ret ?_ | refine e_then_exit ?_ | refine e_block_here ?_ | refine e_then_panic ?_ | refine e_block_panic ?_) | refine e_block_on rfl ?_))
      refine wp_seq ?_
      -- R13
      refine c_region ?_
      refine L1 rfl rfl H (y_assign (v := (.int .i64 _)) rfl rfl) ?_
      refine e_list ?_; (repeat (first | (with_reducible first | refine e_then ?_ | refine e_block ?_ | refine e_then_ret ?_ | refine e_block_ret ?_ | refine e_then_exit ?_ | refine e_block_here ?_ | refine e_then_panic ?_ | refine e_block_panic ?_) | refine e_block_on rfl ?_))
      refine wp_ret ?_; (repeat (first | (with_reducible first | refine e_then ?_ | refine e_block ?_ | refine e_then_ret ?_ | refine e_block_ret ?_ | refine e_then_exit ?_ | refine e_block_here ?_ | refine e_then_panic ?_ | refine e_block_panic ?_) | refine e_block_on rfl ?_))
      refine r_1 (v := (.int .i64 _)) rfl rfl ?_
      rw [he]
      exact ⟨rfl, rfl⟩
-- »cmpInt
-- «or»
theorem or_calls {a : Addr} {x y : Int} (hx : w0.cell? (a.add 0) = some (.int .i64 x)) (hy : w0.cell? (a.add 1) = some (.int .i64 y)) :
    Calls Try.prog 72 #[.slice (some a) 2 2] w0 fun e w' => e = .returned (.int .i64 (orI x y)) ∧ w0 = w' := by
  refine c_enter (xa := [.slice (some a) 2 2]) 18 Try.func72 rfl rfl rfl ?_
  have H := Heap.init w0
  refine wp_seq ?_
  -- R0
  refine c_region ?_
  refine L1 rfl rfl H (y_assign (v := (.int .i64 _)) rfl rfl) ?_
  refine e_list ?_; (repeat (first | (with_reducible first | refine e_then ?_ | refine e_block ?_ | refine e_then_ret ?_ | refine e_block_ret ?_ | refine e_then_exit ?_ | refine e_block_here ?_ | refine e_then_panic ?_ | refine e_block_panic ?_) | refine e_block_on rfl ?_))
  refine wp_seq ?_
  -- R1
  refine c_region ?_
  refine L1 rfl rfl H (y_assign (v := (.int .i64 _)) rfl rfl) ?_
  refine e_list ?_; (repeat (first | (with_reducible first | refine e_then ?_ | refine e_block ?_ | refine e_then_ret ?_ | refine e_block_ret ?_ | refine e_then_exit ?_ | refine e_block_here ?_ | refine e_then_panic ?_ | refine e_block_panic ?_) | refine e_block_on rfl ?_))
  refine wp_seq ?_
  refine wp_seq ?_
  -- R2
  refine c_region ?_
  refine L1 rfl rfl H (y_move (v := (.slice _ _ _)) rfl rfl) ?_
  refine L1 rfl rfl H (y_len_slice rfl rfl Try.underlying46) ?_
  refine L1 rfl rfl H (y_move (v := (.int .i64 _)) rfl rfl) ?_
  refine e_list ?_; (repeat (first | (with_reducible first | refine e_then ?_ | refine e_block ?_ | refine e_then_ret ?_ | refine e_block_ret ?_ | refine e_then_exit ?_ | refine e_block_here ?_ | refine e_then_panic ?_ | refine e_block_panic ?_) | refine e_block_on rfl ?_))
  refine wp_block ?_   -- block 0
  refine c_loop (ι := Nat) (fun i f w => (∃ gx, f = ov [(3, .int .i64 0), (6, .slice (some a) 2 2), (7, .int .i64 ((2 : Nat) : Int)), (8, .int .i64 (i : Nat))] gx) ∧ Heap w0 ([]) w ∧ w0 = w ∧ i ≤ 2 ∧ (0 < i → x = 0) ∧ (1 < i → y = 0)) (fun i => 2 - i) 0 ?_ ?_
  · exact ⟨ov_ex _ ⟨rfl, rfl, rfl, rfl, trivial⟩, H, rfl, by omega, fun h => absurd h (Nat.lt_irrefl _), fun h => absurd h (by omega)⟩
  rintro i f w ⟨⟨gg, rfl⟩, H, hw, hi, hx0, hy0⟩
  subst hw
  refine wp_seq ?_
  -- R3
  refine c_region ?_
  refine L1 rfl rfl H (y_lss rfl rfl rfl) ?_
  refine e_list ?_; (repeat (first | (with_reducible first | refine e_then ?_ | refine e_block ?_ | refine e_then_ret ?_ | refine e_block_ret ?_ | refine e_then_exit ?_ | refine e_block_here ?_ | refine e_then_panic ?_ | refine e_block_panic ?_) | refine e_block_on rfl ?_))
  refine wp_seq ?_
  refine c_if rfl (fun h0 => ?_) (fun h0 => ?_)   -- if 0
  · skip
    refine wp_skip ?_; (repeat (first | (with_reducible first | refine e_then ?_ | refine e_block ?_ | refine e_then_ret ?_ | refine e_block_ret ?_ | refine e_then_exit ?_ | refine e_block_here ?_ | refine e_then_panic ?_ | refine e_block_panic ?_) | refine e_block_on rfl ?_))
    refine wp_seq ?_
    refine wp_block ?_   -- block 1
    refine wp_seq ?_
    -- R4
    refine c_region ?_
    refine L1 rfl rfl H (y_indexSl rfl rfl rfl Try.underlying46 Try.sizeOf3 (by omega) (by omega)) ?_
    refine L1 rfl rfl H (y_load (v := .int .i64 (if i = 0 then x else y)) rfl rfl Try.isAgg3 (cell_or hx hy (by omega))) ?_
    refine L1 rfl rfl H (y_assign (v := (.int .i64 _)) rfl rfl) ?_
    refine e_list ?_; (repeat (first | (with_reducible first | refine e_then ?_ | refine e_block ?_ | refine e_then_ret ?_ | refine e_block_ret ?_ | refine e_then_exit ?_ | refine e_block_here ?_ | refine e_then_panic ?_ | refine e_block_panic ?_) | refine e_block_on rfl ?_))
    refine wp_seq ?_
    -- R5
    refine c_region ?_
    refine L1 rfl rfl H (y_move (v := (.int .i64 _)) rfl rfl) ?_
    refine L1 rfl rfl H (y_move (v := (.int .i64 _)) rfl rfl) ?_
    refine L1 rfl rfl H (y_neq rfl rfl rfl) ?_
    refine e_list ?_; (repeat (first | (with_reducible first | refine e_then ?_ | refine e_block ?_ | refine e_then_ret ?_ | refine e_block_ret ?_ | refine e_then_exit ?_ | refine e_block_here ?_ | refine e_then_panic ?_ | refine e_block_panic ?_) | refine e_block_on rfl ?_))
    refine c_if rfl (fun h1 => ?_) (fun h1 => ?_)   -- if 1
    · skip
      have he : orI x y = (if i = 0 then x else y) := by
        unfold orI
        by_cases h : i = 0
        · rw [if_pos h] at h1 ⊢; rw [if_pos h1]
        · rw [if_neg h, hx0 (by omega), if_neg (by simp)]
      refine wp_seq ?_
      -- R6
      refine c_region ?_
      refine L1 rfl rfl H (y_move (v := (.int .i64 _)) rfl rfl) ?_
      refine L1 rfl rfl H (y_assign (v := (.int .i64 _)) rfl rfl) ?_
      refine e_list ?_; (repeat (first | (with_reducible first | refine e_then ?_ | refine e_block ?_ | refine e_then_ret ?_ | refine e_block_ret ?_ | refine e_then_exit ?_ | refine e_block_here ?_ | refine e_then_panic ?_ | refine e_block_panic ?_) | refine e_block_on rfl ?_))
      refine wp_ret ?_; (repeat (first | (with_reducible first | refine e_then ?_ | refine e_block ?_ | refine e_then_ret ?_ | refine e_block_ret ?_ | refine e_then_exit ?_ | refine e_block_here ?_ | refine e_then_panic ?_ | refine e_block_panic ?_) | refine e_block_on rfl ?_))
      refine r_1 (v := (.int .i64 _)) rfl rfl ?_
      rw [he]
      exact ⟨rfl, rfl⟩
    · skip
      have hnx : 0 < i + 1 → x = 0 := fun _ => by
        by_cases h : i = 0
        · rw [if_pos h] at h1; omega
        · exact hx0 (by omega)
      have hny : 1 < i + 1 → y = 0 := fun h2 => by
        rw [if_neg (by omega)] at h1; omega
      refine wp_skip ?_; (repeat (first | (with_reducible first | refine e_then ?_ | refine e_block ?_ | refine e_then_ret ?_ | refine e_block_ret ?_ | refine e_then_exit ?_ | refine e_block_here ?_ | refine e_then_panic ?_ | refine e_block_panic ?_) | refine e_block_on rfl ?_))
      -- R7
      refine c_region ?_
      refine L1 rfl rfl H (y_add (r := ((i + 1 : Nat) : Int)) rfl rfl rfl (by rw [wr_i64 (by omega) (by omega)]; omega)) ?_
      refine L1 rfl rfl H (y_move (v := (.int .i64 _)) rfl rfl) ?_
      refine e_list ?_; (repeat (first | (with_reducible first | refine e_then ?_ | refine e_block ?_ | refine e_then_ret ?_ | refine e_block_ret ?_ | refine e_then_exit ?_ | refine e_block_here ?_ | refine e_then_panic ?_ | refine e_block_panic ?_) | refine e_block_on rfl ?_))
      exact ⟨i + 1, _, rfl, ⟨ov_ex _ ⟨rfl, rfl, rfl, rfl, trivial⟩, H, rfl, by omega, hnx, hny⟩, by omega⟩
  · skip
    have he : orI x y = 0 := by unfold orI; rw [hx0 (by omega), hy0 (by omega)]; rfl
    refine wp_exit ?_; (repeat (first | (with_reducible first | refine e_then ?_ | refine e_block ?_ | refine e_then_ret ?_ | refine e_block_ret ?_ | refine e_then_exit ?_ | refine e_block_here ?_ | refine e_then_panic ?_ | refine e_block_panic ?_) | refine e_block_on rfl ?_))
    refine wp_seq ?_
    -- R8
    refine c_region ?_
    refine L1 rfl rfl H (y_move (v := (.int .i64 _)) rfl rfl) ?_
    refine L1 rfl rfl H (y_assign (v := (.int .i64 _)) rfl rfl) ?_
    refine e_list ?_; (repeat (first | (with_reducible first | refine e_then ?_ | refine e_block ?_ | refine e_then_ret ?_ | refine e_block_ret ?_ | refine e_then_exit ?_ | refine e_block_here ?_ | refine e_then_panic ?_ | refine e_block_panic ?_) | refine e_block_on rfl ?_))
    refine wp_ret ?_; (repeat (first | (with_reducible first | refine e_then ?_ | refine e_block ?_ | refine e_then_ret ?_ | refine e_block_ret ?_ | refine e_then_exit ?_ | refine e_block_here ?_ | refine e_then_panic ?_ | refine e_block_panic ?_) | refine e_block_on rfl ?_))
    refine r_1 (v := (.int .i64 _)) rfl rfl ?_
    rw [he]
    exact ⟨rfl, rfl⟩
-- »or
-- «clo»
theorem keyedI : Maps.Keyed Try.prog 3 := Maps.int_keyed Try.underlying3
theorem clo_calls {b5 bm q : Nat} {D : DataW Unit} {cn : Int → Int} {x y : Int} (hcell : w0.cell? ⟨b5, 0, none⟩ = some (.map (some bm))) (hown : w0.ownsMap Try.prog 3 (plainElem Try.prog 2) bm q D) (hat : ∀ z, inR z → D.atKey (.int .i64 z) (.lit (.int .i64 0)) = .lit (.int .i64 (cn z))) (hx : inR x) (hy : inR y) :
    Calls Try.prog 71 #[.int .i64 x, .int .i64 y, .pointer (some ⟨b5, 0, none⟩)] w0 fun e w' => e = .returned (.int .i64 (orI (cmpI (cn y) (cn x)) (cmpI x y))) ∧ ∃ o, w' = w0.alloc o := by
  refine c_enter (xa := [.int .i64 x, .int .i64 y, .pointer (some ⟨b5, 0, none⟩)]) 18 Try.func71 rfl rfl rfl ?_
  have H := Heap.init w0
  refine wp_seq ?_
  -- R0
  refine c_region ?_
  refine L1 rfl rfl H (y_assign (v := (.int .i64 _)) rfl rfl) ?_
  refine e_list ?_; (repeat (first | (with_reducible first | refine e_then ?_ | refine e_block ?_ | refine e_then_ret ?_ | refine e_block_ret ?_ | refine e_then_exit ?_ | refine e_block_here ?_ | refine e_then_panic ?_ | refine e_block_panic ?_) | refine e_block_on rfl ?_))
  refine wp_seq ?_
  -- R1
  refine c_region ?_
  refine L1 rfl rfl H (y_load (v := .map (some bm)) rfl rfl Try.isAgg108 (cell_old hcell)) ?_
  refine L1 rfl rfl H (y_move (v := (.int .i64 _)) rfl rfl) ?_
  refine L1 rfl rfl H (y_lookup (key := .int .i64 y) rfl rfl rfl keyedI Try.underlying108 Try.underlying2 Try.zeroValue2 (key_int hy) (fun w H => ownsMap_old hown H) (hat y hy)) ?_
  refine L1 rfl rfl H (y_load (v := .map (some bm)) rfl rfl Try.isAgg108 (cell_old hcell)) ?_
  refine L1 rfl rfl H (y_move (v := (.int .i64 _)) rfl rfl) ?_
  refine L1 rfl rfl H (y_lookup (key := .int .i64 x) rfl rfl rfl keyedI Try.underlying108 Try.underlying2 Try.zeroValue2 (key_int hx) (fun w H => ownsMap_old hown H) (hat x hx)) ?_
  refine Lfn rfl rfl rfl (xa := [(.int .i64 _), (.int .i64 _)]) rfl Try.call73 ?_   -- cmp.Compare[int64]
  refine cmp64_calls.mono ?_
  rintro e w' ⟨rfl, rfl⟩
  refine ⟨_, rfl, ?_⟩
  refine L1 rfl rfl H (y_move (v := (.int .i64 _)) rfl rfl) ?_
  refine L1 rfl rfl H (y_move (v := (.int .i64 _)) rfl rfl) ?_
  refine Lfn rfl rfl rfl (xa := [(.int .i64 _), (.int .i64 _)]) rfl Try.call74 ?_   -- cmp.Compare[int]
  refine cmpInt_calls.mono ?_
  rintro e w' ⟨rfl, rfl⟩
  refine ⟨_, rfl, ?_⟩
  refine Lw rfl rfl (v := .slice (some ⟨w0.heap.size, 0, none⟩) 2 2) (w' := w0.alloc (.cells #[.int .i64 (cmpI (cn y) (cn x)), .int .i64 (cmpI x y)] 3)) (by simp [execOp, Instr.buildSlice, Instr.fill, go_sem] <;> rfl) ?_
  replace H := H.alloc (.cells #[.int .i64 (cmpI (cn y) (cn x)), .int .i64 (cmpI x y)] 3)
  refine Lfn rfl rfl rfl (xa := [.slice (some ⟨w0.heap.size, 0, none⟩) 2 2]) rfl Try.call72 ?_   -- cmp.Or[int]
  refine (or_calls (x := cmpI (cn y) (cn x)) (y := cmpI x y) (cell_blkA (k := 0) (e := 3) (cs := [.int .i64 (cmpI (cn y) (cn x)), .int .i64 (cmpI x y)]) rfl rfl rfl _ H) (cell_blkA (k := 0) (e := 3) (cs := [.int .i64 (cmpI (cn y) (cn x)), .int .i64 (cmpI x y)]) rfl rfl rfl _ H)).mono ?_
  rintro e w' ⟨rfl, rfl⟩
  refine ⟨_, rfl, ?_⟩
  refine L1 rfl rfl H (y_assign (v := (.int .i64 _)) rfl rfl) ?_
  refine e_list ?_; (repeat (first | (with_reducible first | refine e_then ?_ | refine e_block ?_ | refine e_then_ret ?_ | refine e_block_ret ?_ | refine e_then_exit ?_ | refine e_block_here ?_ | refine e_then_panic ?_ | refine e_block_panic ?_) | refine e_block_on rfl ?_))
  refine wp_ret ?_; (repeat (first | (with_reducible first | refine e_then ?_ | refine e_block ?_ | refine e_then_ret ?_ | refine e_block_ret ?_ | refine e_then_exit ?_ | refine e_block_here ?_ | refine e_then_panic ?_ | refine e_block_panic ?_) | refine e_block_on rfl ?_))
  refine r_1 (v := (.int .i64 _)) rfl rfl ?_
  exact ⟨rfl, _, rfl⟩
-- »clo
end
end Go.Pf
