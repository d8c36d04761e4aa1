/-
  The document's answer: its reader.
-/
import Derived.Test.YtjfifehofflaeaaRel2
namespace Go.Ref
open Go.RowKit Go.Eng Go.Proofs Go.Wire Go.Relay
set_option linter.unusedSimpArgs false
set_option linter.unusedVariables false
attribute [local irreducible] wpList wpQuiet wpStill wpMix wpMixE

/-- the answer of 'number': value, bytes, error -/
def num3 (l : By) : Nat × Nat × Nat := match numS l 0 0 with
  | .ok (x, k) => (x, k, 0)
  | .error c => (0, 0, c)
theorem num3_ok {l : By} {x k : Nat} (h : numS l 0 0 = .ok (x, k)) : num3 l = (x, k, 0) := by unfold num3; rw [h]
theorem num3_err {l : By} {c : Nat} (h : numS l 0 0 = .error c) : num3 l = (0, 0, c) := by unfold num3; rw [h]
section
variable {w0 w : World} {R : List Ent} {g : Nat} {A : Option Addr} {cap : Nat} {b : By}
-- «number»
theorem number_calls {c0 at_ : Nat} (hR : Rd w0 A (b.map bv)) (hb : b.length ≤ 140737488355328) (hat : at_ ≤ b.length) :
    Calls Try.prog 140 #[.slice A b.length c0, .int .i64 (at_ : Nat)] w0 fun e w' =>
      e = .returned (.tuple #[.int .u64 ((num3 (b.drop at_)).1 : Nat), .int .i64 ((num3 (b.drop at_)).2.1 : Nat), .int .i64 ((num3 (b.drop at_)).2.2 : Nat)]) ∧ Heap w0 [] w' := by
  refine c_enter (xa := [.slice A b.length c0, .int .i64 (at_ : Nat)]) 54 Try.func140 rfl rfl rfl ?_
  have H := Heap.init w0
  refine wp_seq ?_
  -- R0
  refine c_region ?_
  refine L1 rfl rfl H (y_assign (v := (.int .u64 _)) rfl rfl) ?_
  refine L1 rfl rfl H (y_assign (v := (.int .i64 _)) rfl rfl) ?_
  refine L1 rfl rfl H (y_assign (v := (.int .i64 _)) rfl rfl) ?_
  refine e_list ?_; (repeat (first | (with_reducible first | refine e_then ?_ | refine e_block ?_ | refine e_then_ret ?_ | refine e_block_ret ?_ | refine e_then_exit ?_ | refine e_block_here ?_ | refine e_then_panic ?_ | refine e_block_panic ?_) | refine e_block_on rfl ?_))
  refine wp_seq ?_
  -- R1
  refine c_region ?_
  refine L1 rfl rfl H (y_assign (v := (.int .u64 _)) rfl rfl) ?_
  refine e_list ?_; (repeat (first | (with_reducible first | refine e_then ?_ | refine e_block ?_ | refine e_then_ret ?_ | refine e_block_ret ?_ | refine e_then_exit ?_ | refine e_block_here ?_ | refine e_then_panic ?_ | refine e_block_panic ?_) | refine e_block_on rfl ?_))
  refine wp_seq ?_
  refine wp_seq ?_
  -- R2
  refine c_region ?_
  refine L1 rfl rfl H (y_assign (v := (.int .i64 _)) rfl rfl) ?_
  refine e_list ?_; (repeat (first | (with_reducible first | refine e_then ?_ | refine e_block ?_ | refine e_then_ret ?_ | refine e_block_ret ?_ | refine e_then_exit ?_ | refine e_block_here ?_ | refine e_then_panic ?_ | refine e_block_panic ?_) | refine e_block_on rfl ?_))
  refine wp_block ?_   -- block 0
  refine c_loop (ι := Nat × Nat) (fun (i, x) f w => (∃ gx, f = ov [(0, .slice A b.length c0), (1, .int .i64 (at_ : Nat)), (7, .int .u64 (x : Nat)), (8, .int .i64 (i : Nat))] gx) ∧ Heap w0 ([]) w ∧ i ≤ 9 ∧ x < 2 ^ (7 * i) ∧ numS (b.drop at_) 0 0 = numS (b.drop (at_ + i)) i x) (fun (i, x) => 10 - i) (0, 0) ?_ ?_
  · exact ⟨ov_ex _ ⟨rfl, rfl, rfl, rfl, trivial⟩, H, by omega, by decide, rfl⟩
  rintro ⟨i, x⟩ f w ⟨⟨gg, rfl⟩, H, hi, hx, hnum⟩
  refine wp_seq ?_
  refine wp_seq ?_
  -- R3
  refine c_region ?_
  refine L1 rfl rfl H (y_move (v := (.int .i64 _)) rfl rfl) ?_
  refine L1 rfl rfl H (y_lss rfl rfl rfl) ?_
  refine e_list ?_; (repeat (first | (with_reducible first | refine e_then ?_ | refine e_block ?_ | refine e_then_ret ?_ | refine e_block_ret ?_ | refine e_then_exit ?_ | refine e_block_here ?_ | refine e_then_panic ?_ | refine e_block_panic ?_) | refine e_block_on rfl ?_))
  refine c_if rfl (fun h0 => ?_) (fun h0 => ?_)   -- if 0
  · skip
    refine wp_skip ?_; (repeat (first | (with_reducible first | refine e_then ?_ | refine e_block ?_ | refine e_then_ret ?_ | refine e_block_ret ?_ | refine e_then_exit ?_ | refine e_block_here ?_ | refine e_then_panic ?_ | refine e_block_panic ?_) | refine e_block_on rfl ?_))
    refine wp_seq ?_
    refine wp_block ?_   -- block 1
    refine wp_seq ?_
    refine wp_seq ?_
    -- R5
    refine c_region ?_
    refine L1 rfl rfl H (y_move (v := (.int .i64 _)) rfl rfl) ?_
    refine L1 rfl rfl H (y_move (v := (.int .i64 _)) rfl rfl) ?_
    refine L1 rfl rfl H (y_add (r := ((at_ + i : Nat) : Int)) rfl rfl rfl (by rw [wr_i64 (by omega) (by omega)]; omega)) ?_
    refine L1 rfl rfl H (y_move (v := (.slice _ _ _)) rfl rfl) ?_
    refine L1 rfl rfl H (y_len_slice rfl rfl Try.underlying22) ?_
    refine L1 rfl rfl H (y_geq rfl rfl rfl) ?_
    refine e_list ?_; (repeat (first | (with_reducible first | refine e_then ?_ | refine e_block ?_ | refine e_then_ret ?_ | refine e_block_ret ?_ | refine e_then_exit ?_ | refine e_block_here ?_ | refine e_then_panic ?_ | refine e_block_panic ?_) | refine e_block_on rfl ?_))
    refine c_if rfl (fun h1 => ?_) (fun h1 => ?_)   -- if 1
    · skip
      have hz : b.drop (at_ + i) = [] := List.drop_eq_nil_of_le (by omega)
      rw [hz, numS] at hnum
      refine wp_seq ?_
      -- R6
      refine c_region ?_
      refine L1 rfl rfl H (y_assign (v := (.int .u64 _)) rfl rfl) ?_
      refine L1 rfl rfl H (y_assign (v := (.int .i64 _)) rfl rfl) ?_
      refine L1 rfl rfl H (y_assign (v := (.int .i64 _)) rfl rfl) ?_
      refine e_list ?_; (repeat (first | (with_reducible first | refine e_then ?_ | refine e_block ?_ | refine e_then_ret ?_ | refine e_block_ret ?_ | refine e_then_exit ?_ | refine e_block_here ?_ | refine e_then_panic ?_ | refine e_block_panic ?_) | refine e_block_on rfl ?_))
      refine wp_ret ?_; (repeat (first | (with_reducible first | refine e_then ?_ | refine e_block ?_ | refine e_then_ret ?_ | refine e_block_ret ?_ | refine e_then_exit ?_ | refine e_block_here ?_ | refine e_then_panic ?_ | refine e_block_panic ?_) | refine e_block_on rfl ?_))
      refine r_3 (v1 := (.int .u64 _)) (v2 := (.int .i64 _)) (v3 := (.int .i64 _)) rfl rfl rfl rfl ?_
      rw [num3_err hnum]
      exact ⟨rfl, H⟩
    · skip
      have hlt : at_ + i < b.length := by omega
      obtain ⟨c, hc⟩ : ∃ c, c = b.getD (at_ + i) 0 := ⟨_, rfl⟩
      have hd : b.drop (at_ + i) = c :: b.drop (at_ + i + 1) := by rw [hc, List.drop_eq_getElem_cons hlt, List.getD_eq_getElem?_getD, List.getElem?_eq_getElem hlt]; rfl
      rw [hd, numS] at hnum
      have hc8 := c.toNat_lt
      refine wp_skip ?_; (repeat (first | (with_reducible first | refine e_then ?_ | refine e_block ?_ | refine e_then_ret ?_ | refine e_block_ret ?_ | refine e_then_exit ?_ | refine e_block_here ?_ | refine e_then_panic ?_ | refine e_block_panic ?_) | refine e_block_on rfl ?_))
      refine wp_seq ?_
      -- R7
      refine c_region ?_
      refine L1 rfl rfl H (y_move (v := (.slice _ _ _)) rfl rfl) ?_
      refine L1 rfl rfl H (y_move (v := (.int .i64 _)) rfl rfl) ?_
      refine L1 rfl rfl H (y_move (v := (.int .i64 _)) rfl rfl) ?_
      refine L1 rfl rfl H (y_add (r := ((at_ + i : Nat) : Int)) rfl rfl rfl (by rw [wr_i64 (by omega) (by omega)]; omega)) ?_
      obtain ⟨a0, rfl, _⟩ := hR.some (j := at_ + i) (by rw [List.length_map]; omega)
      refine L1 rfl rfl H (y_indexSl rfl rfl rfl Try.underlying22 Try.sizeOf5 (by omega) (by omega)) ?_
      refine L1 rfl rfl H (y_load (v := bv c) rfl rfl Try.isAgg5 (by rw [hc]; exact Dig.rd_get hR hlt)) ?_
      refine L1 rfl rfl H (y_assign (v := (.int .u8 _)) rfl rfl) ?_
      refine e_list ?_; (repeat (first | (with_reducible first | refine e_then ?_ | refine e_block ?_ | refine e_then_ret ?_ | refine e_block_ret ?_ | refine e_then_exit ?_ | refine e_block_here ?_ | refine e_then_panic ?_ | refine e_block_panic ?_) | refine e_block_on rfl ?_))
      refine wp_seq ?_
      refine c_cutR [0, 1, 7, 8, 9] 39 ((i = 9 ∧ ¬ c.toNat = 1) ∨ (0 < i ∧ c.toNat = 0)) ([]) H ?_ ?_
      · skip
        -- R8
        refine c_region ?_
        refine L1 rfl rfl H (y_move (v := (.int .i64 _)) rfl rfl) ?_
        refine L1 rfl rfl H (y_eql rfl rfl rfl) ?_
        refine L_split rfl rfl rfl rfl (fun hg8_2 => ?_) (fun hg8_2 => ?_)
        · skip
          refine L1g rfl rfl rfl rfl H (y_move (v := (.int .u8 _)) rfl rfl) ?_
          refine L1g rfl rfl rfl rfl H (y_neq rfl rfl rfl) ?_
          refine L1 rfl rfl H (y_pick (v := (.bool _)) rfl rfl rfl) ?_
          refine L_split rfl rfl rfl rfl (fun hg8_6 => ?_) (fun hg8_6 => ?_)
          · skip
            refine Lno rfl rfl rfl rfl rfl ?_
            refine Lno rfl rfl rfl rfl rfl ?_
            refine Lno rfl rfl rfl rfl rfl ?_
            refine Lno' rfl rfl rfl rfl ?_
            refine Lno' rfl rfl rfl rfl ?_
            refine Lno rfl rfl rfl rfl rfl ?_
            refine L1 rfl rfl H (y_pick (v := (.bool _)) rfl rfl rfl) ?_
            refine e_list ?_; (repeat (first | (with_reducible first | refine e_then ?_ | refine e_block ?_ | refine e_then_ret ?_ | refine e_block_ret ?_ | refine e_then_exit ?_ | refine e_block_here ?_ | refine e_then_panic ?_ | refine e_block_panic ?_) | refine e_block_on rfl ?_))
            refine ⟨_, rfl, congrArg Value.bool (decide_eq_true (by omega)).symm, ⟨rfl, rfl, rfl, rfl, rfl, trivial⟩, H⟩
          · skip
            refine L1g rfl rfl rfl rfl H (y_move (v := (.int .i64 _)) rfl rfl) ?_
            refine L1g rfl rfl rfl rfl H (y_gtr rfl rfl rfl) ?_
            refine L_splitg rfl rfl rfl rfl rfl rfl (fun hg8_9 => ?_) (fun hg8_9 => ?_)
            · skip
              refine L1g rfl rfl rfl rfl H (y_move (v := (.int .u8 _)) rfl rfl) ?_
              refine L1g rfl rfl rfl rfl H (y_eql rfl rfl rfl) ?_
              refine L1g rfl rfl rfl rfl H (y_pick (v := (.bool _)) rfl rfl rfl) ?_
              refine L1 rfl rfl H (y_pick (v := (.bool _)) rfl rfl rfl) ?_
              refine e_list ?_; (repeat (first | (with_reducible first | refine e_then ?_ | refine e_block ?_ | refine e_then_ret ?_ | refine e_block_ret ?_ | refine e_then_exit ?_ | refine e_block_here ?_ | refine e_then_panic ?_ | refine e_block_panic ?_) | refine e_block_on rfl ?_))
              refine ⟨_, rfl, congrArg Value.bool (decide_eq_decide.2 (by omega)), ⟨rfl, rfl, rfl, rfl, rfl, trivial⟩, H⟩
            · skip
              refine Lno rfl rfl rfl rfl rfl ?_
              refine Lno rfl rfl rfl rfl rfl ?_
              refine L1g rfl rfl rfl rfl H (y_pick (v := (.bool _)) rfl rfl rfl) ?_
              refine L1 rfl rfl H (y_pick (v := (.bool _)) rfl rfl rfl) ?_
              refine e_list ?_; (repeat (first | (with_reducible first | refine e_then ?_ | refine e_block ?_ | refine e_then_ret ?_ | refine e_block_ret ?_ | refine e_then_exit ?_ | refine e_block_here ?_ | refine e_then_panic ?_ | refine e_block_panic ?_) | refine e_block_on rfl ?_))
              refine ⟨_, rfl, congrArg Value.bool (decide_eq_false (by omega)).symm, ⟨rfl, rfl, rfl, rfl, rfl, trivial⟩, H⟩
        · skip
          refine Lno rfl rfl rfl rfl rfl ?_
          refine Lno rfl rfl rfl rfl rfl ?_
          refine L1 rfl rfl H (y_pick (v := (.bool _)) rfl rfl rfl) ?_
          refine L1 rfl rfl H (y_move (v := (.bool _)) rfl rfl) ?_
          refine L1g rfl rfl rfl rfl H (y_move (v := (.int .i64 _)) rfl rfl) ?_
          refine L1g rfl rfl rfl rfl H (y_gtr rfl rfl rfl) ?_
          refine L_splitg rfl rfl rfl rfl rfl rfl (fun hg8_9 => ?_) (fun hg8_9 => ?_)
          · skip
            refine L1g rfl rfl rfl rfl H (y_move (v := (.int .u8 _)) rfl rfl) ?_
            refine L1g rfl rfl rfl rfl H (y_eql rfl rfl rfl) ?_
            refine L1g rfl rfl rfl rfl H (y_pick (v := (.bool _)) rfl rfl rfl) ?_
            refine L1 rfl rfl H (y_pick (v := (.bool _)) rfl rfl rfl) ?_
            refine e_list ?_; (repeat (first | (with_reducible first | refine e_then ?_ | refine e_block ?_ | refine e_then_ret ?_ | refine e_block_ret ?_ | refine e_then_exit ?_ | refine e_block_here ?_ | refine e_then_panic ?_ | refine e_block_panic ?_) | refine e_block_on rfl ?_))
            refine ⟨_, rfl, congrArg Value.bool (decide_eq_decide.2 (by omega)), ⟨rfl, rfl, rfl, rfl, rfl, trivial⟩, H⟩
          · skip
            refine Lno rfl rfl rfl rfl rfl ?_
            refine Lno rfl rfl rfl rfl rfl ?_
            refine L1g rfl rfl rfl rfl H (y_pick (v := (.bool _)) rfl rfl rfl) ?_
            refine L1 rfl rfl H (y_pick (v := (.bool _)) rfl rfl rfl) ?_
            refine e_list ?_; (repeat (first | (with_reducible first | refine e_then ?_ | refine e_block ?_ | refine e_then_ret ?_ | refine e_block_ret ?_ | refine e_then_exit ?_ | refine e_block_here ?_ | refine e_then_panic ?_ | refine e_block_panic ?_) | refine e_block_on rfl ?_))
            refine ⟨_, rfl, congrArg Value.bool (decide_eq_false (by omega)).symm, ⟨rfl, rfl, rfl, rfl, rfl, trivial⟩, H⟩
      intro g8 w H
      refine c_if rfl (fun h2 => ?_) (fun h2 => ?_)   -- if 2
      · skip
        rw [if_pos (by omega)] at hnum
        refine wp_seq ?_
        -- R9
        refine c_region ?_
        refine L1 rfl rfl H (y_assign (v := (.int .u64 _)) rfl rfl) ?_
        refine L1 rfl rfl H (y_assign (v := (.int .i64 _)) rfl rfl) ?_
        refine L1 rfl rfl H (y_assign (v := (.int .i64 _)) rfl rfl) ?_
        refine e_list ?_; (repeat (first | (with_reducible first | refine e_then ?_ | refine e_block ?_ | refine e_then_ret ?_ | refine e_block_ret ?_ | refine e_then_exit ?_ | refine e_block_here ?_ | refine e_then_panic ?_ | refine e_block_panic ?_) | refine e_block_on rfl ?_))
        refine wp_ret ?_; (repeat (first | (with_reducible first | refine e_then ?_ | refine e_block ?_ | refine e_then_ret ?_ | refine e_block_ret ?_ | refine e_then_exit ?_ | refine e_block_here ?_ | refine e_then_panic ?_ | refine e_block_panic ?_) | refine e_block_on rfl ?_))
        refine r_3 (v1 := (.int .u64 _)) (v2 := (.int .i64 _)) (v3 := (.int .i64 _)) rfl rfl rfl rfl ?_
        rw [num3_err hnum]
        exact ⟨rfl, H⟩
      · skip
        rw [if_neg (by omega)] at hnum
        have hs : x + c.toNat % 128 * 2 ^ (7 * i) < 2 ^ (7 * (i + 1)) := by
          have h1 : 2 ^ (7 * (i + 1)) = 128 * 2 ^ (7 * i) := by rw [Nat.mul_add, Nat.pow_add, Nat.mul_comm]
          have h2 : c.toNat % 128 ≤ 127 := by omega
          have h3 := Nat.mul_le_mul_right (2 ^ (7 * i)) h2
          omega
        have h64 : x + c.toNat % 128 * 2 ^ (7 * i) < 2 ^ 64 := by
          by_cases h9 : i = 9
          · subst h9
            have h2 : c.toNat % 128 ≤ 1 := by omega
            have h3 := Nat.mul_le_mul_right (2 ^ 63) h2
            have e : 7 * 9 = 63 := rfl
            rw [e] at hx ⊢
            omega
          · have h1 : 2 ^ (7 * (i + 1)) ≤ 2 ^ 63 := Nat.pow_le_pow_right (by omega) (by omega)
            have h2 : (2 : Nat) ^ 63 < 2 ^ 64 := by decide
            omega
        have hy64 : c.toNat % 128 * 2 ^ (7 * i) < 2 ^ 64 := by omega
        refine wp_skip ?_; (repeat (first | (with_reducible first | refine e_then ?_ | refine e_block ?_ | refine e_then_ret ?_ | refine e_block_ret ?_ | refine e_then_exit ?_ | refine e_block_here ?_ | refine e_then_panic ?_ | refine e_block_panic ?_) | refine e_block_on rfl ?_))
        refine wp_seq ?_
        -- R10
        refine c_region ?_
        refine L1 rfl rfl H (y_move (v := (.int .u64 _)) rfl rfl) ?_
        refine L1 rfl rfl H (y_move (v := (.int .u8 _)) rfl rfl) ?_
        refine L1 rfl rfl H (y_rem (r := ((c.toNat % 128 : Nat) : Int)) rfl rfl rfl (by omega) (Int.ofNat_tmod _ 128).symm) ?_
        refine L1 rfl rfl H (y_conv rfl rfl Try.underlying5 Try.underlying86 (by first | exact wr_u64 (by omega) (by omega) | rfl)) ?_
        refine L1 rfl rfl H (y_move (v := (.int .i64 _)) rfl rfl) ?_
        refine L1 rfl rfl H (y_mul (r := ((7 * i : Nat) : Int)) rfl rfl rfl (by rw [wr_i64 (by omega) (by omega)]; omega)) ?_
        refine L1 rfl rfl H (y_conv rfl rfl Try.underlying3 Try.underlying162 (by first | exact wr_u64 (by omega) (by omega) | rfl)) ?_
        refine L1 rfl rfl H (y_shl rfl rfl rfl (by omega) (shl7 hy64 (by omega))) ?_
        refine L1 rfl rfl H (y_add (r := ((x + c.toNat % 128 * 2 ^ (7 * i) : Nat) : Int)) rfl rfl rfl (by rw [wr_u64 (by omega) (by omega)]; omega)) ?_
        refine L1 rfl rfl H (y_assign (v := (.int .u64 _)) rfl rfl) ?_
        refine e_list ?_; (repeat (first | (with_reducible first | refine e_then ?_ | refine e_block ?_ | refine e_then_ret ?_ | refine e_block_ret ?_ | refine e_then_exit ?_ | refine e_block_here ?_ | refine e_then_panic ?_ | refine e_block_panic ?_) | refine e_block_on rfl ?_))
        refine wp_seq ?_
        -- R11
        refine c_region ?_
        refine L1 rfl rfl H (y_move (v := (.int .u8 _)) rfl rfl) ?_
        refine L1 rfl rfl H (y_lss rfl rfl rfl) ?_
        refine e_list ?_; (repeat (first | (with_reducible first | refine e_then ?_ | refine e_block ?_ | refine e_then_ret ?_ | refine e_block_ret ?_ | refine e_then_exit ?_ | refine e_block_here ?_ | refine e_then_panic ?_ | refine e_block_panic ?_) | refine e_block_on rfl ?_))
        refine c_if rfl (fun h3 => ?_) (fun h3 => ?_)   -- if 3
        · skip
          rw [if_pos (by omega)] at hnum
          refine wp_seq ?_
          -- R12
          refine c_region ?_
          refine L1 rfl rfl H (y_move (v := (.int .u64 _)) rfl rfl) ?_
          refine L1 rfl rfl H (y_move (v := (.int .i64 _)) rfl rfl) ?_
          refine L1 rfl rfl H (y_add (r := ((i + 1 : Nat) : Int)) rfl rfl rfl (by rw [wr_i64 (by omega) (by omega)]; omega)) ?_
          refine L1 rfl rfl H (y_assign (v := (.int .u64 _)) rfl rfl) ?_
          refine L1 rfl rfl H (y_assign (v := (.int .i64 _)) rfl rfl) ?_
          refine L1 rfl rfl H (y_assign (v := (.int .i64 _)) rfl rfl) ?_
          refine e_list ?_; (repeat (first | (with_reducible first | refine e_then ?_ | refine e_block ?_ | refine e_then_ret ?_ | refine e_block_ret ?_ | refine e_then_exit ?_ | refine e_block_here ?_ | refine e_then_panic ?_ | refine e_block_panic ?_) | refine e_block_on rfl ?_))
          refine wp_ret ?_; (repeat (first | (with_reducible first | refine e_then ?_ | refine e_block ?_ | refine e_then_ret ?_ | refine e_block_ret ?_ | refine e_then_exit ?_ | refine e_block_here ?_ | refine e_then_panic ?_ | refine e_block_panic ?_) | refine e_block_on rfl ?_))
          refine r_3 (v1 := (.int .u64 _)) (v2 := (.int .i64 _)) (v3 := (.int .i64 _)) rfl rfl rfl rfl ?_
          rw [num3_ok hnum]
          exact ⟨rfl, H⟩
        · skip
          rw [if_neg (by omega)] at hnum
          have hi9 : i ≠ 9 := by omega
          refine wp_skip ?_; (repeat (first | (with_reducible first | refine e_then ?_ | refine e_block ?_ | refine e_then_ret ?_ | refine e_block_ret ?_ | refine e_then_exit ?_ | refine e_block_here ?_ | refine e_then_panic ?_ | refine e_block_panic ?_) | refine e_block_on rfl ?_))
          -- R4
          refine c_region ?_
          refine L1 rfl rfl H (y_move (v := (.int .i64 _)) rfl rfl) ?_
          refine L1 rfl rfl H (y_add (r := ((i + 1 : Nat) : Int)) rfl rfl rfl (by rw [wr_i64 (by omega) (by omega)]; omega)) ?_
          refine L1 rfl rfl H (y_assign (v := (.int .i64 _)) rfl rfl) ?_
          refine e_list ?_; (repeat (first | (with_reducible first | refine e_then ?_ | refine e_block ?_ | refine e_then_ret ?_ | refine e_block_ret ?_ | refine e_then_exit ?_ | refine e_block_here ?_ | refine e_then_panic ?_ | refine e_block_panic ?_) | refine e_block_on rfl ?_))
          exact ⟨(i + 1, x + c.toNat % 128 * 2 ^ (7 * i)), _, rfl, ⟨ov_ex _ ⟨rfl, rfl, rfl, rfl, trivial⟩, H, by omega, hs, hnum⟩, by show 10 - (i + 1) < 10 - i; omega⟩
  · exact absurd h0 (by omega)
-- »number
-- «copyBytes»
theorem copyBytes_calls {A0 : Option Addr} {c0 : Nat} (hR : Rd w0 A0 (b.map bv)) (hb : b.length ≤ 140737488355328) :
    Calls Try.prog 44 #[.slice A0 b.length c0] w0 fun e w' => ∃ A c, e = .returned (.slice A b.length c) ∧ b.length ≤ c ∧ Heap w0 [rowB w0 A c b] w' := by
  refine c_enter (xa := [.slice A0 b.length c0]) 19 Try.func44 rfl rfl rfl ?_
  have H := (Heap.init w0).row0 5 1
  refine wp_seq ?_
  -- R0
  refine c_region ?_
  refine L1 rfl rfl H (y_assign (v := (.slice _ _ _)) rfl rfl) ?_
  refine e_list ?_; (repeat (first | (with_reducible first | refine e_then ?_ | refine e_block ?_ | refine e_then_ret ?_ | refine e_block_ret ?_ | refine e_then_exit ?_ | refine e_block_here ?_ | refine e_then_panic ?_ | refine e_block_panic ?_) | refine e_block_on rfl ?_))
  refine wp_seq ?_
  -- R1
  refine c_region ?_
  refine L1 rfl rfl H (y_assign (v := (.slice _ _ _)) rfl rfl) ?_
  refine e_list ?_; (repeat (first | (with_reducible first | refine e_then ?_ | refine e_block ?_ | refine e_then_ret ?_ | refine e_block_ret ?_ | refine e_then_exit ?_ | refine e_block_here ?_ | refine e_then_panic ?_ | refine e_block_panic ?_) | refine e_block_on rfl ?_))
  refine wp_seq ?_
  refine wp_seq ?_
  -- R2
  refine c_region ?_
  refine L1 rfl rfl H (y_assign (v := (.int .i64 _)) rfl rfl) ?_
  refine e_list ?_; (repeat (first | (with_reducible first | refine e_then ?_ | refine e_block ?_ | refine e_then_ret ?_ | refine e_block_ret ?_ | refine e_then_exit ?_ | refine e_block_here ?_ | refine e_then_panic ?_ | refine e_block_panic ?_) | refine e_block_on rfl ?_))
  refine wp_block ?_   -- block 0
  refine c_loop (ι := Nat × Option Addr × Nat) (fun (i, A, c) f w => (∃ gx, f = ov [(0, .slice A0 b.length c0), (3, .slice A i c), (4, .int .i64 (i : Nat))] gx) ∧ Heap w0 ([Ent.row w0.heap.size 5 1 (.slice A i c) i ((b.take i).map bv)]) w ∧ i ≤ b.length ∧ i ≤ c) (fun (i, A, c) => b.length - i) (0, none, 0) ?_ ?_
  · exact ⟨ov_ex _ ⟨rfl, rfl, rfl, trivial⟩, H, by omega, by omega⟩
  rintro ⟨i, A, c⟩ f w ⟨⟨gg, rfl⟩, H, hi, hic⟩
  refine wp_seq ?_
  refine wp_seq ?_
  -- R3
  refine c_region ?_
  refine L1 rfl rfl H (y_move (v := (.int .i64 _)) rfl rfl) ?_
  refine L1 rfl rfl H (y_move (v := (.slice _ _ _)) rfl rfl) ?_
  refine L1 rfl rfl H (y_len_slice rfl rfl Try.underlying22) ?_
  refine L1 rfl rfl H (y_lss rfl rfl rfl) ?_
  refine e_list ?_; (repeat (first | (with_reducible first | refine e_then ?_ | refine e_block ?_ | refine e_then_ret ?_ | refine e_block_ret ?_ | refine e_then_exit ?_ | refine e_block_here ?_ | refine e_then_panic ?_ | refine e_block_panic ?_) | refine e_block_on rfl ?_))
  refine c_if rfl (fun h0 => ?_) (fun h0 => ?_)   -- if 0
  · skip
    have hib : i < b.length := by omega
    refine wp_skip ?_; (repeat (first | (with_reducible first | refine e_then ?_ | refine e_block ?_ | refine e_then_ret ?_ | refine e_block_ret ?_ | refine e_then_exit ?_ | refine e_block_here ?_ | refine e_then_panic ?_ | refine e_block_panic ?_) | refine e_block_on rfl ?_))
    refine wp_seq ?_
    refine wp_block ?_   -- block 1
    -- R5
    refine c_region ?_
    refine L1 rfl rfl H (y_move (v := (.slice _ _ _)) rfl rfl) ?_
    refine L1 rfl rfl H (y_move (v := (.slice _ _ _)) rfl rfl) ?_
    refine L1 rfl rfl H (y_move (v := (.int .i64 _)) rfl rfl) ?_
    obtain ⟨a0, rfl, _⟩ := hR.some (j := i) (by rw [List.length_map]; omega)
    refine L1 rfl rfl H (y_indexSl rfl rfl rfl Try.underlying22 Try.sizeOf5 (by omega) (by omega)) ?_
    refine L1 rfl rfl H (y_load (v := bv (b.getD i 0)) rfl rfl Try.isAgg5 (Dig.rd_get hR hib)) ?_
    refine LbuildSlice1 (v := (.int .u8 _)) rfl rfl rfl rfl H Try.underlying22 Try.sizeOf5 Try.zeroValue5 rfl rfl ?_; intro b16 w H
    refine Lapp1 0 rfl rfl rfl rfl rfl H rfl Try.underlying22 Try.underlying22 (i := Try.t5) (by kernel_rfl) (z := .int .u8 0) rfl rfl rfl rfl (by show (_ + 1) * 1 ≤ _; omega) (by simp only [maxLen]; omega) ?_
    intro A c w hc H
    replace H : Heap w0 [Ent.row w0.heap.size 5 1 (.slice A (i + 1) c) (i + 1) ((b.take i).map bv ++ [bv (b.getD i 0)])] w := H
    rw [Dig.take_bv hib] at H
    refine L1 rfl rfl H (y_assign (v := (.slice _ _ _)) rfl rfl) ?_
    refine e_list ?_; (repeat (first | (with_reducible first | refine e_then ?_ | refine e_block ?_ | refine e_then_ret ?_ | refine e_block_ret ?_ | refine e_then_exit ?_ | refine e_block_here ?_ | refine e_then_panic ?_ | refine e_block_panic ?_) | refine e_block_on rfl ?_))
    -- R4
    refine c_region ?_
    refine L1 rfl rfl H (y_move (v := (.int .i64 _)) rfl rfl) ?_
    refine L1 rfl rfl H (y_add (r := ((i + 1 : Nat) : Int)) rfl rfl rfl (by rw [wr_i64 (by omega) (by omega)]; omega)) ?_
    refine L1 rfl rfl H (y_assign (v := (.int .i64 _)) rfl rfl) ?_
    refine e_list ?_; (repeat (first | (with_reducible first | refine e_then ?_ | refine e_block ?_ | refine e_then_ret ?_ | refine e_block_ret ?_ | refine e_then_exit ?_ | refine e_block_here ?_ | refine e_then_panic ?_ | refine e_block_panic ?_) | refine e_block_on rfl ?_))
    exact ⟨(i + 1, A, c), _, rfl, ⟨ov_ex _ ⟨rfl, rfl, rfl, trivial⟩, H, by omega, by omega⟩, by show b.length - (i + 1) < b.length - i; omega⟩
  · skip
    have hie : i = b.length := by omega
    subst hie
    rw [List.take_length] at H
    refine wp_exit ?_; (repeat (first | (with_reducible first | refine e_then ?_ | refine e_block ?_ | refine e_then_ret ?_ | refine e_block_ret ?_ | refine e_then_exit ?_ | refine e_block_here ?_ | refine e_then_panic ?_ | refine e_block_panic ?_) | refine e_block_on rfl ?_))
    refine wp_seq ?_
    -- R6
    refine c_region ?_
    refine L1 rfl rfl H (y_move (v := (.slice _ _ _)) rfl rfl) ?_
    refine L1 rfl rfl H (y_assign (v := (.slice _ _ _)) rfl rfl) ?_
    refine e_list ?_; (repeat (first | (with_reducible first | refine e_then ?_ | refine e_block ?_ | refine e_then_ret ?_ | refine e_block_ret ?_ | refine e_then_exit ?_ | refine e_block_here ?_ | refine e_then_panic ?_ | refine e_block_panic ?_) | refine e_block_on rfl ?_))
    refine wp_ret ?_; (repeat (first | (with_reducible first | refine e_then ?_ | refine e_block ?_ | refine e_then_ret ?_ | refine e_block_ret ?_ | refine e_then_exit ?_ | refine e_block_here ?_ | refine e_then_panic ?_ | refine e_block_panic ?_) | refine e_block_on rfl ?_))
    refine r_1 (v := (.slice _ _ _)) rfl rfl ?_
    exact ⟨A, c, rfl, hic, H⟩
-- »copyBytes
-- «read»
abbrev rfr (w0 : World) (g : Nat) (A : Option Addr) (cap : Nat) (b : By) (s : RS) (R : List Ent) : List Ent :=
  Ent.blk g 160 [.slice A b.length cap, .int .i64 (s.1 : Nat), .int .i64 (s.2 : Nat)] :: rowB w0 A cap b :: R
theorem read_calls {A0 : Option Addr} {c0 : Nat} (hR : Rd w0 A0 (b.map bv)) (hb : b.length ≤ 140737488355328) :
    Calls Try.prog 96 #[.slice A0 b.length c0] w0 fun e w' => ∃ g A c, e = .returned (.pointer (some ⟨g, 0, none⟩)) ∧ b.length ≤ c ∧ Heap w0 (rfr w0 g A c b (0, 0) []) w' := by
  refine c_enter (xa := [.slice A0 b.length c0]) 7 Try.func96 rfl rfl rfl ?_
  have H := Heap.init w0
  refine wp_seq ?_
  -- R0
  refine c_region ?_
  refine L1 rfl rfl H (y_assign (v := (.pointer _)) rfl rfl) ?_
  refine e_list ?_; (repeat (first | (with_reducible first | refine e_then ?_ | refine e_block ?_ | refine e_then_ret ?_ | refine e_block_ret ?_ | refine e_then_exit ?_ | refine e_block_here ?_ | refine e_then_panic ?_ | refine e_block_panic ?_) | refine e_block_on rfl ?_))
  refine wp_seq ?_
  -- R1
  refine c_region ?_
  refine L1 rfl rfl H (y_move (v := (.slice _ _ _)) rfl rfl) ?_
  refine Lfn rfl rfl rfl (xa := [.slice A0 b.length c0]) rfl Try.call44 ?_   -- portage/portageref0.CopyBytes
  refine (copyBytes_calls hR hb).mono ?_
  rintro e w ⟨A, c, rfl, hc, K⟩
  replace H := K
  clear K
  refine ⟨_, rfl, ?_⟩
  refine L1 rfl rfl H (y_build (v := .agg #[.slice A b.length c, .int .i64 0, .int .i64 0]) rfl (vals := [(0, .slice A b.length c)]) rfl (by intro w; simp [Instr.build, Instr.fill, go_sem] <;> rfl)) ?_
  refine Lbox rfl rfl rfl (z := .agg #[.slice A b.length c, .int .i64 0, .int .i64 0]) rfl H (cs := [.slice A b.length c, .int .i64 0, .int .i64 0]) rfl ?_; intro g w H
  refine L1 rfl rfl H (y_assign (v := (.pointer _)) rfl rfl) ?_
  refine e_list ?_; (repeat (first | (with_reducible first | refine e_then ?_ | refine e_block ?_ | refine e_then_ret ?_ | refine e_block_ret ?_ | refine e_then_exit ?_ | refine e_block_here ?_ | refine e_then_panic ?_ | refine e_block_panic ?_) | refine e_block_on rfl ?_))
  refine wp_ret ?_; (repeat (first | (with_reducible first | refine e_then ?_ | refine e_block ?_ | refine e_then_ret ?_ | refine e_block_ret ?_ | refine e_then_exit ?_ | refine e_block_here ?_ | refine e_then_panic ?_ | refine e_block_panic ?_) | refine e_block_on rfl ?_))
  refine r_1 (v := (.pointer _)) rfl rfl ?_
  exact ⟨g, A, c, rfl, hc, H⟩
-- »read
-- «above»
theorem above_calls {x m : Nat} (hm : m ≤ 9223372036854775807) :
    Calls Try.prog 141 #[.int .u64 (x : Nat), .int .i64 (m : Nat)] w0 fun e w' => e = .returned (.bool (decide (m < x))) ∧ Heap w0 [] w' := by
  refine c_enter (xa := [.int .u64 (x : Nat), .int .i64 (m : Nat)]) 13 Try.func141 rfl rfl rfl ?_
  have H := Heap.init w0
  refine wp_seq ?_
  -- R0
  refine c_region ?_
  refine L1 rfl rfl H (y_assign (v := (.bool _)) rfl rfl) ?_
  refine e_list ?_; (repeat (first | (with_reducible first | refine e_then ?_ | refine e_block ?_ | refine e_then_ret ?_ | refine e_block_ret ?_ | refine e_then_exit ?_ | refine e_block_here ?_ | refine e_then_panic ?_ | refine e_block_panic ?_) | refine e_block_on rfl ?_))
  refine wp_seq ?_
  refine wp_seq ?_
  -- R1
  refine c_region ?_
  refine L1 rfl rfl H (y_move (v := (.int .i64 _)) rfl rfl) ?_
  refine L1 rfl rfl H (y_lss rfl rfl rfl) ?_
  refine e_list ?_; (repeat (first | (with_reducible first | refine e_then ?_ | refine e_block ?_ | refine e_then_ret ?_ | refine e_block_ret ?_ | refine e_then_exit ?_ | refine e_block_here ?_ | refine e_then_panic ?_ | refine e_block_panic ?_) | refine e_block_on rfl ?_))
  refine c_if rfl (fun h0 => ?_) (fun h0 => ?_)   -- if 0
  · exact absurd h0 (by omega)
  · skip
    refine wp_skip ?_; (repeat (first | (with_reducible first | refine e_then ?_ | refine e_block ?_ | refine e_then_ret ?_ | refine e_block_ret ?_ | refine e_then_exit ?_ | refine e_block_here ?_ | refine e_then_panic ?_ | refine e_block_panic ?_) | refine e_block_on rfl ?_))
    refine wp_seq ?_
    -- R3
    refine c_region ?_
    refine L1 rfl rfl H (y_move (v := (.int .u64 _)) rfl rfl) ?_
    refine L1 rfl rfl H (y_move (v := (.int .i64 _)) rfl rfl) ?_
    refine L1 rfl rfl H (y_conv rfl rfl Try.underlying3 Try.underlying86 (by first | exact wr_u64 (by omega) (by omega) | rfl)) ?_
    refine L1 rfl rfl H (y_gtr rfl rfl rfl) ?_
    refine L1 rfl rfl H (y_assign (v := (.bool _)) rfl rfl) ?_
    refine e_list ?_; (repeat (first | (with_reducible first | refine e_then ?_ | refine e_block ?_ | refine e_then_ret ?_ | refine e_block_ret ?_ | refine e_then_exit ?_ | refine e_block_here ?_ | refine e_then_panic ?_ | refine e_block_panic ?_) | refine e_block_on rfl ?_))
    refine wp_ret ?_; (repeat (first | (with_reducible first | refine e_then ?_ | refine e_block ?_ | refine e_then_ret ?_ | refine e_block_ret ?_ | refine e_then_exit ?_ | refine e_block_here ?_ | refine e_then_panic ?_ | refine e_block_panic ?_) | refine e_block_on rfl ?_))
    refine r_1 (v := (.bool _)) rfl rfl ?_
    exact ⟨by congr 2; exact decide_eq_decide.2 (by omega), H⟩
-- »above
-- «count»
theorem number3_calls {w0 : World} {c0 at_ : Nat} {n3 : Nat × Nat × Nat} (hn : n3 = num3 (b.drop at_)) (hR : Rd w0 A (b.map bv)) (hb : b.length ≤ 140737488355328) (hat : at_ ≤ b.length) :
    Calls Try.prog 140 #[.slice A b.length c0, .int .i64 (at_ : Nat)] w0 fun e w' =>
      e = .returned (.tuple #[.int .u64 (n3.1 : Nat), .int .i64 (n3.2.1 : Nat), .int .i64 (n3.2.2 : Nat)]) ∧ Heap w0 [] w' := by
  subst hn; exact number_calls hR hb hat
theorem cnt_err {b : By} {s : RS} {most : Nat} {n3 : Nat × Nat × Nat} (h0 : s.2 = 0) (hn : n3 = num3 (b.drop s.1)) (h : n3.2.2 ≠ 0) : rdCount b most s = ((s.1, n3.2.2), 0) := by
  unfold rdCount cntS
  rw [if_neg (by omega)]
  cases hx : numS (b.drop s.1) 0 0 with
  | ok p => obtain ⟨x, k⟩ := p; rw [num3_ok hx] at hn; subst hn; exact absurd rfl h
  | error c => rw [num3_err hx] at hn; subst hn; rfl
theorem cnt_mid {b : By} {s : RS} {n3 : Nat × Nat × Nat} (hn : n3 = num3 (b.drop s.1)) (h : n3.2.2 = 0) : numS (b.drop s.1) 0 0 = .ok (n3.1, n3.2.1) ∧ s.1 + n3.2.1 ≤ b.length := by
  cases hx : numS (b.drop s.1) 0 0 with
  | ok p =>
    obtain ⟨x, k⟩ := p
    rw [num3_ok hx] at hn; subst hn
    have := numS_ok _ 0 0 x k (by omega) (by decide) hx
    rw [List.length_drop] at this
    exact ⟨rfl, by show s.1 + k ≤ _; omega⟩
  | error c => rw [num3_err hx] at hn; subst hn; exact absurd h (numS_err _ _ _ _ hx)
theorem cnt_big {b : By} {s : RS} {most : Nat} {n3 : Nat × Nat × Nat} (h0 : s.2 = 0) (hx : numS (b.drop s.1) 0 0 = .ok (n3.1, n3.2.1)) (h : most < n3.1) : rdCount b most s = ((s.1, 5), 0) := by
  unfold rdCount cntS
  rw [if_neg (by omega), hx]
  simp only
  rw [if_neg (by omega)]
theorem cnt_ok {b : By} {s : RS} {most : Nat} {n3 : Nat × Nat × Nat} (h0 : s.2 = 0) (hx : numS (b.drop s.1) 0 0 = .ok (n3.1, n3.2.1)) (h : n3.1 ≤ most) : rdCount b most s = ((s.1 + n3.2.1, 0), n3.1) := by
  unfold rdCount cntS
  rw [if_neg (by omega), hx]
  simp only
  rw [if_pos h]
theorem count_calls {most : Nat} {s : RS} (hm : most ≤ 4611686018427387904) (H : Heap w0 (rfr w0 g A cap b s R) w) (hb : b.length ≤ 140737488355328) (hat : s.1 ≤ b.length) :
    Calls Try.prog 98 #[.pointer (some ⟨g, 0, none⟩), .int .i64 (most : Nat)] w fun e w' => e = .returned (.int .i64 ((rdCount b most s).2 : Nat)) ∧ (rdCount b most s).1.1 ≤ b.length ∧ (rdCount b most s).2 ≤ most ∧ Heap w0 (rfr w0 g A cap b (rdCount b most s).1 R) w' := by
  refine c_enter (xa := [.pointer (some ⟨g, 0, none⟩), .int .i64 (most : Nat)]) 49 Try.func98 rfl rfl rfl ?_
  obtain ⟨n3, hn3⟩ : ∃ n3, n3 = num3 (b.drop s.1) := ⟨_, rfl⟩
  refine wp_seq ?_
  -- R0
  refine c_region ?_
  refine L1 rfl rfl H (y_assign (v := (.int .i64 _)) rfl rfl) ?_
  refine e_list ?_; (repeat (first | (with_reducible first | refine e_then ?_ | refine e_block ?_ | refine e_then_ret ?_ | refine e_block_ret ?_ | refine e_then_exit ?_ | refine e_block_here ?_ | refine e_then_panic ?_ | refine e_block_panic ?_) | refine e_block_on rfl ?_))
  refine wp_seq ?_
  refine wp_seq ?_
  -- R1
  refine c_region ?_
  refine L1 rfl rfl H (y_move (v := (.pointer _)) rfl rfl) ?_
  refine L1 rfl rfl H (y_nilCheck rfl rfl) ?_
  refine L1 rfl rfl H (y_fieldAddr 2 rfl rfl Try.underlying160 rfl Try.sizeOf3 rfl) ?_
  refine L1 rfl rfl H (y_load (v := .int .i64 (s.2 : Nat)) rfl rfl Try.isAgg3 (cell_blk (k := 0) rfl rfl)) ?_
  refine L1 rfl rfl H (y_neq rfl rfl rfl) ?_
  refine e_list ?_; (repeat (first | (with_reducible first | refine e_then ?_ | refine e_block ?_ | refine e_then_ret ?_ | refine e_block_ret ?_ | refine e_then_exit ?_ | refine e_block_here ?_ | refine e_then_panic ?_ | refine e_block_panic ?_) | refine e_block_on rfl ?_))
  refine c_if rfl (fun h0 => ?_) (fun h0 => ?_)   -- if 0
  · skip
    have hr : rdCount b most s = (s, 0) := by unfold rdCount; rw [if_pos (by omega)]
    refine wp_seq ?_
    -- R2
    refine c_region ?_
    refine L1 rfl rfl H (y_assign (v := (.int .i64 _)) rfl rfl) ?_
    refine e_list ?_; (repeat (first | (with_reducible first | refine e_then ?_ | refine e_block ?_ | refine e_then_ret ?_ | refine e_block_ret ?_ | refine e_then_exit ?_ | refine e_block_here ?_ | refine e_then_panic ?_ | refine e_block_panic ?_) | refine e_block_on rfl ?_))
    refine wp_ret ?_; (repeat (first | (with_reducible first | refine e_then ?_ | refine e_block ?_ | refine e_then_ret ?_ | refine e_block_ret ?_ | refine e_then_exit ?_ | refine e_block_here ?_ | refine e_then_panic ?_ | refine e_block_panic ?_) | refine e_block_on rfl ?_))
    refine r_1 (v := (.int .i64 _)) rfl rfl ?_
    rw [hr]
    exact ⟨rfl, hat, Nat.zero_le _, H⟩
  · skip
    have h2 : s.2 = 0 := by omega
    refine wp_skip ?_; (repeat (first | (with_reducible first | refine e_then ?_ | refine e_block ?_ | refine e_then_ret ?_ | refine e_block_ret ?_ | refine e_then_exit ?_ | refine e_block_here ?_ | refine e_then_panic ?_ | refine e_block_panic ?_) | refine e_block_on rfl ?_))
    refine wp_seq ?_
    -- R3 draws
    refine c_draw H (by kernel_rfl) (by kernel_rfl) ?_
    refine Q1 rfl rfl (y_move (v := (.pointer _)) rfl rfl) ?_
    refine Q1 rfl rfl (y_nilCheck rfl rfl) ?_
    refine Q1 rfl rfl (y_fieldAddr 0 rfl rfl Try.underlying160 rfl Try.sizeOf22 rfl) ?_
    refine Q1 rfl rfl (y_load (v := .slice A b.length cap) rfl rfl Try.isAgg22 (cell_blk (k := 0) rfl rfl)) ?_
    refine Q1 rfl rfl (y_move (v := (.pointer _)) rfl rfl) ?_
    refine Q1 rfl rfl (y_nilCheck rfl rfl) ?_
    refine Q1 rfl rfl (y_fieldAddr 1 rfl rfl Try.underlying160 rfl Try.sizeOf3 rfl) ?_
    refine Q1 rfl rfl (y_load (v := .int .i64 (s.1 : Nat)) rfl rfl Try.isAgg3 (cell_blk (k := 0) rfl rfl)) ?_
    refine Qfn (xa := [(.slice _ _ _), (.int .i64 _)]) rfl rfl rfl rfl Try.call140 (fun w H => ((number3_calls hn3 (rd_row (H.get 1 rfl)) hb hat).mono (fun e w' h => ⟨h.1, H.app0 h.2⟩))) ?_   -- portage/portageref01.number
    refine Q1 rfl rfl (y_move (v := (.tuple _)) rfl rfl) ?_
    refine Q1 rfl rfl (y_extract (v := (.int .u64 _)) rfl rfl rfl) ?_
    refine Q1 rfl rfl (y_extract (v := (.int .i64 _)) rfl rfl rfl) ?_
    refine Q1 rfl rfl (y_extract (v := (.int .i64 _)) rfl rfl rfl) ?_
    refine Q1 rfl rfl (y_assign (v := (.int .u64 _)) rfl rfl) ?_
    refine Q1 rfl rfl (y_assign (v := (.int .i64 _)) rfl rfl) ?_
    refine Q1 rfl rfl (y_assign (v := (.int .i64 _)) rfl rfl) ?_
    refine Qend ?_; intro w H; (repeat (first | (with_reducible first | refine e_then ?_ | refine e_block ?_ | refine e_then_ret ?_ | refine e_block_ret ?_ | refine e_then_exit ?_ | refine e_block_here ?_ | refine e_then_panic ?_ | refine e_block_panic ?_) | refine e_block_on rfl ?_))
    refine wp_seq ?_
    refine wp_seq ?_
    -- R4
    refine c_region ?_
    refine L1 rfl rfl H (y_move (v := (.int .i64 _)) rfl rfl) ?_
    refine L1 rfl rfl H (y_neq rfl rfl rfl) ?_
    refine e_list ?_; (repeat (first | (with_reducible first | refine e_then ?_ | refine e_block ?_ | refine e_then_ret ?_ | refine e_block_ret ?_ | refine e_then_exit ?_ | refine e_block_here ?_ | refine e_then_panic ?_ | refine e_block_panic ?_) | refine e_block_on rfl ?_))
    refine c_if rfl (fun h1 => ?_) (fun h1 => ?_)   -- if 1
    · skip
      have hr : rdCount b most s = ((s.1, n3.2.2), 0) := cnt_err h2 hn3 (by omega)
      refine wp_seq ?_
      -- R5
      refine c_region ?_
      refine L1 rfl rfl H (y_move (v := (.pointer _)) rfl rfl) ?_
      refine L1 rfl rfl H (y_move (v := (.int .i64 _)) rfl rfl) ?_
      refine L1 rfl rfl H (y_nilCheck rfl rfl) ?_
      refine L1 rfl rfl H (y_fieldAddr 2 rfl rfl Try.underlying160 rfl Try.sizeOf3 rfl) ?_
      refine Lset 0 2 rfl rfl rfl rfl (v := .int .i64 (n3.2.2 : Nat)) rfl H rfl rfl Try.sizeOf3 rfl rfl (by show 2 < 3; omega) ?_; intro w H
      refine e_list ?_; (repeat (first | (with_reducible first | refine e_then ?_ | refine e_block ?_ | refine e_then_ret ?_ | refine e_block_ret ?_ | refine e_then_exit ?_ | refine e_block_here ?_ | refine e_then_panic ?_ | refine e_block_panic ?_) | refine e_block_on rfl ?_))
      refine wp_seq ?_
      -- R6
      refine c_region ?_
      refine L1 rfl rfl H (y_assign (v := (.int .i64 _)) rfl rfl) ?_
      refine e_list ?_; (repeat (first | (with_reducible first | refine e_then ?_ | refine e_block ?_ | refine e_then_ret ?_ | refine e_block_ret ?_ | refine e_then_exit ?_ | refine e_block_here ?_ | refine e_then_panic ?_ | refine e_block_panic ?_) | refine e_block_on rfl ?_))
      refine wp_ret ?_; (repeat (first | (with_reducible first | refine e_then ?_ | refine e_block ?_ | refine e_then_ret ?_ | refine e_block_ret ?_ | refine e_then_exit ?_ | refine e_block_here ?_ | refine e_then_panic ?_ | refine e_block_panic ?_) | refine e_block_on rfl ?_))
      refine r_1 (v := (.int .i64 _)) rfl rfl ?_
      rw [hr]
      exact ⟨rfl, hat, Nat.zero_le _, H⟩
    · skip
      obtain ⟨hnum, hle⟩ := cnt_mid (s := s) hn3 (by omega)
      refine wp_skip ?_; (repeat (first | (with_reducible first | refine e_then ?_ | refine e_block ?_ | refine e_then_ret ?_ | refine e_block_ret ?_ | refine e_then_exit ?_ | refine e_block_here ?_ | refine e_then_panic ?_ | refine e_block_panic ?_) | refine e_block_on rfl ?_))
      refine wp_seq ?_
      refine wp_seq ?_
      -- R7
      refine c_region ?_
      refine L1 rfl rfl H (y_move (v := (.int .u64 _)) rfl rfl) ?_
      refine L1 rfl rfl H (y_move (v := (.int .i64 _)) rfl rfl) ?_
      refine Lfn rfl rfl rfl (xa := [.int .u64 (n3.1 : Nat), .int .i64 (most : Nat)]) rfl Try.call141 ?_   -- portage/portageref01.above
      refine (above_calls (by omega)).mono ?_
      rintro e w' ⟨rfl, K⟩
      replace H := H.app0 K
      clear K
      refine ⟨_, rfl, ?_⟩
      refine e_list ?_; (repeat (first | (with_reducible first | refine e_then ?_ | refine e_block ?_ | refine e_then_ret ?_ | refine e_block_ret ?_ | refine e_then_exit ?_ | refine e_block_here ?_ | refine e_then_panic ?_ | refine e_block_panic ?_) | refine e_block_on rfl ?_))
      refine c_if rfl (fun h2' => ?_) (fun h2' => ?_)   -- if 2
      · skip
        have hr : rdCount b most s = ((s.1, 5), 0) := cnt_big h2 hnum (by simpa using h2')
        refine wp_seq ?_
        -- R8
        refine c_region ?_
        refine L1 rfl rfl H (y_move (v := (.pointer _)) rfl rfl) ?_
        refine L1 rfl rfl H (y_nilCheck rfl rfl) ?_
        refine L1 rfl rfl H (y_fieldAddr 2 rfl rfl Try.underlying160 rfl Try.sizeOf3 rfl) ?_
        refine Lset 0 2 rfl rfl rfl rfl (v := .int .i64 (5 : Nat)) rfl H rfl rfl Try.sizeOf3 rfl rfl (by show 2 < 3; omega) ?_; intro w H
        refine e_list ?_; (repeat (first | (with_reducible first | refine e_then ?_ | refine e_block ?_ | refine e_then_ret ?_ | refine e_block_ret ?_ | refine e_then_exit ?_ | refine e_block_here ?_ | refine e_then_panic ?_ | refine e_block_panic ?_) | refine e_block_on rfl ?_))
        refine wp_seq ?_
        -- R9
        refine c_region ?_
        refine L1 rfl rfl H (y_assign (v := (.int .i64 _)) rfl rfl) ?_
        refine e_list ?_; (repeat (first | (with_reducible first | refine e_then ?_ | refine e_block ?_ | refine e_then_ret ?_ | refine e_block_ret ?_ | refine e_then_exit ?_ | refine e_block_here ?_ | refine e_then_panic ?_ | refine e_block_panic ?_) | refine e_block_on rfl ?_))
        refine wp_ret ?_; (repeat (first | (with_reducible first | refine e_then ?_ | refine e_block ?_ | refine e_then_ret ?_ | refine e_block_ret ?_ | refine e_then_exit ?_ | refine e_block_here ?_ | refine e_then_panic ?_ | refine e_block_panic ?_) | refine e_block_on rfl ?_))
        refine r_1 (v := (.int .i64 _)) rfl rfl ?_
        rw [hr]
        exact ⟨rfl, hat, Nat.zero_le _, H⟩
      · skip
        have hm2 : n3.1 ≤ most := by simpa using h2'
        have hr : rdCount b most s = ((s.1 + n3.2.1, 0), n3.1) := cnt_ok h2 hnum hm2
        refine wp_skip ?_; (repeat (first | (with_reducible first | refine e_then ?_ | refine e_block ?_ | refine e_then_ret ?_ | refine e_block_ret ?_ | refine e_then_exit ?_ | refine e_block_here ?_ | refine e_then_panic ?_ | refine e_block_panic ?_) | refine e_block_on rfl ?_))
        refine wp_seq ?_
        -- R10
        refine c_region ?_
        refine L1 rfl rfl H (y_move (v := (.pointer _)) rfl rfl) ?_
        refine L1 rfl rfl H (y_move (v := (.pointer _)) rfl rfl) ?_
        refine L1 rfl rfl H (y_nilCheck rfl rfl) ?_
        refine L1 rfl rfl H (y_fieldAddr 1 rfl rfl Try.underlying160 rfl Try.sizeOf3 rfl) ?_
        refine L1 rfl rfl H (y_load (v := .int .i64 (s.1 : Nat)) rfl rfl Try.isAgg3 (cell_blk (k := 0) rfl rfl)) ?_
        refine L1 rfl rfl H (y_move (v := (.int .i64 _)) rfl rfl) ?_
        refine L1 rfl rfl H (y_add (r := ((s.1 + n3.2.1 : Nat) : Int)) rfl rfl rfl (by rw [wr_i64 (by omega) (by omega)]; omega)) ?_
        refine L1 rfl rfl H (y_nilCheck rfl rfl) ?_
        refine L1 rfl rfl H (y_fieldAddr 1 rfl rfl Try.underlying160 rfl Try.sizeOf3 rfl) ?_
        refine Lset 0 1 rfl rfl rfl rfl (v := .int .i64 (s.1 + n3.2.1 : Nat)) rfl H rfl rfl Try.sizeOf3 rfl rfl (by show 1 < 3; omega) ?_; intro w H
        refine e_list ?_; (repeat (first | (with_reducible first | refine e_then ?_ | refine e_block ?_ | refine e_then_ret ?_ | refine e_block_ret ?_ | refine e_then_exit ?_ | refine e_block_here ?_ | refine e_then_panic ?_ | refine e_block_panic ?_) | refine e_block_on rfl ?_))
        refine wp_seq ?_
        -- R11
        refine c_region ?_
        refine L1 rfl rfl H (y_move (v := (.int .u64 _)) rfl rfl) ?_
        refine L1 rfl rfl H (y_conv (r := (n3.1 : Nat)) rfl rfl Try.underlying86 Try.underlying3 (wr_i64 (by omega) (by omega))) ?_
        refine L1 rfl rfl H (y_assign (v := (.int .i64 _)) rfl rfl) ?_
        refine e_list ?_; (repeat (first | (with_reducible first | refine e_then ?_ | refine e_block ?_ | refine e_then_ret ?_ | refine e_block_ret ?_ | refine e_then_exit ?_ | refine e_block_here ?_ | refine e_then_panic ?_ | refine e_block_panic ?_) | refine e_block_on rfl ?_))
        refine wp_ret ?_; (repeat (first | (with_reducible first | refine e_then ?_ | refine e_block ?_ | refine e_then_ret ?_ | refine e_block_ret ?_ | refine e_then_exit ?_ | refine e_block_here ?_ | refine e_then_panic ?_ | refine e_block_panic ?_) | refine e_block_on rfl ?_))
        refine r_1 (v := (.int .i64 _)) rfl rfl ?_
        rw [hr]
        rw [h2] at H
        exact ⟨rfl, hle, hm2, H⟩
-- »count
-- «end»
theorem end_calls {s : RS} (H : Heap w0 (rfr w0 g A cap b s R) w) (hb : b.length ≤ 140737488355328) :
    Calls Try.prog 101 #[.pointer (some ⟨g, 0, none⟩)] w fun e w' => e = .returned (.int .i64 (rdEnd b s : Nat)) ∧ Heap w0 (rfr w0 g A cap b s R) w' := by
  refine c_enter (xa := [.pointer (some ⟨g, 0, none⟩)]) 24 Try.func101 rfl rfl rfl ?_
  refine wp_seq ?_
  -- R0
  refine c_region ?_
  refine L1 rfl rfl H (y_assign (v := (.int .i64 _)) rfl rfl) ?_
  refine e_list ?_; (repeat (first | (with_reducible first | refine e_then ?_ | refine e_block ?_ | refine e_then_ret ?_ | refine e_block_ret ?_ | refine e_then_exit ?_ | refine e_block_here ?_ | refine e_then_panic ?_ | refine e_block_panic ?_) | refine e_block_on rfl ?_))
  refine wp_seq ?_
  refine c_cutR [0] 19 (s.2 = 0 ∧ s.1 < b.length) (rfr w0 g A cap b s R) H ?_ ?_
  · skip
    -- R1 draws
    refine c_draw H (by kernel_rfl) (by kernel_rfl) ?_
    refine Q1 rfl rfl (y_move (v := (.pointer _)) rfl rfl) ?_
    refine Q1 rfl rfl (y_nilCheck rfl rfl) ?_
    refine Q1 rfl rfl (y_fieldAddr 2 rfl rfl Try.underlying160 rfl Try.sizeOf3 rfl) ?_
    refine Q1 rfl rfl (y_load (v := .int .i64 (s.2 : Nat)) rfl rfl Try.isAgg3 (cell_blk (k := 0) rfl rfl)) ?_
    refine Q1 rfl rfl (y_eql rfl rfl rfl) ?_
    refine Q_split rfl rfl rfl rfl (fun hg1_5 => ?_) (fun hg1_5 => ?_)
    · skip
      refine Q1g rfl rfl rfl rfl (y_move (v := (.pointer _)) rfl rfl) ?_
      refine Q1g rfl rfl rfl rfl (y_nilCheck rfl rfl) ?_
      refine Q1g rfl rfl rfl rfl (y_fieldAddr 1 rfl rfl Try.underlying160 rfl Try.sizeOf3 rfl) ?_
      refine Q1g rfl rfl rfl rfl (y_load (v := .int .i64 (s.1 : Nat)) rfl rfl Try.isAgg3 (cell_blk (k := 0) rfl rfl)) ?_
      refine Q1g rfl rfl rfl rfl (y_move (v := (.pointer _)) rfl rfl) ?_
      refine Q1g rfl rfl rfl rfl (y_nilCheck rfl rfl) ?_
      refine Q1g rfl rfl rfl rfl (y_fieldAddr 0 rfl rfl Try.underlying160 rfl Try.sizeOf22 rfl) ?_
      refine Q1g rfl rfl rfl rfl (y_load (v := .slice A b.length cap) rfl rfl Try.isAgg22 (cell_blk (k := 0) rfl rfl)) ?_
      refine Q1g rfl rfl rfl rfl (y_len_slice rfl rfl Try.underlying22) ?_
      refine Q1g rfl rfl rfl rfl (y_lss rfl rfl rfl) ?_
      refine Q1 rfl rfl (y_pick (v := (.bool _)) rfl rfl rfl) ?_
      refine Qend ?_; intro w H; (repeat (first | (with_reducible first | refine e_then ?_ | refine e_block ?_ | refine e_then_ret ?_ | refine e_block_ret ?_ | refine e_then_exit ?_ | refine e_block_here ?_ | refine e_then_panic ?_ | refine e_block_panic ?_) | refine e_block_on rfl ?_))
      refine ⟨_, rfl, congrArg Value.bool (decide_eq_decide.2 (by omega)), ⟨rfl, trivial⟩, H⟩
    · skip
      refine Qno rfl rfl rfl rfl rfl ?_
      refine Qno rfl rfl rfl rfl rfl ?_
      refine Qno rfl rfl rfl rfl rfl ?_
      refine Qno rfl rfl rfl rfl rfl ?_
      refine Qno rfl rfl rfl rfl rfl ?_
      refine Qno rfl rfl rfl rfl rfl ?_
      refine Qno rfl rfl rfl rfl rfl ?_
      refine Qno rfl rfl rfl rfl rfl ?_
      refine Qno rfl rfl rfl rfl rfl ?_
      refine Qno rfl rfl rfl rfl rfl ?_
      refine Q1 rfl rfl (y_pick (v := (.bool _)) rfl rfl rfl) ?_
      refine Qend ?_; intro w H; (repeat (first | (with_reducible first | refine e_then ?_ | refine e_block ?_ | refine e_then_ret ?_ | refine e_block_ret ?_ | refine e_then_exit ?_ | refine e_block_here ?_ | refine e_then_panic ?_ | refine e_block_panic ?_) | refine e_block_on rfl ?_))
      refine ⟨_, rfl, congrArg Value.bool (decide_eq_false (by omega)).symm, ⟨rfl, trivial⟩, H⟩
  intro g1 w H
  refine c_if rfl (fun h0 => ?_) (fun h0 => ?_)   -- if 0
  · skip
    refine wp_seq ?_
    -- R2
    refine c_region ?_
    refine L1 rfl rfl H (y_assign (v := (.int .i64 _)) rfl rfl) ?_
    refine e_list ?_; (repeat (first | (with_reducible first | refine e_then ?_ | refine e_block ?_ | refine e_then_ret ?_ | refine e_block_ret ?_ | refine e_then_exit ?_ | refine e_block_here ?_ | refine e_then_panic ?_ | refine e_block_panic ?_) | refine e_block_on rfl ?_))
    refine wp_ret ?_; (repeat (first | (with_reducible first | refine e_then ?_ | refine e_block ?_ | refine e_then_ret ?_ | refine e_block_ret ?_ | refine e_then_exit ?_ | refine e_block_here ?_ | refine e_then_panic ?_ | refine e_block_panic ?_) | refine e_block_on rfl ?_))
    refine r_1 (v := (.int .i64 _)) rfl rfl ?_
    have hr : rdEnd b s = 3 := by unfold rdEnd; rw [if_pos h0]
    rw [hr]
    exact ⟨rfl, H⟩
  · skip
    refine wp_skip ?_; (repeat (first | (with_reducible first | refine e_then ?_ | refine e_block ?_ | refine e_then_ret ?_ | refine e_block_ret ?_ | refine e_then_exit ?_ | refine e_block_here ?_ | refine e_then_panic ?_ | refine e_block_panic ?_) | refine e_block_on rfl ?_))
    refine wp_seq ?_
    -- R3
    refine c_region ?_
    refine L1 rfl rfl H (y_move (v := (.pointer _)) rfl rfl) ?_
    refine L1 rfl rfl H (y_nilCheck rfl rfl) ?_
    refine L1 rfl rfl H (y_fieldAddr 2 rfl rfl Try.underlying160 rfl Try.sizeOf3 rfl) ?_
    refine L1 rfl rfl H (y_load (v := .int .i64 (s.2 : Nat)) rfl rfl Try.isAgg3 (cell_blk (k := 0) rfl rfl)) ?_
    refine L1 rfl rfl H (y_assign (v := (.int .i64 _)) rfl rfl) ?_
    refine e_list ?_; (repeat (first | (with_reducible first | refine e_then ?_ | refine e_block ?_ | refine e_then_ret ?_ | refine e_block_ret ?_ | refine e_then_exit ?_ | refine e_block_here ?_ | refine e_then_panic ?_ | refine e_block_panic ?_) | refine e_block_on rfl ?_))
    refine wp_ret ?_; (repeat (first | (with_reducible first | refine e_then ?_ | refine e_block ?_ | refine e_then_ret ?_ | refine e_block_ret ?_ | refine e_then_exit ?_ | refine e_block_here ?_ | refine e_then_panic ?_ | refine e_block_panic ?_) | refine e_block_on rfl ?_))
    refine r_1 (v := (.int .i64 _)) rfl rfl ?_
    have hr : rdEnd b s = s.2 := by unfold rdEnd; rw [if_neg h0]
    rw [hr]
    exact ⟨rfl, H⟩
-- »end
-- «raw»
theorem rd_at {w : World} {B n : Nat} {a : Addr} {len cap i : Nat} {b : By} (h : w.ownsRow B 5 1 (.slice (some a) len cap) n (b.map bv)) (hi : i < b.length) : w.cell? (a.add (i * 1)) = some (bv (b.getD i 0)) := by
  rw [Nat.mul_one]
  refine (rd_row h).at_ (j := i) ?_
  rw [List.getElem?_map, List.getD_eq_getElem?_getD, List.getElem?_eq_getElem hi]
  rfl
theorem take_drop_bv {b : By} {p i : Nat} (h : p + i < b.length) : ((b.drop p).take i).map bv ++ [bv (b.getD (p + i) 0)] = ((b.drop p).take (i + 1)).map bv := by
  have h1 : i < (b.drop p).length := by rw [List.length_drop]; omega
  rw [← Dig.take_bv h1, List.getD_eq_getElem?_getD, List.getD_eq_getElem?_getD, List.getElem?_drop]
theorem raw_calls {n : Nat} {s : RS} (hn : n ≤ 140737488355328) (H : Heap w0 (rfr w0 g A cap b s R) w) (hb : b.length ≤ 140737488355328) (hat : s.1 ≤ b.length) :
    Calls Try.prog 99 #[.pointer (some ⟨g, 0, none⟩), .int .i64 (n : Nat)] w fun e w' => ∃ A1 c1, e = .returned (.slice A1 (rdRaw b n s).2.length c1) ∧ (rdRaw b n s).2.length ≤ c1 ∧ (rdRaw b n s).1.1 ≤ b.length ∧
      Heap w0 (rfr w0 g A cap b (rdRaw b n s).1 (rowB w0 A1 c1 (rdRaw b n s).2 :: R)) w' := by
  refine c_enter (xa := [.pointer (some ⟨g, 0, none⟩), .int .i64 (n : Nat)]) 62 Try.func99 rfl rfl rfl ?_
  refine wp_seq ?_
  -- R0
  refine c_region ?_
  refine L1 rfl rfl H (y_assign (v := (.slice _ _ _)) rfl rfl) ?_
  refine e_list ?_; (repeat (first | (with_reducible first | refine e_then ?_ | refine e_block ?_ | refine e_then_ret ?_ | refine e_block_ret ?_ | refine e_then_exit ?_ | refine e_block_here ?_ | refine e_then_panic ?_ | refine e_block_panic ?_) | refine e_block_on rfl ?_))
  refine wp_seq ?_
  refine wp_seq ?_
  -- R1
  refine c_region ?_
  refine L1 rfl rfl H (y_move (v := (.pointer _)) rfl rfl) ?_
  refine L1 rfl rfl H (y_nilCheck rfl rfl) ?_
  refine L1 rfl rfl H (y_fieldAddr 2 rfl rfl Try.underlying160 rfl Try.sizeOf3 rfl) ?_
  refine L1 rfl rfl H (y_load (v := .int .i64 (s.2 : Nat)) rfl rfl Try.isAgg3 (cell_blk (k := 0) rfl rfl)) ?_
  refine L1 rfl rfl H (y_neq rfl rfl rfl) ?_
  refine e_list ?_; (repeat (first | (with_reducible first | refine e_then ?_ | refine e_block ?_ | refine e_then_ret ?_ | refine e_block_ret ?_ | refine e_then_exit ?_ | refine e_block_here ?_ | refine e_then_panic ?_ | refine e_block_panic ?_) | refine e_block_on rfl ?_))
  refine c_if rfl (fun h0 => ?_) (fun h0 => ?_)   -- if 0
  · skip
    have hr : rdRaw b n s = (s, []) := by unfold rdRaw; rw [if_pos (by omega)]
    refine wp_seq ?_
    -- R2
    refine c_region ?_
    refine L1 rfl rfl H (y_assign (v := (.slice _ _ _)) rfl rfl) ?_
    refine e_list ?_; (repeat (first | (with_reducible first | refine e_then ?_ | refine e_block ?_ | refine e_then_ret ?_ | refine e_block_ret ?_ | refine e_then_exit ?_ | refine e_block_here ?_ | refine e_then_panic ?_ | refine e_block_panic ?_) | refine e_block_on rfl ?_))
    refine wp_ret ?_; (repeat (first | (with_reducible first | refine e_then ?_ | refine e_block ?_ | refine e_then_ret ?_ | refine e_block_ret ?_ | refine e_then_exit ?_ | refine e_block_here ?_ | refine e_then_panic ?_ | refine e_block_panic ?_) | refine e_block_on rfl ?_))
    refine r_1 (v := (.slice _ _ _)) rfl rfl ?_
    rw [hr]
    exact ⟨none, 0, rfl, Nat.le_refl _, hat, (H.row0 5 1).perm ((List.Perm.swap _ _ _).trans ((List.Perm.swap _ _ _).cons _))⟩
  · skip
    have hs2 : s.2 = 0 := by omega
    refine wp_skip ?_; (repeat (first | (with_reducible first | refine e_then ?_ | refine e_block ?_ | refine e_then_ret ?_ | refine e_block_ret ?_ | refine e_then_exit ?_ | refine e_block_here ?_ | refine e_then_panic ?_ | refine e_block_panic ?_) | refine e_block_on rfl ?_))
    refine wp_seq ?_
    refine wp_seq ?_
    -- R3
    refine c_region ?_
    refine L1 rfl rfl H (y_move (v := (.int .i64 _)) rfl rfl) ?_
    refine L1 rfl rfl H (y_lss rfl rfl rfl) ?_
    refine e_list ?_; (repeat (first | (with_reducible first | refine e_then ?_ | refine e_block ?_ | refine e_then_ret ?_ | refine e_block_ret ?_ | refine e_then_exit ?_ | refine e_block_here ?_ | refine e_then_panic ?_ | refine e_block_panic ?_) | refine e_block_on rfl ?_))
    refine c_if rfl (fun h1 => ?_) (fun h1 => ?_)   -- if 1
    · exact absurd h1 (by omega)
    · skip
      refine wp_skip ?_; (repeat (first | (with_reducible first | refine e_then ?_ | refine e_block ?_ | refine e_then_ret ?_ | refine e_block_ret ?_ | refine e_then_exit ?_ | refine e_block_here ?_ | refine e_then_panic ?_ | refine e_block_panic ?_) | refine e_block_on rfl ?_))
      refine wp_seq ?_
      refine wp_seq ?_
      -- R6 draws
      refine c_draw H (by kernel_rfl) (by kernel_rfl) ?_
      refine Q1 rfl rfl (y_move (v := (.pointer _)) rfl rfl) ?_
      refine Q1 rfl rfl (y_nilCheck rfl rfl) ?_
      refine Q1 rfl rfl (y_fieldAddr 0 rfl rfl Try.underlying160 rfl Try.sizeOf22 rfl) ?_
      refine Q1 rfl rfl (y_load (v := .slice A b.length cap) rfl rfl Try.isAgg22 (cell_blk (k := 0) rfl rfl)) ?_
      refine Q1 rfl rfl (y_len_slice rfl rfl Try.underlying22) ?_
      refine Q1 rfl rfl (y_move (v := (.pointer _)) rfl rfl) ?_
      refine Q1 rfl rfl (y_nilCheck rfl rfl) ?_
      refine Q1 rfl rfl (y_fieldAddr 1 rfl rfl Try.underlying160 rfl Try.sizeOf3 rfl) ?_
      refine Q1 rfl rfl (y_load (v := .int .i64 (s.1 : Nat)) rfl rfl Try.isAgg3 (cell_blk (k := 0) rfl rfl)) ?_
      refine Q1 rfl rfl (y_sub rfl rfl rfl (by first | exact wr_i64 (by omega) (by omega) | rfl)) ?_
      refine Q1 rfl rfl (y_move (v := (.int .i64 _)) rfl rfl) ?_
      refine Q1 rfl rfl (y_lss rfl rfl rfl) ?_
      refine Qend ?_; intro w H; (repeat (first | (with_reducible first | refine e_then ?_ | refine e_block ?_ | refine e_then_ret ?_ | refine e_block_ret ?_ | refine e_then_exit ?_ | refine e_block_here ?_ | refine e_then_panic ?_ | refine e_block_panic ?_) | refine e_block_on rfl ?_))
      refine c_if rfl (fun h2 => ?_) (fun h2 => ?_)   -- if 2
      · skip
        have hr : rdRaw b n s = ((s.1, 2), []) := by unfold rdRaw; rw [if_neg (by omega), if_neg (by omega)]
        refine wp_seq ?_
        -- R7
        refine c_region ?_
        refine L1 rfl rfl H (y_move (v := (.pointer _)) rfl rfl) ?_
        refine L1 rfl rfl H (y_nilCheck rfl rfl) ?_
        refine L1 rfl rfl H (y_fieldAddr 2 rfl rfl Try.underlying160 rfl Try.sizeOf3 rfl) ?_
        refine Lset 0 2 rfl rfl rfl rfl (v := .int .i64 (2 : Nat)) rfl H rfl rfl Try.sizeOf3 rfl rfl (by show 2 < 3; omega) ?_; intro w H
        refine e_list ?_; (repeat (first | (with_reducible first | refine e_then ?_ | refine e_block ?_ | refine e_then_ret ?_ | refine e_block_ret ?_ | refine e_then_exit ?_ | refine e_block_here ?_ | refine e_then_panic ?_ | refine e_block_panic ?_) | refine e_block_on rfl ?_))
        refine wp_seq ?_
        -- R8
        refine c_region ?_
        refine L1 rfl rfl H (y_assign (v := (.slice _ _ _)) rfl rfl) ?_
        refine e_list ?_; (repeat (first | (with_reducible first | refine e_then ?_ | refine e_block ?_ | refine e_then_ret ?_ | refine e_block_ret ?_ | refine e_then_exit ?_ | refine e_block_here ?_ | refine e_then_panic ?_ | refine e_block_panic ?_) | refine e_block_on rfl ?_))
        refine wp_ret ?_; (repeat (first | (with_reducible first | refine e_then ?_ | refine e_block ?_ | refine e_then_ret ?_ | refine e_block_ret ?_ | refine e_then_exit ?_ | refine e_block_here ?_ | refine e_then_panic ?_ | refine e_block_panic ?_) | refine e_block_on rfl ?_))
        refine r_1 (v := (.slice _ _ _)) rfl rfl ?_
        rw [hr]
        exact ⟨none, 0, rfl, Nat.le_refl _, hat, (H.row0 5 1).perm ((List.Perm.swap _ _ _).trans ((List.Perm.swap _ _ _).cons _))⟩
      · skip
        have hr : rdRaw b n s = ((s.1 + n, 0), (b.drop s.1).take n) := by unfold rdRaw; rw [if_neg (by omega), if_pos (by omega)]
        refine wp_skip ?_; (repeat (first | (with_reducible first | refine e_then ?_ | refine e_block ?_ | refine e_then_ret ?_ | refine e_block_ret ?_ | refine e_then_exit ?_ | refine e_block_here ?_ | refine e_then_panic ?_ | refine e_block_panic ?_) | refine e_block_on rfl ?_))
        refine wp_seq ?_
        -- R9
        refine c_region ?_
        refine L1 rfl rfl H (y_assign (v := (.slice _ _ _)) rfl rfl) ?_
        refine e_list ?_; (repeat (first | (with_reducible first | refine e_then ?_ | refine e_block ?_ | refine e_then_ret ?_ | refine e_block_ret ?_ | refine e_then_exit ?_ | refine e_block_here ?_ | refine e_then_panic ?_ | refine e_block_panic ?_) | refine e_block_on rfl ?_))
        replace H := H.row0 5 1
        refine wp_seq ?_
        refine wp_seq ?_
        -- R10
        refine c_region ?_
        refine L1 rfl rfl H (y_assign (v := (.int .i64 _)) rfl rfl) ?_
        refine e_list ?_; (repeat (first | (with_reducible first | refine e_then ?_ | refine e_block ?_ | refine e_then_ret ?_ | refine e_block_ret ?_ | refine e_then_exit ?_ | refine e_block_here ?_ | refine e_then_panic ?_ | refine e_block_panic ?_) | refine e_block_on rfl ?_))
        refine wp_block ?_   -- block 0
        refine c_loop (ι := Nat × Option Addr × Nat) (fun (i, A1, c1) f w => (∃ gx, f = ov [(0, .pointer (some ⟨g, 0, none⟩)), (1, .int .i64 (n : Nat)), (5, .slice A1 i c1), (6, .int .i64 (i : Nat))] gx) ∧ Heap w0 (Ent.row w0.heap.size 5 1 (.slice A1 i c1) i (((b.drop s.1).take i).map bv) :: rfr w0 g A cap b s R) w ∧ i ≤ n ∧ i ≤ c1) (fun (i, A1, c1) => n - i) (0, none, 0) ?_ ?_
        · exact ⟨ov_ex _ ⟨rfl, rfl, rfl, rfl, trivial⟩, H, by omega, by omega⟩
        rintro ⟨i, A1, c1⟩ f w ⟨⟨gg, rfl⟩, H, hi, hic⟩
        refine wp_seq ?_
        refine wp_seq ?_
        -- R11
        refine c_region ?_
        refine L1 rfl rfl H (y_move (v := (.int .i64 _)) rfl rfl) ?_
        refine L1 rfl rfl H (y_move (v := (.int .i64 _)) rfl rfl) ?_
        refine L1 rfl rfl H (y_lss rfl rfl rfl) ?_
        refine e_list ?_; (repeat (first | (with_reducible first | refine e_then ?_ | refine e_block ?_ | refine e_then_ret ?_ | refine e_block_ret ?_ | refine e_then_exit ?_ | refine e_block_here ?_ | refine e_then_panic ?_ | refine e_block_panic ?_) | refine e_block_on rfl ?_))
        refine c_if rfl (fun h3 => ?_) (fun h3 => ?_)   -- if 3
        · skip
          have hib : s.1 + i < b.length := by omega
          obtain ⟨a, rfl, _⟩ := (rd_row (H.get 2 rfl)).some (j := s.1 + i) (by rw [List.length_map]; omega)
          refine wp_skip ?_; (repeat (first | (with_reducible first | refine e_then ?_ | refine e_block ?_ | refine e_then_ret ?_ | refine e_block_ret ?_ | refine e_then_exit ?_ | refine e_block_here ?_ | refine e_then_panic ?_ | refine e_block_panic ?_) | refine e_block_on rfl ?_))
          refine wp_seq ?_
          refine wp_block ?_   -- block 1
          -- R13 draws
          refine c_mix [true, true, true, true, true, true, true, true, true, true, true, true, true, false, false, true] (CellsAt [(⟨g, 0, none⟩, .slice (some a) b.length cap), (⟨g, 1, none⟩, .int .i64 (s.1 : Nat)), (a.add ((s.1 + i) * 1), bv (b.getD (s.1 + i) 0))]) (by kernel_rfl) (by kernel_rfl) (by repeat (first | exact pk_body | refine pk_then ?_ | refine pk_block ?_)) H (fun w H => ⟨⟨cell_blk (k := 1) rfl rfl w H, cell_blk (k := 1) rfl rfl w H, rd_at (H.get 2 rfl) hib, trivial⟩, ?_⟩)
          refine M1 rfl rfl (y_move (v := (.slice _ _ _)) rfl rfl) ?_
          refine M1 rfl rfl (y_move (v := (.pointer _)) rfl rfl) ?_
          refine M1 rfl rfl (y_nilCheck rfl rfl) ?_
          refine M1 rfl rfl (y_fieldAddr 0 rfl rfl Try.underlying160 rfl Try.sizeOf22 rfl) ?_
          refine M1 rfl rfl (y_load (v := .slice (some a) b.length cap) rfl rfl Try.isAgg22 (fun w h => h.1)) ?_
          refine M1 rfl rfl (y_move (v := (.pointer _)) rfl rfl) ?_
          refine M1 rfl rfl (y_nilCheck rfl rfl) ?_
          refine M1 rfl rfl (y_fieldAddr 1 rfl rfl Try.underlying160 rfl Try.sizeOf3 rfl) ?_
          refine M1 rfl rfl (y_load (v := .int .i64 (s.1 : Nat)) rfl rfl Try.isAgg3 (fun w h => h.2.1)) ?_
          refine M1 rfl rfl (y_move (v := (.int .i64 _)) rfl rfl) ?_
          refine M1 rfl rfl (y_add (r := ((s.1 + i : Nat) : Int)) rfl rfl rfl (by rw [wr_i64 (by omega) (by omega)]; omega)) ?_
          refine M1 rfl rfl (y_indexSl rfl rfl rfl Try.underlying22 Try.sizeOf5 (by omega) (by omega)) ?_
          refine M1 rfl rfl (y_load (v := bv (b.getD (s.1 + i) 0)) rfl rfl Try.isAgg5 (fun w h => h.2.2.1)) ?_
          refine M2 ?_
          refine LbuildSlice1 (v := (.int .u8 _)) rfl rfl rfl rfl H Try.underlying22 Try.sizeOf5 Try.zeroValue5 rfl rfl ?_; intro b50 w H
          refine e_list (e_then ⟨⟨cell_blk (k := 2) rfl rfl w H, cell_blk (k := 2) rfl rfl w H, rd_at (H.get 3 rfl) hib, trivial⟩, ?_⟩)
          refine M2 ?_
          refine Lapp1 0 rfl rfl rfl rfl rfl H rfl Try.underlying22 Try.underlying22 (i := Try.t5) (by kernel_rfl) (z := .int .u8 0) rfl rfl rfl rfl (by show (_ + 1) * 1 ≤ _; omega) (by simp only [maxLen]; omega) ?_
          intro A1 c1 w hc1 H
          replace H : Heap w0 (Ent.row w0.heap.size 5 1 (.slice A1 (i + 1) c1) (i + 1) (((b.drop s.1).take i).map bv ++ [bv (b.getD (s.1 + i) 0)]) :: rfr w0 g (some a) cap b s R) w := H
          rw [take_drop_bv hib] at H
          refine e_list (e_then ⟨⟨cell_blk (k := 1) rfl rfl w H, cell_blk (k := 1) rfl rfl w H, rd_at (H.get 2 rfl) hib, trivial⟩, ?_⟩)
          refine M1 rfl rfl (y_assign (v := (.slice _ _ _)) rfl rfl) ?_
          refine Mend ?_; (repeat (first | (with_reducible first | refine e_then ?_ | refine e_block ?_ | refine e_then_ret ?_ | refine e_block_ret ?_ | refine e_then_exit ?_ | refine e_block_here ?_ | refine e_then_panic ?_ | refine e_block_panic ?_) | refine e_block_on rfl ?_))
          -- R12
          refine c_region ?_
          refine L1 rfl rfl H (y_move (v := (.int .i64 _)) rfl rfl) ?_
          refine L1 rfl rfl H (y_add (r := ((i + 1 : Nat) : Int)) rfl rfl rfl (by rw [wr_i64 (by omega) (by omega)]; omega)) ?_
          refine L1 rfl rfl H (y_assign (v := (.int .i64 _)) rfl rfl) ?_
          refine e_list ?_; (repeat (first | (with_reducible first | refine e_then ?_ | refine e_block ?_ | refine e_then_ret ?_ | refine e_block_ret ?_ | refine e_then_exit ?_ | refine e_block_here ?_ | refine e_then_panic ?_ | refine e_block_panic ?_) | refine e_block_on rfl ?_))
          exact ⟨(i + 1, A1, c1), _, rfl, ⟨ov_ex _ ⟨rfl, rfl, rfl, rfl, trivial⟩, H, by omega, by omega⟩, by show n - (i + 1) < n - i; omega⟩
        · skip
          have hie : i = n := by omega
          subst hie
          refine wp_exit ?_; (repeat (first | (with_reducible first | refine e_then ?_ | refine e_block ?_ | refine e_then_ret ?_ | refine e_block_ret ?_ | refine e_then_exit ?_ | refine e_block_here ?_ | refine e_then_panic ?_ | refine e_block_panic ?_) | refine e_block_on rfl ?_))
          refine wp_seq ?_
          -- R14
          refine c_region ?_
          refine L1 rfl rfl H (y_move (v := (.pointer _)) rfl rfl) ?_
          refine L1 rfl rfl H (y_move (v := (.pointer _)) rfl rfl) ?_
          refine L1 rfl rfl H (y_nilCheck rfl rfl) ?_
          refine L1 rfl rfl H (y_fieldAddr 1 rfl rfl Try.underlying160 rfl Try.sizeOf3 rfl) ?_
          refine L1 rfl rfl H (y_load (v := .int .i64 (s.1 : Nat)) rfl rfl Try.isAgg3 (cell_blk (k := 1) rfl rfl)) ?_
          refine L1 rfl rfl H (y_move (v := (.int .i64 _)) rfl rfl) ?_
          refine L1 rfl rfl H (y_add (r := ((s.1 + i : Nat) : Int)) rfl rfl rfl (by rw [wr_i64 (by omega) (by omega)]; omega)) ?_
          refine L1 rfl rfl H (y_nilCheck rfl rfl) ?_
          refine L1 rfl rfl H (y_fieldAddr 1 rfl rfl Try.underlying160 rfl Try.sizeOf3 rfl) ?_
          refine Lset 1 1 rfl rfl rfl rfl (v := .int .i64 (s.1 + i : Nat)) rfl H rfl rfl Try.sizeOf3 rfl rfl (by show 1 < 3; omega) ?_; intro w H
          refine e_list ?_; (repeat (first | (with_reducible first | refine e_then ?_ | refine e_block ?_ | refine e_then_ret ?_ | refine e_block_ret ?_ | refine e_then_exit ?_ | refine e_block_here ?_ | refine e_then_panic ?_ | refine e_block_panic ?_) | refine e_block_on rfl ?_))
          refine wp_seq ?_
          -- R15
          refine c_region ?_
          refine L1 rfl rfl H (y_move (v := (.slice _ _ _)) rfl rfl) ?_
          refine L1 rfl rfl H (y_assign (v := (.slice _ _ _)) rfl rfl) ?_
          refine e_list ?_; (repeat (first | (with_reducible first | refine e_then ?_ | refine e_block ?_ | refine e_then_ret ?_ | refine e_block_ret ?_ | refine e_then_exit ?_ | refine e_block_here ?_ | refine e_then_panic ?_ | refine e_block_panic ?_) | refine e_block_on rfl ?_))
          refine wp_ret ?_; (repeat (first | (with_reducible first | refine e_then ?_ | refine e_block ?_ | refine e_then_ret ?_ | refine e_block_ret ?_ | refine e_then_exit ?_ | refine e_block_here ?_ | refine e_then_panic ?_ | refine e_block_panic ?_) | refine e_block_on rfl ?_))
          refine r_1 (v := (.slice _ _ _)) rfl rfl ?_
          have hl : ((b.drop s.1).take i).length = i := by rw [List.length_take, List.length_drop]; omega
          rw [hr]
          rw [hs2] at H
          refine ⟨A1, c1, by rw [hl], by rw [hl]; exact hic, by show s.1 + i ≤ _; omega, ?_⟩
          exact (rowB_of hl.symm H).perm ((List.Perm.swap _ _ _).trans ((List.Perm.swap _ _ _).cons _))
-- »raw
-- «text»
theorem txt_err {b : By} {s : RS} {most : Nat} {n3 : Nat × Nat × Nat} (h0 : s.2 = 0) (hn : n3 = num3 (b.drop s.1)) (h : n3.2.2 ≠ 0) : rdText b most s = ((s.1, n3.2.2), []) := by
  unfold rdText textS cntS
  rw [if_neg (by omega)]
  cases hx : numS (b.drop s.1) 0 0 with
  | ok p => obtain ⟨x, k⟩ := p; rw [num3_ok hx] at hn; subst hn; exact absurd rfl h
  | error c => rw [num3_err hx] at hn; subst hn; rfl
theorem txt_big {b : By} {s : RS} {most : Nat} {n3 : Nat × Nat × Nat} (h0 : s.2 = 0) (hx : numS (b.drop s.1) 0 0 = .ok (n3.1, n3.2.1)) (h : most < n3.1) : rdText b most s = ((s.1, 5), []) := by
  unfold rdText textS cntS
  rw [if_neg (by omega), hx]
  simp only
  rw [if_neg (by omega)]
theorem txt_short {b : By} {s : RS} {most : Nat} {n3 : Nat × Nat × Nat} (h0 : s.2 = 0) (hx : numS (b.drop s.1) 0 0 = .ok (n3.1, n3.2.1)) (h : n3.1 ≤ most) (hl : ¬ n3.2.1 + n3.1 ≤ (b.drop s.1).length) : rdText b most s = ((s.1, 2), []) := by
  unfold rdText textS cntS
  rw [if_neg (by omega), hx]
  simp only
  rw [if_pos h]
  simp only
  rw [if_neg hl]
theorem txt_ok {b : By} {s : RS} {most : Nat} {n3 : Nat × Nat × Nat} (h0 : s.2 = 0) (hx : numS (b.drop s.1) 0 0 = .ok (n3.1, n3.2.1)) (h : n3.1 ≤ most) (hl : n3.2.1 + n3.1 ≤ (b.drop s.1).length) :
    rdText b most s = ((s.1 + (n3.2.1 + n3.1), 0), ((b.drop s.1).drop n3.2.1).take n3.1) := by
  unfold rdText textS cntS
  rw [if_neg (by omega), hx]
  simp only
  rw [if_pos h]
  simp only
  rw [if_pos hl]
theorem text_calls {most : Nat} {s : RS} (hm : most ≤ 4611686018427387904) (H : Heap w0 (rfr w0 g A cap b s R) w) (hb : b.length ≤ 140737488355328) (hcap : b.length ≤ cap) (hat : s.1 ≤ b.length) :
    Calls Try.prog 100 #[.pointer (some ⟨g, 0, none⟩), .int .i64 (most : Nat)] w fun e w' => e = .returned (.string ⟨(rdText b most s).2.toArray⟩) ∧ (rdText b most s).1.1 ≤ b.length ∧ Heap w0 (rfr w0 g A cap b (rdText b most s).1 R) w' := by
  refine c_enter (xa := [.pointer (some ⟨g, 0, none⟩), .int .i64 (most : Nat)]) 78 Try.func100 rfl rfl rfl ?_
  obtain ⟨n3, hn3⟩ : ∃ n3, n3 = num3 (b.drop s.1) := ⟨_, rfl⟩
  refine wp_seq ?_
  -- R0
  refine c_region ?_
  refine L1 rfl rfl H (y_assign (v := (.string _)) rfl rfl) ?_
  refine e_list ?_; (repeat (first | (with_reducible first | refine e_then ?_ | refine e_block ?_ | refine e_then_ret ?_ | refine e_block_ret ?_ | refine e_then_exit ?_ | refine e_block_here ?_ | refine e_then_panic ?_ | refine e_block_panic ?_) | refine e_block_on rfl ?_))
  refine wp_seq ?_
  refine wp_seq ?_
  -- R1
  refine c_region ?_
  refine L1 rfl rfl H (y_move (v := (.pointer _)) rfl rfl) ?_
  refine L1 rfl rfl H (y_nilCheck rfl rfl) ?_
  refine L1 rfl rfl H (y_fieldAddr 2 rfl rfl Try.underlying160 rfl Try.sizeOf3 rfl) ?_
  refine L1 rfl rfl H (y_load (v := .int .i64 (s.2 : Nat)) rfl rfl Try.isAgg3 (cell_blk (k := 0) rfl rfl)) ?_
  refine L1 rfl rfl H (y_neq rfl rfl rfl) ?_
  refine e_list ?_; (repeat (first | (with_reducible first | refine e_then ?_ | refine e_block ?_ | refine e_then_ret ?_ | refine e_block_ret ?_ | refine e_then_exit ?_ | refine e_block_here ?_ | refine e_then_panic ?_ | refine e_block_panic ?_) | refine e_block_on rfl ?_))
  refine c_if rfl (fun h0 => ?_) (fun h0 => ?_)   -- if 0
  · skip
    have hr : rdText b most s = (s, []) := by unfold rdText; rw [if_pos (by omega)]
    refine wp_seq ?_
    -- R2
    refine c_region ?_
    refine L1 rfl rfl H (y_assign (v := (.string _)) rfl rfl) ?_
    refine e_list ?_; (repeat (first | (with_reducible first | refine e_then ?_ | refine e_block ?_ | refine e_then_ret ?_ | refine e_block_ret ?_ | refine e_then_exit ?_ | refine e_block_here ?_ | refine e_then_panic ?_ | refine e_block_panic ?_) | refine e_block_on rfl ?_))
    refine wp_ret ?_; (repeat (first | (with_reducible first | refine e_then ?_ | refine e_block ?_ | refine e_then_ret ?_ | refine e_block_ret ?_ | refine e_then_exit ?_ | refine e_block_here ?_ | refine e_then_panic ?_ | refine e_block_panic ?_) | refine e_block_on rfl ?_))
    refine r_1 (v := (.string _)) rfl rfl ?_
    rw [hr]
    exact ⟨rfl, hat, H⟩
  · skip
    have hs2 : s.2 = 0 := by omega
    refine wp_skip ?_; (repeat (first | (with_reducible first | refine e_then ?_ | refine e_block ?_ | refine e_then_ret ?_ | refine e_block_ret ?_ | refine e_then_exit ?_ | refine e_block_here ?_ | refine e_then_panic ?_ | refine e_block_panic ?_) | refine e_block_on rfl ?_))
    refine wp_seq ?_
    -- R3 draws
    refine c_draw H (by kernel_rfl) (by kernel_rfl) ?_
    refine Q1 rfl rfl (y_move (v := (.pointer _)) rfl rfl) ?_
    refine Q1 rfl rfl (y_nilCheck rfl rfl) ?_
    refine Q1 rfl rfl (y_fieldAddr 0 rfl rfl Try.underlying160 rfl Try.sizeOf22 rfl) ?_
    refine Q1 rfl rfl (y_load (v := .slice A b.length cap) rfl rfl Try.isAgg22 (cell_blk (k := 0) rfl rfl)) ?_
    refine Q1 rfl rfl (y_move (v := (.pointer _)) rfl rfl) ?_
    refine Q1 rfl rfl (y_nilCheck rfl rfl) ?_
    refine Q1 rfl rfl (y_fieldAddr 1 rfl rfl Try.underlying160 rfl Try.sizeOf3 rfl) ?_
    refine Q1 rfl rfl (y_load (v := .int .i64 (s.1 : Nat)) rfl rfl Try.isAgg3 (cell_blk (k := 0) rfl rfl)) ?_
    refine Qfn (xa := [(.slice _ _ _), (.int .i64 _)]) rfl rfl rfl rfl Try.call140 (fun w H => ((number3_calls hn3 (rd_row (H.get 1 rfl)) hb hat).mono (fun e w' h => ⟨h.1, H.app0 h.2⟩))) ?_   -- portage/portageref01.number
    refine Q1 rfl rfl (y_move (v := (.tuple _)) rfl rfl) ?_
    refine Q1 rfl rfl (y_extract (v := (.int .u64 _)) rfl rfl rfl) ?_
    refine Q1 rfl rfl (y_extract (v := (.int .i64 _)) rfl rfl rfl) ?_
    refine Q1 rfl rfl (y_extract (v := (.int .i64 _)) rfl rfl rfl) ?_
    refine Q1 rfl rfl (y_assign (v := (.int .u64 _)) rfl rfl) ?_
    refine Q1 rfl rfl (y_assign (v := (.int .i64 _)) rfl rfl) ?_
    refine Q1 rfl rfl (y_assign (v := (.int .i64 _)) rfl rfl) ?_
    refine Qend ?_; intro w H; (repeat (first | (with_reducible first | refine e_then ?_ | refine e_block ?_ | refine e_then_ret ?_ | refine e_block_ret ?_ | refine e_then_exit ?_ | refine e_block_here ?_ | refine e_then_panic ?_ | refine e_block_panic ?_) | refine e_block_on rfl ?_))
    refine wp_seq ?_
    refine wp_seq ?_
    -- R4
    refine c_region ?_
    refine L1 rfl rfl H (y_move (v := (.int .i64 _)) rfl rfl) ?_
    refine L1 rfl rfl H (y_neq rfl rfl rfl) ?_
    refine e_list ?_; (repeat (first | (with_reducible first | refine e_then ?_ | refine e_block ?_ | refine e_then_ret ?_ | refine e_block_ret ?_ | refine e_then_exit ?_ | refine e_block_here ?_ | refine e_then_panic ?_ | refine e_block_panic ?_) | refine e_block_on rfl ?_))
    refine c_if rfl (fun h1 => ?_) (fun h1 => ?_)   -- if 1
    · skip
      have hr : rdText b most s = ((s.1, n3.2.2), []) := txt_err hs2 hn3 (by omega)
      refine wp_seq ?_
      -- R5
      refine c_region ?_
      refine L1 rfl rfl H (y_move (v := (.pointer _)) rfl rfl) ?_
      refine L1 rfl rfl H (y_move (v := (.int .i64 _)) rfl rfl) ?_
      refine L1 rfl rfl H (y_nilCheck rfl rfl) ?_
      refine L1 rfl rfl H (y_fieldAddr 2 rfl rfl Try.underlying160 rfl Try.sizeOf3 rfl) ?_
      refine Lset 0 2 rfl rfl rfl rfl (v := .int .i64 (n3.2.2 : Nat)) rfl H rfl rfl Try.sizeOf3 rfl rfl (by show 2 < 3; omega) ?_; intro w H
      refine e_list ?_; (repeat (first | (with_reducible first | refine e_then ?_ | refine e_block ?_ | refine e_then_ret ?_ | refine e_block_ret ?_ | refine e_then_exit ?_ | refine e_block_here ?_ | refine e_then_panic ?_ | refine e_block_panic ?_) | refine e_block_on rfl ?_))
      refine wp_seq ?_
      -- R6
      refine c_region ?_
      refine L1 rfl rfl H (y_assign (v := (.string _)) rfl rfl) ?_
      refine e_list ?_; (repeat (first | (with_reducible first | refine e_then ?_ | refine e_block ?_ | refine e_then_ret ?_ | refine e_block_ret ?_ | refine e_then_exit ?_ | refine e_block_here ?_ | refine e_then_panic ?_ | refine e_block_panic ?_) | refine e_block_on rfl ?_))
      refine wp_ret ?_; (repeat (first | (with_reducible first | refine e_then ?_ | refine e_block ?_ | refine e_then_ret ?_ | refine e_block_ret ?_ | refine e_then_exit ?_ | refine e_block_here ?_ | refine e_then_panic ?_ | refine e_block_panic ?_) | refine e_block_on rfl ?_))
      refine r_1 (v := (.string _)) rfl rfl ?_
      rw [hr]
      exact ⟨rfl, hat, H⟩
    · skip
      obtain ⟨hnum, hle⟩ := cnt_mid (s := s) hn3 (by omega)
      refine wp_skip ?_; (repeat (first | (with_reducible first | refine e_then ?_ | refine e_block ?_ | refine e_then_ret ?_ | refine e_block_ret ?_ | refine e_then_exit ?_ | refine e_block_here ?_ | refine e_then_panic ?_ | refine e_block_panic ?_) | refine e_block_on rfl ?_))
      refine wp_seq ?_
      refine wp_seq ?_
      -- R7
      refine c_region ?_
      refine L1 rfl rfl H (y_move (v := (.int .u64 _)) rfl rfl) ?_
      refine L1 rfl rfl H (y_move (v := (.int .i64 _)) rfl rfl) ?_
      refine Lfn rfl rfl rfl (xa := [.int .u64 (n3.1 : Nat), .int .i64 (most : Nat)]) rfl Try.call141 ?_   -- portage/portageref01.above
      refine (above_calls (by omega)).mono ?_
      rintro e w' ⟨rfl, K⟩
      replace H := H.app0 K
      clear K
      refine ⟨_, rfl, ?_⟩
      refine e_list ?_; (repeat (first | (with_reducible first | refine e_then ?_ | refine e_block ?_ | refine e_then_ret ?_ | refine e_block_ret ?_ | refine e_then_exit ?_ | refine e_block_here ?_ | refine e_then_panic ?_ | refine e_block_panic ?_) | refine e_block_on rfl ?_))
      refine c_if rfl (fun hq => ?_) (fun hq => ?_)   -- if 2
      · skip
        have hr : rdText b most s = ((s.1, 5), []) := txt_big hs2 hnum (by simpa using hq)
        refine wp_seq ?_
        -- R8
        refine c_region ?_
        refine L1 rfl rfl H (y_move (v := (.pointer _)) rfl rfl) ?_
        refine L1 rfl rfl H (y_nilCheck rfl rfl) ?_
        refine L1 rfl rfl H (y_fieldAddr 2 rfl rfl Try.underlying160 rfl Try.sizeOf3 rfl) ?_
        refine Lset 0 2 rfl rfl rfl rfl (v := .int .i64 (5 : Nat)) rfl H rfl rfl Try.sizeOf3 rfl rfl (by show 2 < 3; omega) ?_; intro w H
        refine e_list ?_; (repeat (first | (with_reducible first | refine e_then ?_ | refine e_block ?_ | refine e_then_ret ?_ | refine e_block_ret ?_ | refine e_then_exit ?_ | refine e_block_here ?_ | refine e_then_panic ?_ | refine e_block_panic ?_) | refine e_block_on rfl ?_))
        refine wp_seq ?_
        -- R9
        refine c_region ?_
        refine L1 rfl rfl H (y_assign (v := (.string _)) rfl rfl) ?_
        refine e_list ?_; (repeat (first | (with_reducible first | refine e_then ?_ | refine e_block ?_ | refine e_then_ret ?_ | refine e_block_ret ?_ | refine e_then_exit ?_ | refine e_block_here ?_ | refine e_then_panic ?_ | refine e_block_panic ?_) | refine e_block_on rfl ?_))
        refine wp_ret ?_; (repeat (first | (with_reducible first | refine e_then ?_ | refine e_block ?_ | refine e_then_ret ?_ | refine e_block_ret ?_ | refine e_then_exit ?_ | refine e_block_here ?_ | refine e_then_panic ?_ | refine e_block_panic ?_) | refine e_block_on rfl ?_))
        refine r_1 (v := (.string _)) rfl rfl ?_
        rw [hr]
        exact ⟨rfl, hat, H⟩
      · skip
        have hm2 : n3.1 ≤ most := by simpa using hq
        refine wp_skip ?_; (repeat (first | (with_reducible first | refine e_then ?_ | refine e_block ?_ | refine e_then_ret ?_ | refine e_block_ret ?_ | refine e_then_exit ?_ | refine e_block_here ?_ | refine e_then_panic ?_ | refine e_block_panic ?_) | refine e_block_on rfl ?_))
        refine wp_seq ?_
        -- R10
        refine c_region ?_
        refine L1 rfl rfl H (y_move (v := (.pointer _)) rfl rfl) ?_
        refine L1 rfl rfl H (y_nilCheck rfl rfl) ?_
        refine L1 rfl rfl H (y_fieldAddr 1 rfl rfl Try.underlying160 rfl Try.sizeOf3 rfl) ?_
        refine L1 rfl rfl H (y_load (v := .int .i64 (s.1 : Nat)) rfl rfl Try.isAgg3 (cell_blk (k := 0) rfl rfl)) ?_
        refine L1 rfl rfl H (y_move (v := (.int .i64 _)) rfl rfl) ?_
        refine L1 rfl rfl H (y_add (r := ((s.1 + n3.2.1 : Nat) : Int)) rfl rfl rfl (by rw [wr_i64 (by omega) (by omega)]; omega)) ?_
        refine L1 rfl rfl H (y_assign (v := (.int .i64 _)) rfl rfl) ?_
        refine e_list ?_; (repeat (first | (with_reducible first | refine e_then ?_ | refine e_block ?_ | refine e_then_ret ?_ | refine e_block_ret ?_ | refine e_then_exit ?_ | refine e_block_here ?_ | refine e_then_panic ?_ | refine e_block_panic ?_) | refine e_block_on rfl ?_))
        refine wp_seq ?_
        refine wp_seq ?_
        -- R11
        refine c_region ?_
        refine L1 rfl rfl H (y_move (v := (.int .u64 _)) rfl rfl) ?_
        refine L1 rfl rfl H (y_move (v := (.pointer _)) rfl rfl) ?_
        refine L1 rfl rfl H (y_nilCheck rfl rfl) ?_
        refine L1 rfl rfl H (y_fieldAddr 0 rfl rfl Try.underlying160 rfl Try.sizeOf22 rfl) ?_
        refine L1 rfl rfl H (y_load (v := .slice A b.length cap) rfl rfl Try.isAgg22 (cell_blk (k := 0) rfl rfl)) ?_
        refine L1 rfl rfl H (y_len_slice rfl rfl Try.underlying22) ?_
        refine L1 rfl rfl H (y_move (v := (.int .i64 _)) rfl rfl) ?_
        refine L1 rfl rfl H (y_sub (r := ((b.length - (s.1 + n3.2.1) : Nat) : Int)) rfl rfl rfl (by rw [wr_i64 (by omega) (by omega)]; omega)) ?_
        refine L1 rfl rfl H (y_conv rfl rfl Try.underlying3 Try.underlying86 (by first | exact wr_u64 (by omega) (by omega) | rfl)) ?_
        refine L1 rfl rfl H (y_gtr rfl rfl rfl) ?_
        refine e_list ?_; (repeat (first | (with_reducible first | refine e_then ?_ | refine e_block ?_ | refine e_then_ret ?_ | refine e_block_ret ?_ | refine e_then_exit ?_ | refine e_block_here ?_ | refine e_then_panic ?_ | refine e_block_panic ?_) | refine e_block_on rfl ?_))
        refine c_if rfl (fun h3 => ?_) (fun h3 => ?_)   -- if 3
        · skip
          have hr : rdText b most s = ((s.1, 2), []) := txt_short hs2 hnum hm2 (by rw [List.length_drop]; omega)
          refine wp_seq ?_
          -- R12
          refine c_region ?_
          refine L1 rfl rfl H (y_move (v := (.pointer _)) rfl rfl) ?_
          refine L1 rfl rfl H (y_nilCheck rfl rfl) ?_
          refine L1 rfl rfl H (y_fieldAddr 2 rfl rfl Try.underlying160 rfl Try.sizeOf3 rfl) ?_
          refine Lset 0 2 rfl rfl rfl rfl (v := .int .i64 (2 : Nat)) rfl H rfl rfl Try.sizeOf3 rfl rfl (by show 2 < 3; omega) ?_; intro w H
          refine e_list ?_; (repeat (first | (with_reducible first | refine e_then ?_ | refine e_block ?_ | refine e_then_ret ?_ | refine e_block_ret ?_ | refine e_then_exit ?_ | refine e_block_here ?_ | refine e_then_panic ?_ | refine e_block_panic ?_) | refine e_block_on rfl ?_))
          refine wp_seq ?_
          -- R13
          refine c_region ?_
          refine L1 rfl rfl H (y_assign (v := (.string _)) rfl rfl) ?_
          refine e_list ?_; (repeat (first | (with_reducible first | refine e_then ?_ | refine e_block ?_ | refine e_then_ret ?_ | refine e_block_ret ?_ | refine e_then_exit ?_ | refine e_block_here ?_ | refine e_then_panic ?_ | refine e_block_panic ?_) | refine e_block_on rfl ?_))
          refine wp_ret ?_; (repeat (first | (with_reducible first | refine e_then ?_ | refine e_block ?_ | refine e_then_ret ?_ | refine e_block_ret ?_ | refine e_then_exit ?_ | refine e_block_here ?_ | refine e_then_panic ?_ | refine e_block_panic ?_) | refine e_block_on rfl ?_))
          refine r_1 (v := (.string _)) rfl rfl ?_
          rw [hr]
          exact ⟨rfl, hat, H⟩
        · skip
          have hr : rdText b most s = ((s.1 + (n3.2.1 + n3.1), 0), ((b.drop s.1).drop n3.2.1).take n3.1) := txt_ok hs2 hnum hm2 (by rw [List.length_drop]; omega)
          refine wp_skip ?_; (repeat (first | (with_reducible first | refine e_then ?_ | refine e_block ?_ | refine e_then_ret ?_ | refine e_block_ret ?_ | refine e_then_exit ?_ | refine e_block_here ?_ | refine e_then_panic ?_ | refine e_block_panic ?_) | refine e_block_on rfl ?_))
          refine wp_seq ?_
          -- R14
          refine c_region ?_
          refine L1 rfl rfl H (y_move (v := (.pointer _)) rfl rfl) ?_
          refine L1 rfl rfl H (y_nilCheck rfl rfl) ?_
          refine L1 rfl rfl H (y_fieldAddr 0 rfl rfl Try.underlying160 rfl Try.sizeOf22 rfl) ?_
          refine L1 rfl rfl H (y_load (v := .slice A b.length cap) rfl rfl Try.isAgg22 (cell_blk (k := 0) rfl rfl)) ?_
          refine L1 rfl rfl H (y_move (v := (.int .i64 _)) rfl rfl) ?_
          refine L1 rfl rfl H (y_move (v := (.int .i64 _)) rfl rfl) ?_
          refine L1 rfl rfl H (y_move (v := (.int .u64 _)) rfl rfl) ?_
          refine L1 rfl rfl H (y_conv (r := (n3.1 : Nat)) rfl rfl Try.underlying86 Try.underlying3 (wr_i64 (by omega) (by omega))) ?_
          refine L1 rfl rfl H (y_add (r := ((s.1 + n3.2.1 + n3.1 : Nat) : Int)) rfl rfl rfl (by rw [wr_i64 (by omega) (by omega)]; omega)) ?_
          refine L1 rfl rfl H (y_slice_lh rfl rfl rfl rfl Try.underlying22 Try.sizeOf5 (by omega) (by omega) (by omega)) ?_
          refine L1 rfl rfl H (y_conv_slice_string (((b.drop s.1).drop n3.2.1).take n3.1) rfl rfl Try.underlying22 Try.underlying9 Try.underlying5 (by rw [List.length_take, List.length_drop, List.length_drop]; omega) (fun w H => by
          have h := ((rd_row (H.get 1 rfl)).sub (cap := cap) (l := s.1 + n3.2.1) (size := 1) (by rw [List.length_map]; omega)).take n3.1
          rw [Nat.mul_one, ← List.map_drop, ← List.map_take] at h
          rw [List.drop_drop]
          exact h)) ?_
          refine L1 rfl rfl H (y_assign (v := (.string _)) rfl rfl) ?_
          refine e_list ?_; (repeat (first | (with_reducible first | refine e_then ?_ | refine e_block ?_ | refine e_then_ret ?_ | refine e_block_ret ?_ | refine e_then_exit ?_ | refine e_block_here ?_ | refine e_then_panic ?_ | refine e_block_panic ?_) | refine e_block_on rfl ?_))
          refine wp_seq ?_
          -- R15
          refine c_region ?_
          refine L1 rfl rfl H (y_move (v := (.pointer _)) rfl rfl) ?_
          refine L1 rfl rfl H (y_move (v := (.int .i64 _)) rfl rfl) ?_
          refine L1 rfl rfl H (y_move (v := (.int .u64 _)) rfl rfl) ?_
          refine L1 rfl rfl H (y_conv (r := (n3.1 : Nat)) rfl rfl Try.underlying86 Try.underlying3 (wr_i64 (by omega) (by omega))) ?_
          refine L1 rfl rfl H (y_add (r := ((s.1 + n3.2.1 + n3.1 : Nat) : Int)) rfl rfl rfl (by rw [wr_i64 (by omega) (by omega)]; omega)) ?_
          refine L1 rfl rfl H (y_nilCheck rfl rfl) ?_
          refine L1 rfl rfl H (y_fieldAddr 1 rfl rfl Try.underlying160 rfl Try.sizeOf3 rfl) ?_
          refine Lset 0 1 rfl rfl rfl rfl (v := .int .i64 (s.1 + n3.2.1 + n3.1 : Nat)) rfl H rfl rfl Try.sizeOf3 rfl rfl (by show 1 < 3; omega) ?_; intro w H
          refine e_list ?_; (repeat (first | (with_reducible first | refine e_then ?_ | refine e_block ?_ | refine e_then_ret ?_ | refine e_block_ret ?_ | refine e_then_exit ?_ | refine e_block_here ?_ | refine e_then_panic ?_ | refine e_block_panic ?_) | refine e_block_on rfl ?_))
          refine wp_seq ?_
          -- R16
          refine c_region ?_
          refine L1 rfl rfl H (y_move (v := (.string _)) rfl rfl) ?_
          refine L1 rfl rfl H (y_assign (v := (.string _)) rfl rfl) ?_
          refine e_list ?_; (repeat (first | (with_reducible first | refine e_then ?_ | refine e_block ?_ | refine e_then_ret ?_ | refine e_block_ret ?_ | refine e_then_exit ?_ | refine e_block_here ?_ | refine e_then_panic ?_ | refine e_block_panic ?_) | refine e_block_on rfl ?_))
          refine wp_ret ?_; (repeat (first | (with_reducible first | refine e_then ?_ | refine e_block ?_ | refine e_then_ret ?_ | refine e_block_ret ?_ | refine e_then_exit ?_ | refine e_block_here ?_ | refine e_then_panic ?_ | refine e_block_panic ?_) | refine e_block_on rfl ?_))
          refine r_1 (v := (.string _)) rfl rfl ?_
          rw [hr]
          rw [hs2, Nat.add_assoc] at H
          exact ⟨rfl, by show s.1 + (n3.2.1 + n3.1) ≤ _; omega, H⟩
-- »text
end
end Go.Ref
