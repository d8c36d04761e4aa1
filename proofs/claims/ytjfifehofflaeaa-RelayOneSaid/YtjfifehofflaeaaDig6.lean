/-
  SHA-256 in the document's answer: the whole sum.
-/
import Derived.Test.YtjfifehofflaeaaDig5
namespace Go.Dig
open Go.RowKit Go.Eng Go.Proofs
set_option linter.unusedSimpArgs false
set_option linter.unusedVariables false
attribute [local irreducible] wpList wpQuiet wpStill wpMix wpMixE

section
variable {w0 w : World} {R : List Ent}
-- «padded»
theorem padded_calls {A0 : Option Addr} {c0 : Nat} {bs : By} (hR : Rd w0 A0 (bs.map bv)) (hb : bs.length ≤ 140737488353000) :
    Calls Try.prog 102 #[.slice A0 bs.length c0] w0 fun e w' =>
      ∃ A c, e = .returned (.slice A (bs ++ padOf bs.length).length c) ∧ (bs ++ padOf bs.length).length ≤ c ∧ Heap w0 [Ent.row w0.heap.size 5 1 (.slice A (bs ++ padOf bs.length).length c) (bs ++ padOf bs.length).length ((bs ++ padOf bs.length).map bv)] w' := by
  refine c_enter (xa := [.slice A0 bs.length c0]) 49 Try.func102 rfl rfl rfl ?_
  have H := (Heap.init w0).row0 5 1
  obtain ⟨mm, hmm⟩ : ∃ mm, mm = bs.length * 8 % 2 ^ 64 := ⟨_, rfl⟩
  refine wp_seq ?_
  -- R0
  refine c_region ?_
  refine L1 rfl rfl H (y_assign (v := (.slice _ _ _)) rfl rfl) ?_
  refine e_list ?_; (repeat (first | (with_reducible first | refine e_then ?_ | refine e_block ?_ | refine e_then_ret ?_ | refine e_block_ret ?_ | refine e_then_exit ?_ | refine e_block_here ?_ | refine e_then_panic ?_ | refine e_block_panic ?_) | refine e_block_on rfl ?_))
  refine wp_seq ?_
  -- R1
  refine c_region ?_
  refine L1 rfl rfl H (y_assign (v := (.slice _ _ _)) rfl rfl) ?_
  refine e_list ?_; (repeat (first | (with_reducible first | refine e_then ?_ | refine e_block ?_ | refine e_then_ret ?_ | refine e_block_ret ?_ | refine e_then_exit ?_ | refine e_block_here ?_ | refine e_then_panic ?_ | refine e_block_panic ?_) | refine e_block_on rfl ?_))
  refine wp_seq ?_
  refine wp_seq ?_
  -- R2
  refine c_region ?_
  refine L1 rfl rfl H (y_assign (v := (.int .i64 _)) rfl rfl) ?_
  refine e_list ?_; (repeat (first | (with_reducible first | refine e_then ?_ | refine e_block ?_ | refine e_then_ret ?_ | refine e_block_ret ?_ | refine e_then_exit ?_ | refine e_block_here ?_ | refine e_then_panic ?_ | refine e_block_panic ?_) | refine e_block_on rfl ?_))
  refine wp_block ?_   -- block 0
  refine c_loop (ι := Nat × Option Addr × Nat) (fun (i, A, c) f w => (∃ gx, f = ov [(0, .slice A0 bs.length c0), (3, .slice A (i) c), (4, .int .i64 (i : Nat))] gx) ∧ Heap w0 ([Ent.row w0.heap.size 5 1 (.slice A (i) c) (i) ((bs.take i).map bv)]) w ∧ i ≤ bs.length ∧ i ≤ c) (fun (i, A, c) => bs.length - i) (0, none, 0) ?_ ?_
  · exact ⟨ov_ex _ ⟨rfl, rfl, rfl, trivial⟩, H, by omega, by omega⟩
  rintro ⟨i, A, c⟩ f w ⟨⟨gg, rfl⟩, H, hi, hic⟩
  refine wp_seq ?_
  refine wp_seq ?_
  -- R3
  refine c_region ?_
  refine L1 rfl rfl H (y_move (v := (.int .i64 _)) rfl rfl) ?_
  refine L1 rfl rfl H (y_move (v := (.slice _ _ _)) rfl rfl) ?_
  refine L1 rfl rfl H (y_len_slice rfl rfl Try.underlying22) ?_
  refine L1 rfl rfl H (y_lss rfl rfl rfl) ?_
  refine e_list ?_; (repeat (first | (with_reducible first | refine e_then ?_ | refine e_block ?_ | refine e_then_ret ?_ | refine e_block_ret ?_ | refine e_then_exit ?_ | refine e_block_here ?_ | refine e_then_panic ?_ | refine e_block_panic ?_) | refine e_block_on rfl ?_))
  refine c_if rfl (fun h0 => ?_) (fun h0 => ?_)   -- if 0
  · skip
    have hib : i < bs.length := by omega
    refine wp_skip ?_; (repeat (first | (with_reducible first | refine e_then ?_ | refine e_block ?_ | refine e_then_ret ?_ | refine e_block_ret ?_ | refine e_then_exit ?_ | refine e_block_here ?_ | refine e_then_panic ?_ | refine e_block_panic ?_) | refine e_block_on rfl ?_))
    refine wp_seq ?_
    refine wp_block ?_   -- block 1
    -- R5
    refine c_region ?_
    refine L1 rfl rfl H (y_move (v := (.slice _ _ _)) rfl rfl) ?_
    refine L1 rfl rfl H (y_move (v := (.slice _ _ _)) rfl rfl) ?_
    refine L1 rfl rfl H (y_move (v := (.int .i64 _)) rfl rfl) ?_
    obtain ⟨a0, rfl, _⟩ := hR.some (j := i) (by rw [List.length_map]; omega)
    refine L1 rfl rfl H (y_indexSl rfl rfl rfl Try.underlying22 Try.sizeOf5 (by omega) (by omega)) ?_
    refine L1 rfl rfl H (y_load (v := bv (bs.getD i 0)) rfl rfl Try.isAgg5 (rd_get hR hib)) ?_
    refine LbuildSlice1 (v := (.int .u8 _)) rfl rfl rfl rfl H Try.underlying22 Try.sizeOf5 Try.zeroValue5 rfl rfl ?_; intro b18 w H
    refine Lapp1 0 rfl rfl rfl rfl rfl H rfl Try.underlying22 Try.underlying22 (i := Try.t5) (by kernel_rfl) (z := .int .u8 0) rfl rfl rfl rfl (by show (_ + 1) * 1 ≤ _; omega) (by simp only [maxLen]; omega) ?_
    intro A c w hc H
    replace H : Heap w0 [Ent.row w0.heap.size 5 1 (.slice A (i + 1) c) (i + 1) ((bs.take i).map bv ++ [bv (bs.getD i 0)])] w := H
    rw [take_bv hib] at H
    refine L1 rfl rfl H (y_assign (v := (.slice _ _ _)) rfl rfl) ?_
    refine e_list ?_; (repeat (first | (with_reducible first | refine e_then ?_ | refine e_block ?_ | refine e_then_ret ?_ | refine e_block_ret ?_ | refine e_then_exit ?_ | refine e_block_here ?_ | refine e_then_panic ?_ | refine e_block_panic ?_) | refine e_block_on rfl ?_))
    -- R4
    refine c_region ?_
    refine L1 rfl rfl H (y_move (v := (.int .i64 _)) rfl rfl) ?_
    refine L1 rfl rfl H (y_add (r := ((i + 1 : Nat) : Int)) rfl rfl rfl (by rw [wr_i64 (by omega) (by omega)]; omega)) ?_
    refine L1 rfl rfl H (y_assign (v := (.int .i64 _)) rfl rfl) ?_
    refine e_list ?_; (repeat (first | (with_reducible first | refine e_then ?_ | refine e_block ?_ | refine e_then_ret ?_ | refine e_block_ret ?_ | refine e_then_exit ?_ | refine e_block_here ?_ | refine e_then_panic ?_ | refine e_block_panic ?_) | refine e_block_on rfl ?_))
    exact ⟨(i + 1, A, c), _, rfl, ⟨ov_ex _ ⟨rfl, rfl, rfl, trivial⟩, H, by omega, by omega⟩, by show bs.length - (i + 1) < bs.length - i; omega⟩
  · skip
    have hie : i = bs.length := by omega
    subst hie
    rw [List.take_length] at H
    refine wp_exit ?_; (repeat (first | (with_reducible first | refine e_then ?_ | refine e_block ?_ | refine e_then_ret ?_ | refine e_block_ret ?_ | refine e_then_exit ?_ | refine e_block_here ?_ | refine e_then_panic ?_ | refine e_block_panic ?_) | refine e_block_on rfl ?_))
    refine wp_seq ?_
    -- R6
    refine c_region ?_
    refine L1 rfl rfl H (y_move (v := (.slice _ _ _)) rfl rfl) ?_
    refine LbuildSlice1 (v := (.int .u8 _)) rfl rfl rfl rfl H Try.underlying22 Try.sizeOf5 Try.zeroValue5 rfl rfl ?_; intro b21 w H
    refine Lapp1 0 rfl rfl rfl rfl rfl H rfl Try.underlying22 Try.underlying22 (i := Try.t5) (by kernel_rfl) (z := .int .u8 0) rfl rfl rfl rfl (by show (_ + 1) * 1 ≤ _; omega) (by simp only [maxLen]; omega) ?_
    intro A c w hc H
    replace H : Heap w0 [Ent.row w0.heap.size 5 1 (.slice A (bs.length + 1 + 0) c) (bs.length + 1 + 0) (bs.map bv ++ [bv 0x80])] w := H
    replace H : Heap w0 [Ent.row w0.heap.size 5 1 (.slice A (bs.length + 1 + 0) c) (bs.length + 1 + 0) (bs.map bv ++ (padL 0 mm 0).map bv)] w := H
    rw [← List.map_append] at H
    refine L1 rfl rfl H (y_assign (v := (.slice _ _ _)) rfl rfl) ?_
    refine e_list ?_; (repeat (first | (with_reducible first | refine e_then ?_ | refine e_block ?_ | refine e_then_ret ?_ | refine e_block_ret ?_ | refine e_then_exit ?_ | refine e_block_here ?_ | refine e_then_panic ?_ | refine e_block_panic ?_) | refine e_block_on rfl ?_))
    refine wp_seq ?_
    refine wp_block ?_   -- block 2
    refine c_loop (ι := Nat × Option Addr × Nat) (fun (z, A, c) f w => (∃ gx, f = ov [(0, .slice A0 bs.length c0), (3, .slice A (bs.length + 1 + z) c)] gx) ∧ Heap w0 ([Ent.row w0.heap.size 5 1 (.slice A (bs.length + 1 + z) c) (bs.length + 1 + z) ((bs ++ padL z mm 0).map bv)]) w ∧ z ≤ (119 - bs.length % 64) % 64 ∧ bs.length + 1 + z ≤ c) (fun (z, A, c) => 64 - z) (0, A, c) ?_ ?_
    · exact ⟨ov_ex _ ⟨rfl, rfl, trivial⟩, H, by omega, by omega⟩
    rintro ⟨z, A, c⟩ f w ⟨⟨gg, rfl⟩, H, hz, hzc⟩
    refine wp_seq ?_
    refine wp_seq ?_
    -- R7
    refine c_region ?_
    refine L1 rfl rfl H (y_move (v := (.slice _ _ _)) rfl rfl) ?_
    refine L1 rfl rfl H (y_len_slice rfl rfl Try.underlying22) ?_
    refine L1 rfl rfl H (y_rem (r := (((bs.length + 1 + z) % 64 : Nat) : Int)) rfl rfl rfl (by omega) (Int.ofNat_tmod _ 64).symm) ?_
    refine L1 rfl rfl H (y_neq rfl rfl rfl) ?_
    refine e_list ?_; (repeat (first | (with_reducible first | refine e_then ?_ | refine e_block ?_ | refine e_then_ret ?_ | refine e_block_ret ?_ | refine e_then_exit ?_ | refine e_block_here ?_ | refine e_then_panic ?_ | refine e_block_panic ?_) | refine e_block_on rfl ?_))
    refine c_if rfl (fun h1 => ?_) (fun h1 => ?_)   -- if 1
    · skip
      refine wp_skip ?_; (repeat (first | (with_reducible first | refine e_then ?_ | refine e_block ?_ | refine e_then_ret ?_ | refine e_block_ret ?_ | refine e_then_exit ?_ | refine e_block_here ?_ | refine e_then_panic ?_ | refine e_block_panic ?_) | refine e_block_on rfl ?_))
      refine wp_block ?_   -- block 3
      -- R8
      refine c_region ?_
      refine L1 rfl rfl H (y_move (v := (.slice _ _ _)) rfl rfl) ?_
      refine LbuildSlice1 (v := (.int .u8 _)) rfl rfl rfl rfl H Try.underlying22 Try.sizeOf5 Try.zeroValue5 rfl rfl ?_; intro b28 w H
      refine Lapp1 0 rfl rfl rfl rfl rfl H rfl Try.underlying22 Try.underlying22 (i := Try.t5) (by kernel_rfl) (z := .int .u8 0) rfl rfl rfl rfl (by show (_ + 1) * 1 ≤ _; omega) (by simp only [maxLen]; omega) ?_
      intro A c w hc H
      replace H : Heap w0 [Ent.row w0.heap.size 5 1 (.slice A (bs.length + 1 + (z + 1)) c) (bs.length + 1 + (z + 1)) ((bs ++ padL z mm 0).map bv ++ [bv 0])] w := H
      rw [padR_zero] at H
      refine L1 rfl rfl H (y_assign (v := (.slice _ _ _)) rfl rfl) ?_
      refine e_list ?_; (repeat (first | (with_reducible first | refine e_then ?_ | refine e_block ?_ | refine e_then_ret ?_ | refine e_block_ret ?_ | refine e_then_exit ?_ | refine e_block_here ?_ | refine e_then_panic ?_ | refine e_block_panic ?_) | refine e_block_on rfl ?_))
      exact ⟨(z + 1, A, c), _, rfl, ⟨ov_ex _ ⟨rfl, rfl, trivial⟩, H, by omega, by omega⟩, by show 64 - (z + 1) < 64 - z; omega⟩
    · skip
      have hze : z = (119 - bs.length % 64) % 64 := by omega
      refine wp_exit ?_; (repeat (first | (with_reducible first | refine e_then ?_ | refine e_block ?_ | refine e_then_ret ?_ | refine e_block_ret ?_ | refine e_then_exit ?_ | refine e_block_here ?_ | refine e_then_panic ?_ | refine e_block_panic ?_) | refine e_block_on rfl ?_))
      refine wp_seq ?_
      -- R9
      refine c_region ?_
      refine L1 rfl rfl H (y_move (v := (.slice _ _ _)) rfl rfl) ?_
      refine L1 rfl rfl H (y_len_slice rfl rfl Try.underlying22) ?_
      refine L1 rfl rfl H (y_conv rfl rfl Try.underlying3 Try.underlying86 (by first | exact wr_u64 (by omega) (by omega) | rfl)) ?_
      refine L1 rfl rfl H (y_mul (r := (mm : Nat)) rfl rfl rfl (by rw [wrap_u64, hmm]; omega)) ?_
      refine L1 rfl rfl H (y_assign (v := (.int .u64 _)) rfl rfl) ?_
      refine e_list ?_; (repeat (first | (with_reducible first | refine e_then ?_ | refine e_block ?_ | refine e_then_ret ?_ | refine e_block_ret ?_ | refine e_then_exit ?_ | refine e_block_here ?_ | refine e_then_panic ?_ | refine e_block_panic ?_) | refine e_block_on rfl ?_))
      refine wp_seq ?_
      refine wp_seq ?_
      -- R10
      refine c_region ?_
      refine L1 rfl rfl H (y_assign (v := (.int .i64 _)) rfl rfl) ?_
      refine e_list ?_; (repeat (first | (with_reducible first | refine e_then ?_ | refine e_block ?_ | refine e_then_ret ?_ | refine e_block_ret ?_ | refine e_then_exit ?_ | refine e_block_here ?_ | refine e_then_panic ?_ | refine e_block_panic ?_) | refine e_block_on rfl ?_))
      refine wp_block ?_   -- block 4
      refine c_loop (ι := Nat × Option Addr × Nat) (fun (j, A, c) f w => (∃ gx, f = ov [(3, .slice A (bs.length + 1 + z + j) c), (5, .int .u64 (mm : Nat)), (6, .int .i64 (j : Nat))] gx) ∧ Heap w0 ([Ent.row w0.heap.size 5 1 (.slice A (bs.length + 1 + z + j) c) (bs.length + 1 + z + j) ((bs ++ padL z mm j).map bv)]) w ∧ j ≤ 8 ∧ bs.length + 1 + z + j ≤ c) (fun (j, A, c) => 8 - j) (0, A, c) ?_ ?_
      · exact ⟨ov_ex _ ⟨rfl, rfl, rfl, trivial⟩, H, by omega, by omega⟩
      rintro ⟨j, A, c⟩ f w ⟨⟨gg, rfl⟩, H, hj, hjc⟩
      refine wp_seq ?_
      refine wp_seq ?_
      -- R11
      refine c_region ?_
      refine L1 rfl rfl H (y_move (v := (.int .i64 _)) rfl rfl) ?_
      refine L1 rfl rfl H (y_lss rfl rfl rfl) ?_
      refine e_list ?_; (repeat (first | (with_reducible first | refine e_then ?_ | refine e_block ?_ | refine e_then_ret ?_ | refine e_block_ret ?_ | refine e_then_exit ?_ | refine e_block_here ?_ | refine e_then_panic ?_ | refine e_block_panic ?_) | refine e_block_on rfl ?_))
      refine c_if rfl (fun h2 => ?_) (fun h2 => ?_)   -- if 2
      · skip
        have hj8 : j < 8 := by omega
        refine wp_skip ?_; (repeat (first | (with_reducible first | refine e_then ?_ | refine e_block ?_ | refine e_then_ret ?_ | refine e_block_ret ?_ | refine e_then_exit ?_ | refine e_block_here ?_ | refine e_then_panic ?_ | refine e_block_panic ?_) | refine e_block_on rfl ?_))
        refine wp_seq ?_
        refine wp_block ?_   -- block 5
        -- R13
        refine c_region ?_
        refine L1 rfl rfl H (y_move (v := (.slice _ _ _)) rfl rfl) ?_
        refine L1 rfl rfl H (y_move (v := (.int .u64 _)) rfl rfl) ?_
        refine L1 rfl rfl H (y_move (v := (.int .i64 _)) rfl rfl) ?_
        refine L1 rfl rfl H (y_mul (r := 8 * (j : Int)) rfl rfl rfl (wr_i64 (by omega) (by omega))) ?_
        refine L1 rfl rfl H (y_sub (r := 56 - 8 * (j : Int)) rfl rfl rfl (wr_i64 (by omega) (by omega))) ?_
        refine L1 rfl rfl H (y_conv rfl rfl Try.underlying3 Try.underlying162 (by first | exact wr_u64 (by omega) (by omega) | rfl)) ?_
        refine L1 rfl rfl H (y_shr (r := ((mm / 256 ^ (7 - j) : Nat) : Int)) rfl rfl rfl (by omega) (shr_u64 mm hj8)) ?_
        refine L1 rfl rfl H (y_conv rfl rfl Try.underlying86 Try.underlying5 (u8_ofNat _)) ?_
        refine LbuildSlice1 (v := (.int .u8 _)) rfl rfl rfl rfl H Try.underlying22 Try.sizeOf5 Try.zeroValue5 rfl rfl ?_; intro b46 w H
        refine Lapp1 0 rfl rfl rfl rfl rfl H rfl Try.underlying22 Try.underlying22 (i := Try.t5) (by kernel_rfl) (z := .int .u8 0) rfl rfl rfl rfl (by show (_ + 1) * 1 ≤ _; omega) (by simp only [maxLen]; omega) ?_
        intro A c w hc H
        replace H : Heap w0 [Ent.row w0.heap.size 5 1 (.slice A (bs.length + 1 + z + (j + 1)) c) (bs.length + 1 + z + (j + 1)) ((bs ++ padL z mm j).map bv ++ [bv (UInt8.ofNat (mm / 256 ^ (7 - j)))])] w := H
        rw [padR_byte hj8] at H
        refine L1 rfl rfl H (y_assign (v := (.slice _ _ _)) rfl rfl) ?_
        refine e_list ?_; (repeat (first | (with_reducible first | refine e_then ?_ | refine e_block ?_ | refine e_then_ret ?_ | refine e_block_ret ?_ | refine e_then_exit ?_ | refine e_block_here ?_ | refine e_then_panic ?_ | refine e_block_panic ?_) | refine e_block_on rfl ?_))
        -- R12
        refine c_region ?_
        refine L1 rfl rfl H (y_move (v := (.int .i64 _)) rfl rfl) ?_
        refine L1 rfl rfl H (y_add (r := ((j + 1 : Nat) : Int)) rfl rfl rfl (by rw [wr_i64 (by omega) (by omega)]; omega)) ?_
        refine L1 rfl rfl H (y_assign (v := (.int .i64 _)) rfl rfl) ?_
        refine e_list ?_; (repeat (first | (with_reducible first | refine e_then ?_ | refine e_block ?_ | refine e_then_ret ?_ | refine e_block_ret ?_ | refine e_then_exit ?_ | refine e_block_here ?_ | refine e_then_panic ?_ | refine e_block_panic ?_) | refine e_block_on rfl ?_))
        exact ⟨(j + 1, A, c), _, rfl, ⟨ov_ex _ ⟨rfl, rfl, rfl, trivial⟩, H, by omega, by omega⟩, by show 8 - (j + 1) < 8 - j; omega⟩
      · skip
        have hj8 : j = 8 := by omega
        subst hj8
        refine wp_exit ?_; (repeat (first | (with_reducible first | refine e_then ?_ | refine e_block ?_ | refine e_then_ret ?_ | refine e_block_ret ?_ | refine e_then_exit ?_ | refine e_block_here ?_ | refine e_then_panic ?_ | refine e_block_panic ?_) | refine e_block_on rfl ?_))
        refine wp_seq ?_
        -- R14
        refine c_region ?_
        refine L1 rfl rfl H (y_move (v := (.slice _ _ _)) rfl rfl) ?_
        refine L1 rfl rfl H (y_assign (v := (.slice _ _ _)) rfl rfl) ?_
        refine e_list ?_; (repeat (first | (with_reducible first | refine e_then ?_ | refine e_block ?_ | refine e_then_ret ?_ | refine e_block_ret ?_ | refine e_then_exit ?_ | refine e_block_here ?_ | refine e_then_panic ?_ | refine e_block_panic ?_) | refine e_block_on rfl ?_))
        refine wp_ret ?_; (repeat (first | (with_reducible first | refine e_then ?_ | refine e_block ?_ | refine e_then_ret ?_ | refine e_block_ret ?_ | refine e_then_exit ?_ | refine e_block_here ?_ | refine e_then_panic ?_ | refine e_block_panic ?_) | refine e_block_on rfl ?_))
        refine r_1 (v := (.slice _ _ _)) rfl rfl ?_
        have hpl : (padOf bs.length).length = 1 + z + 8 := by rw [← padL_full, padL_length (by omega), ← hze]
        have hl : bs.length + 1 + z + 8 = (bs ++ padOf bs.length).length := by rw [List.length_append, hpl]; omega
        rw [hze, hmm, padL_full, ← hze, hl] at H
        rw [hl] at hjc ⊢
        exact ⟨_, _, rfl, hjc, H⟩
-- »padded
-- «refsum»
theorem refSum_calls {A0 : Option Addr} {c0 : Nat} {bs : By} (hR : Rd w0 A0 (bs.map bv)) (hb : bs.length ≤ 140737488353000) :
    Calls Try.prog 47 #[.slice A0 bs.length c0] w0 fun e w' => e = .returned (.agg ((sum bs).map bv).toArray) ∧ Heap w0 [] w' := by
  refine c_enter (xa := [.slice A0 bs.length c0]) 39 Try.func47 rfl rfl rfl ?_
  have H := Heap.init w0
  refine wp_seq ?_
  -- R0
  refine c_region ?_
  refine Lalloc rfl rfl rfl H Try.zeroValue82 (cs := List.replicate 32 (bv 0)) rfl ?_; intro b2 w H
  refine e_list ?_; (repeat (first | (with_reducible first | refine e_then ?_ | refine e_block ?_ | refine e_then_ret ?_ | refine e_block_ret ?_ | refine e_then_exit ?_ | refine e_block_here ?_ | refine e_then_panic ?_ | refine e_block_panic ?_) | refine e_block_on rfl ?_))
  refine wp_seq ?_
  -- R1
  refine c_region ?_
  refine L1 rfl rfl H (y_move (v := (.slice _ _ _)) rfl rfl) ?_
  refine Lfn rfl rfl rfl (xa := [.slice A0 bs.length c0]) rfl Try.call102 ?_   -- portage/portageref02.Padded
  refine (padded_calls (hR.old H) hb).mono ?_
  rintro e w' ⟨A, c, rfl, hc, K⟩
  have hlen : (bs ++ padOf bs.length).length = bs.length + 1 + (119 - bs.length % 64) % 64 + 8 := by rw [← padL_full, List.length_append, padL_length (by omega)]; omega
  obtain ⟨pl, hpl0⟩ : ∃ pl, pl = bs ++ padOf bs.length := ⟨_, rfl⟩
  rw [← hpl0] at hlen hc K
  rw [← hpl0]
  replace H := H.app_row K
  clear K
  refine ⟨_, rfl, ?_⟩
  refine L1 rfl rfl H (y_assign (v := (.slice _ _ _)) rfl rfl) ?_
  refine e_list ?_; (repeat (first | (with_reducible first | refine e_then ?_ | refine e_block ?_ | refine e_then_ret ?_ | refine e_block_ret ?_ | refine e_then_exit ?_ | refine e_block_here ?_ | refine e_then_panic ?_ | refine e_block_panic ?_) | refine e_block_on rfl ?_))
  refine wp_seq ?_
  -- R2
  refine c_region ?_
  refine Lfn rfl rfl rfl (xa := []) rfl Try.call103 ?_   -- portage/portageref02.first
  refine portageref02_first_calls.mono ?_
  rintro e w' ⟨rfl, K⟩
  replace H := H.app0 K
  clear K
  refine ⟨_, rfl, ?_⟩
  refine Lalloc rfl rfl rfl H Try.zeroValue164 (cs := List.replicate 8 (.int .u32 0)) rfl ?_; intro b4 w H
  refine Lstore 0 rfl rfl rfl rfl (v := sv first) rfl H rfl (vs := first.list.map wv) rfl Try.sizeOf164 rfl rfl ?_; intro w H
  replace H : Heap w0 [Ent.blk b4 164 (first.list.map wv), Ent.row w0.heap.size 5 1 (.slice A pl.length c) pl.length (pl.map bv), Ent.blk b2 82 (List.replicate 32 (bv 0))] w := H
  refine e_list ?_; (repeat (first | (with_reducible first | refine e_then ?_ | refine e_block ?_ | refine e_then_ret ?_ | refine e_block_ret ?_ | refine e_then_exit ?_ | refine e_block_here ?_ | refine e_then_panic ?_ | refine e_block_panic ?_) | refine e_block_on rfl ?_))
  refine wp_seq ?_
  refine wp_seq ?_
  -- R3
  refine c_region ?_
  refine L1 rfl rfl H (y_assign (v := (.int .i64 _)) rfl rfl) ?_
  refine e_list ?_; (repeat (first | (with_reducible first | refine e_then ?_ | refine e_block ?_ | refine e_then_ret ?_ | refine e_block_ret ?_ | refine e_then_exit ?_ | refine e_block_here ?_ | refine e_then_panic ?_ | refine e_block_panic ?_) | refine e_block_on rfl ?_))
  refine wp_block ?_   -- block 0
  refine c_loop (ι := Nat × S8) (fun (p, st) f w => (∃ gx, f = ov [(2, .pointer (some ⟨b2, 0, none⟩)), (3, .slice A pl.length c), (4, .pointer (some ⟨b4, 0, none⟩)), (5, .int .i64 (p : Nat))] gx) ∧ Heap w0 ([Ent.blk b4 164 (st.list.map wv), Ent.row w0.heap.size 5 1 (.slice A pl.length c) pl.length (pl.map bv), Ent.blk b2 82 (List.replicate 32 (bv 0))]) w ∧ p % 64 = 0 ∧ p ≤ pl.length ∧ absorb st (pl.drop p) = absorb first pl) (fun (p, st) => pl.length - p) (0, first) ?_ ?_
  · exact ⟨ov_ex _ ⟨rfl, rfl, rfl, rfl, trivial⟩, H, rfl, by omega, rfl⟩
  rintro ⟨p, st⟩ f w ⟨⟨gg, rfl⟩, H, hp, hpl, hab⟩
  refine wp_seq ?_
  refine wp_seq ?_
  -- R4
  refine c_region ?_
  refine L1 rfl rfl H (y_move (v := (.int .i64 _)) rfl rfl) ?_
  refine L1 rfl rfl H (y_move (v := (.slice _ _ _)) rfl rfl) ?_
  refine L1 rfl rfl H (y_len_slice rfl rfl Try.underlying22) ?_
  refine L1 rfl rfl H (y_lss rfl rfl rfl) ?_
  refine e_list ?_; (repeat (first | (with_reducible first | refine e_then ?_ | refine e_block ?_ | refine e_then_ret ?_ | refine e_block_ret ?_ | refine e_then_exit ?_ | refine e_block_here ?_ | refine e_then_panic ?_ | refine e_block_panic ?_) | refine e_block_on rfl ?_))
  refine c_if rfl (fun h0 => ?_) (fun h0 => ?_)   -- if 0
  · skip
    refine wp_skip ?_; (repeat (first | (with_reducible first | refine e_then ?_ | refine e_block ?_ | refine e_then_ret ?_ | refine e_block_ret ?_ | refine e_then_exit ?_ | refine e_block_here ?_ | refine e_then_panic ?_ | refine e_block_panic ?_) | refine e_block_on rfl ?_))
    refine wp_seq ?_
    refine wp_block ?_   -- block 1
    -- R6
    refine c_region ?_
    refine L1 rfl rfl H (y_loadAgg (vs := st.list.map wv) rfl rfl Try.isAgg164 Try.sizeOf164 (cells_blk (k := 0) (off := 0) rfl rfl)) ?_
    refine L1 rfl rfl H (y_move (v := (.slice _ _ _)) rfl rfl) ?_
    refine L1 rfl rfl H (y_move (v := (.int .i64 _)) rfl rfl) ?_
    refine Lfn rfl rfl rfl (xa := [sv st, .slice A pl.length c, .int .i64 (p : Nat)]) rfl Try.call104 ?_   -- portage/portageref02.block
    obtain ⟨a, rfl, _⟩ := (rd_row (H.get 1 rfl)).some (j := 0) (by rw [List.length_map]; omega)
    refine (block_calls (rd_row (H.get 1 rfl)) rfl rfl (by omega) (by omega)).mono ?_
    rintro e w' ⟨rfl, K⟩
    replace H := H.app0 K
    clear K
    refine ⟨_, rfl, ?_⟩
    refine Lstore 0 rfl rfl rfl rfl (v := sv (behind st (pl.drop p))) rfl H rfl (vs := (behind st (pl.drop p)).list.map wv) rfl Try.sizeOf164 rfl rfl ?_; intro w H
    replace H : Heap w0 [Ent.blk b4 164 ((behind st (pl.drop p)).list.map wv), Ent.row w0.heap.size 5 1 (.slice (some a) pl.length c) pl.length (pl.map bv), Ent.blk b2 82 (List.replicate 32 (bv 0))] w := H
    refine e_list ?_; (repeat (first | (with_reducible first | refine e_then ?_ | refine e_block ?_ | refine e_then_ret ?_ | refine e_block_ret ?_ | refine e_then_exit ?_ | refine e_block_here ?_ | refine e_then_panic ?_ | refine e_block_panic ?_) | refine e_block_on rfl ?_))
    -- R5
    refine c_region ?_
    refine L1 rfl rfl H (y_move (v := (.int .i64 _)) rfl rfl) ?_
    refine L1 rfl rfl H (y_add (r := ((p + 64 : Nat) : Int)) rfl rfl rfl (by rw [wr_i64 (by omega) (by omega)]; omega)) ?_
    refine L1 rfl rfl H (y_assign (v := (.int .i64 _)) rfl rfl) ?_
    refine e_list ?_; (repeat (first | (with_reducible first | refine e_then ?_ | refine e_block ?_ | refine e_then_ret ?_ | refine e_block_ret ?_ | refine e_then_exit ?_ | refine e_block_here ?_ | refine e_then_panic ?_ | refine e_block_panic ?_) | refine e_block_on rfl ?_))
    exact ⟨(p + 64, behind st (pl.drop p)), _, rfl, ⟨ov_ex _ ⟨rfl, rfl, rfl, rfl, trivial⟩, H, by omega, by omega, by rw [← hab, absorb_ge st (by rw [List.length_drop]; omega), behind_take, List.drop_drop]⟩, by show pl.length - (p + 64) < pl.length - p; omega⟩
  · skip
    have hpe : p = pl.length := by omega
    rw [hpe, List.drop_length, absorb_lt st (by decide)] at hab
    refine wp_exit ?_; (repeat (first | (with_reducible first | refine e_then ?_ | refine e_block ?_ | refine e_then_ret ?_ | refine e_block_ret ?_ | refine e_then_exit ?_ | refine e_block_here ?_ | refine e_then_panic ?_ | refine e_block_panic ?_) | refine e_block_on rfl ?_))
    refine wp_seq ?_
    -- R7
    refine c_region ?_
    refine Lalloc rfl rfl rfl H Try.zeroValue82 (cs := List.replicate 32 (bv 0)) rfl ?_; intro b6 w H
    refine e_list ?_; (repeat (first | (with_reducible first | refine e_then ?_ | refine e_block ?_ | refine e_then_ret ?_ | refine e_block_ret ?_ | refine e_then_exit ?_ | refine e_block_here ?_ | refine e_then_panic ?_ | refine e_block_panic ?_) | refine e_block_on rfl ?_))
    refine wp_seq ?_
    refine wp_seq ?_
    -- R8
    refine c_region ?_
    refine L1 rfl rfl H (y_assign (v := (.int .i64 _)) rfl rfl) ?_
    refine e_list ?_; (repeat (first | (with_reducible first | refine e_then ?_ | refine e_block ?_ | refine e_then_ret ?_ | refine e_block_ret ?_ | refine e_then_exit ?_ | refine e_block_here ?_ | refine e_then_panic ?_ | refine e_block_panic ?_) | refine e_block_on rfl ?_))
    refine wp_block ?_   -- block 2
    refine c_loop (ι := Nat) (fun k f w => (∃ gx, f = ov [(2, .pointer (some ⟨b2, 0, none⟩)), (4, .pointer (some ⟨b4, 0, none⟩)), (6, .pointer (some ⟨b6, 0, none⟩)), (7, .int .i64 (k : Nat))] gx) ∧ Heap w0 ([Ent.blk b6 82 (outA st k), Ent.blk b4 164 (st.list.map wv), Ent.row w0.heap.size 5 1 (.slice A pl.length c) pl.length (pl.map bv), Ent.blk b2 82 (List.replicate 32 (bv 0))]) w ∧ k ≤ 32) (fun k => 32 - k) 0 ?_ ?_
    · exact ⟨ov_ex _ ⟨rfl, rfl, rfl, rfl, trivial⟩, H, by omega⟩
    rintro k f w ⟨⟨gg, rfl⟩, H, hk⟩
    refine wp_seq ?_
    refine wp_seq ?_
    -- R9
    refine c_region ?_
    refine L1 rfl rfl H (y_move (v := (.int .i64 _)) rfl rfl) ?_
    refine L1 rfl rfl H (y_lss rfl rfl rfl) ?_
    refine e_list ?_; (repeat (first | (with_reducible first | refine e_then ?_ | refine e_block ?_ | refine e_then_ret ?_ | refine e_block_ret ?_ | refine e_then_exit ?_ | refine e_block_here ?_ | refine e_then_panic ?_ | refine e_block_panic ?_) | refine e_block_on rfl ?_))
    refine c_if rfl (fun h1 => ?_) (fun h1 => ?_)   -- if 1
    · skip
      have hk32 : k < 32 := by omega
      refine wp_skip ?_; (repeat (first | (with_reducible first | refine e_then ?_ | refine e_block ?_ | refine e_then_ret ?_ | refine e_block_ret ?_ | refine e_then_exit ?_ | refine e_block_here ?_ | refine e_then_panic ?_ | refine e_block_panic ?_) | refine e_block_on rfl ?_))
      refine wp_seq ?_
      refine wp_block ?_   -- block 3
      -- R11
      refine c_region ?_
      refine L1 rfl rfl H (y_move (v := (.int .i64 _)) rfl rfl) ?_
      refine L1 rfl rfl H (y_move (v := (.int .i64 _)) rfl rfl) ?_
      refine L1 rfl rfl H (y_quo (r := ((k / 4 : Nat) : Int)) rfl rfl rfl (by omega) (by rw [show (k : Int).tdiv 4 = ((k / 4 : Nat) : Int) from (Int.ofNat_tdiv k 4).symm]; exact wr_i64 (by omega) (by omega))) ?_
      refine L1 rfl rfl H (y_indexArr rfl rfl rfl Try.underlying164 Try.sizeOf163 (by omega) (by omega)) ?_
      refine L1 rfl rfl H (y_load (v := wv (st.list.getD (k / 4) 0)) rfl rfl Try.isAgg163 (cell_blkI (k := 1) (k / 4) rfl (by omega) (list_get st (by omega)))) ?_
      refine L1 rfl rfl H (y_move (v := (.int .i64 _)) rfl rfl) ?_
      refine L1 rfl rfl H (y_rem (r := ((k % 4 : Nat) : Int)) rfl rfl rfl (by omega) (Int.ofNat_tmod k 4).symm) ?_
      refine L1 rfl rfl H (y_mul (r := 8 * ((k % 4 : Nat) : Int)) rfl rfl rfl (wr_i64 (by omega) (by omega))) ?_
      refine L1 rfl rfl H (y_sub (r := 24 - 8 * ((k % 4 : Nat) : Int)) rfl rfl rfl (wr_i64 (by omega) (by omega))) ?_
      refine L1 rfl rfl H (y_conv rfl rfl Try.underlying3 Try.underlying162 (by first | exact wr_u64 (by omega) (by omega) | rfl)) ?_
      refine L1 rfl rfl H (y_shr (r := (((st.list.getD (k / 4) 0).toNat / 256 ^ (3 - k % 4) : Nat) : Int)) rfl rfl rfl (by omega) (shr_u32 _ k)) ?_
      refine L1 rfl rfl H (y_conv rfl rfl Try.underlying163 Try.underlying5 (u8_ofNat _)) ?_
      refine L1 rfl rfl H (y_indexArr rfl rfl rfl Try.underlying82 Try.sizeOf5 (by omega) (by omega)) ?_
      refine Lset 0 k rfl rfl rfl rfl (v := bv (UInt8.ofNat ((st.list.getD (k / 4) 0).toNat / 256 ^ (3 - k % 4)))) rfl H rfl rfl Try.sizeOf5 rfl (by omega) (by rw [outA_length st (by omega)]; omega) ?_; intro w H
      replace H : Heap w0 [Ent.blk b6 82 ((outA st k).set k (bv (UInt8.ofNat ((st.list.getD (k / 4) 0).toNat / 256 ^ (3 - k % 4))))), Ent.blk b4 164 (st.list.map wv), Ent.row w0.heap.size 5 1 (.slice A pl.length c) pl.length (pl.map bv), Ent.blk b2 82 (List.replicate 32 (bv 0))] w := H
      rw [outA_set st hk32] at H
      refine e_list ?_; (repeat (first | (with_reducible first | refine e_then ?_ | refine e_block ?_ | refine e_then_ret ?_ | refine e_block_ret ?_ | refine e_then_exit ?_ | refine e_block_here ?_ | refine e_then_panic ?_ | refine e_block_panic ?_) | refine e_block_on rfl ?_))
      -- R10
      refine c_region ?_
      refine L1 rfl rfl H (y_move (v := (.int .i64 _)) rfl rfl) ?_
      refine L1 rfl rfl H (y_add (r := ((k + 1 : Nat) : Int)) rfl rfl rfl (by rw [wr_i64 (by omega) (by omega)]; omega)) ?_
      refine L1 rfl rfl H (y_assign (v := (.int .i64 _)) rfl rfl) ?_
      refine e_list ?_; (repeat (first | (with_reducible first | refine e_then ?_ | refine e_block ?_ | refine e_then_ret ?_ | refine e_block_ret ?_ | refine e_then_exit ?_ | refine e_block_here ?_ | refine e_then_panic ?_ | refine e_block_panic ?_) | refine e_block_on rfl ?_))
      exact ⟨k + 1, _, rfl, ⟨ov_ex _ ⟨rfl, rfl, rfl, rfl, trivial⟩, H, by omega⟩, by omega⟩
    · skip
      have hk32 : k = 32 := by omega
      subst hk32
      refine wp_exit ?_; (repeat (first | (with_reducible first | refine e_then ?_ | refine e_block ?_ | refine e_then_ret ?_ | refine e_block_ret ?_ | refine e_then_exit ?_ | refine e_block_here ?_ | refine e_then_panic ?_ | refine e_block_panic ?_) | refine e_block_on rfl ?_))
      refine wp_seq ?_
      -- R12
      refine c_region ?_
      refine L1 rfl rfl H (y_loadAgg (vs := (bytesOf st).map bv) rfl rfl Try.isAgg82 (by rw [List.length_map, bytesOf_length]; exact Try.sizeOf82) (cells_blk (k := 0) (off := 0) rfl (by rw [List.drop_zero, outA_full, List.take_length]))) ?_
      refine Lstore 3 rfl rfl rfl rfl (v := .agg ((bytesOf st).map bv).toArray) rfl H rfl (vs := (bytesOf st).map bv) rfl (by rw [List.length_map, bytesOf_length]; exact Try.sizeOf82) (List.all_eq_true.2 (Wire.bv_one _)) (by rw [List.length_map, bytesOf_length]; rfl) ?_; intro w H
      refine e_list ?_; (repeat (first | (with_reducible first | refine e_then ?_ | refine e_block ?_ | refine e_then_ret ?_ | refine e_block_ret ?_ | refine e_then_exit ?_ | refine e_block_here ?_ | refine e_then_panic ?_ | refine e_block_panic ?_) | refine e_block_on rfl ?_))
      refine wp_ret ?_; (repeat (first | (with_reducible first | refine e_then ?_ | refine e_block ?_ | refine e_then_ret ?_ | refine e_block_ret ?_ | refine e_then_exit ?_ | refine e_block_here ?_ | refine e_then_panic ?_ | refine e_block_panic ?_) | refine e_block_on rfl ?_))
      refine r_c rfl rfl (run_loadAgg (vs := (bytesOf st).map bv) Try.isAgg82 (by rw [List.length_map, bytesOf_length]; exact Try.sizeOf82) (fun j u hu => cells_blk (k := 3) (off := 0) rfl (by rw [List.drop_zero, List.take_zero, List.nil_append, List.take_left]) w H j u hu)) ?_
      have hst : st = (absorb first pl).1 := by rw [← hab]
      rw [sum, ← hpl0, ← hst]
      exact ⟨rfl, H.clear⟩
-- »refsum
end
end Go.Dig
