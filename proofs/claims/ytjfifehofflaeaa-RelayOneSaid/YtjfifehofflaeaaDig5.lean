/-
  SHA-256 in the program: the end of a hash, the whole sum.
-/
import Derived.Test.YtjfifehofflaeaaDig4
import Derived.Test.YtjfifehofflaeaaSpec3
namespace Go.Dig
open Go.RowKit Go.Eng Go.Proofs
set_option linter.unusedSimpArgs false
set_option linter.unusedVariables false
attribute [local irreducible] wpList wpQuiet wpStill wpMix wpMixE

section
variable {w0 w : World} {R : List Ent}
-- «end»
theorem end_calls {s : S8} {buf : By} {tot : Nat} (hbuf : tot % 64 = buf.length) (htot : tot ≤ 281474976710656) :
    Calls Try.prog 119 #[.agg (markC s (restC buf) tot).toArray] w0 fun e w' =>
      e = .returned (.agg ((bytesOf (absorb s (buf ++ padOf tot)).1).map bv).toArray) ∧ Heap w0 [] w' := by
  have h63 : tot % 64 < 64 := Nat.mod_lt _ (by decide)
  refine c_enter (xa := [.agg (markC s (restC buf) tot).toArray]) 57 Try.func119 rfl rfl rfl ?_
  have H := Heap.init w0
  obtain ⟨mm, hmm⟩ : ∃ mm, mm = tot * 8 % 2 ^ 64 := ⟨_, rfl⟩
  refine wp_seq ?_
  -- R0
  refine c_region ?_
  refine Lbox rfl rfl rfl (z := .agg (markC s (restC buf) tot).toArray) rfl H (cs := markC s (restC buf) tot) rfl ?_; intro b1 w H
  refine Lalloc rfl rfl rfl H Try.zeroValue82 (cs := List.replicate 32 (bv 0)) rfl ?_; intro b2 w H
  refine e_list ?_; (repeat (first | (with_reducible first | refine e_then ?_ | refine e_block ?_ | refine e_then_ret ?_ | refine e_block_ret ?_ | refine e_then_exit ?_ | refine e_block_here ?_ | refine e_then_panic ?_ | refine e_block_panic ?_) | refine e_block_on rfl ?_))
  refine wp_seq ?_
  -- R1
  refine c_region ?_
  refine L1 rfl rfl H (y_fieldAddr 72 rfl rfl Try.underlying182 rfl Try.sizeOf86 rfl) ?_
  refine L1 rfl rfl H (y_load (v := .int .u64 (tot : Nat)) rfl rfl Try.isAgg86 (cell_blk (k := 1) rfl (markC_tot (restC_length (by omega))))) ?_
  refine L1 rfl rfl H (y_mul (r := (mm : Nat)) rfl rfl rfl (by rw [wrap_u64, hmm]; omega)) ?_
  refine L1 rfl rfl H (y_assign (v := (.int .u64 _)) rfl rfl) ?_
  refine e_list ?_; (repeat (first | (with_reducible first | refine e_then ?_ | refine e_block ?_ | refine e_then_ret ?_ | refine e_block_ret ?_ | refine e_then_exit ?_ | refine e_block_here ?_ | refine e_then_panic ?_ | refine e_block_panic ?_) | refine e_block_on rfl ?_))
  refine wp_seq ?_
  -- R2
  refine c_region ?_
  refine Lmake 1 128 rfl rfl rfl rfl rfl H Try.underlying22 (i := Try.t5) (by kernel_rfl) (z := .int .u8 0) rfl (by omega) (by decide) (by omega) ?_; intro b11 w H
  replace H : Heap w0 [Ent.blk b11 5 (madeCells #[bv 0] 128).toList, Ent.blk b2 82 (List.replicate 32 (bv 0)), Ent.blk b1 182 (markC s (restC buf) tot)] w := H
  rw [made_one] at H
  refine L1 rfl rfl H (y_assign (v := (.slice _ _ _)) rfl rfl) ?_
  refine e_list ?_; (repeat (first | (with_reducible first | refine e_then ?_ | refine e_block ?_ | refine e_then_ret ?_ | refine e_block_ret ?_ | refine e_then_exit ?_ | refine e_block_here ?_ | refine e_then_panic ?_ | refine e_block_panic ?_) | refine e_block_on rfl ?_))
  refine wp_seq ?_
  -- R3
  refine c_region ?_
  refine L1 rfl rfl H (y_move (v := (.slice _ _ _)) rfl rfl) ?_
  refine L1 rfl rfl H (y_indexSl rfl rfl rfl Try.underlying22 Try.sizeOf5 (by omega) (by omega)) ?_
  refine Lset 0 0 rfl rfl rfl rfl (v := bv 0x80) rfl H rfl rfl Try.sizeOf5 rfl rfl (by simp) ?_; intro w H
  replace H : Heap w0 [Ent.blk b11 5 ((List.replicate 128 (bv 0)).set 0 (bv 0x80)), Ent.blk b2 82 (List.replicate 32 (bv 0)), Ent.blk b1 182 (markC s (restC buf) tot)] w := H
  replace H := H.to_row 0 rfl 1 1 128 (by simp) (by omega) (by decide)
  replace H : Heap w0 [Ent.row w0.heap.size 5 1 (.slice (some ⟨b11, 0, none⟩) (1 + 0) 128) (1 + 0) ((padL 0 mm 0).map bv), Ent.blk b2 82 (List.replicate 32 (bv 0)), Ent.blk b1 182 (markC s (restC buf) tot)] w := H
  refine e_list ?_; (repeat (first | (with_reducible first | refine e_then ?_ | refine e_block ?_ | refine e_then_ret ?_ | refine e_block_ret ?_ | refine e_then_exit ?_ | refine e_block_here ?_ | refine e_then_panic ?_ | refine e_block_panic ?_) | refine e_block_on rfl ?_))
  refine wp_seq ?_
  refine wp_block ?_   -- block 0
  refine c_loop (ι := Nat × Option Addr × Nat) (fun (z, A, c) f w => (∃ gx, f = ov [(1, .pointer (some ⟨b1, 0, none⟩)), (2, .pointer (some ⟨b2, 0, none⟩)), (3, .int .u64 (mm : Nat)), (4, .slice A (1 + z) c)] gx) ∧ Heap w0 ([Ent.row w0.heap.size 5 1 (.slice A (1 + z) c) (1 + z) ((padL z mm 0).map bv), Ent.blk b2 82 (List.replicate 32 (bv 0)), Ent.blk b1 182 (markC s (restC buf) tot)]) w ∧ z ≤ (119 - tot % 64) % 64 ∧ 1 + z ≤ c) (fun (z, A, c) => 64 - z) (0, some ⟨b11, 0, none⟩, 128) ?_ ?_
  · exact ⟨ov_ex _ ⟨rfl, rfl, rfl, rfl, trivial⟩, H, by omega, by omega⟩
  rintro ⟨z, A, c⟩ f w ⟨⟨gg, rfl⟩, H, hz, hzc⟩
  refine wp_seq ?_
  refine wp_seq ?_
  -- R4
  refine c_region ?_
  refine L1 rfl rfl H (y_fieldAddr 72 rfl rfl Try.underlying182 rfl Try.sizeOf86 rfl) ?_
  refine L1 rfl rfl H (y_load (v := .int .u64 (tot : Nat)) rfl rfl Try.isAgg86 (cell_blk (k := 2) rfl (markC_tot (restC_length (by omega))))) ?_
  refine L1 rfl rfl H (y_rem (r := ((tot % 64 : Nat) : Int)) rfl rfl rfl (by omega) (Int.ofNat_tmod tot 64).symm) ?_
  refine L1 rfl rfl H (y_conv rfl rfl Try.underlying86 Try.underlying3 (by first | exact wr_i64 (by omega) (by omega) | rfl)) ?_
  refine L1 rfl rfl H (y_move (v := (.slice _ _ _)) rfl rfl) ?_
  refine L1 rfl rfl H (y_len_slice rfl rfl Try.underlying22) ?_
  refine L1 rfl rfl H (y_add (r := ((tot % 64 + (1 + z) : Nat) : Int)) rfl rfl rfl (by rw [wr_i64 (by omega) (by omega)]; omega)) ?_
  refine L1 rfl rfl H (y_rem (r := (((tot % 64 + (1 + z)) % 64 : Nat) : Int)) rfl rfl rfl (by omega) (Int.ofNat_tmod _ 64).symm) ?_
  refine L1 rfl rfl H (y_neq rfl rfl rfl) ?_
  refine e_list ?_; (repeat (first | (with_reducible first | refine e_then ?_ | refine e_block ?_ | refine e_then_ret ?_ | refine e_block_ret ?_ | refine e_then_exit ?_ | refine e_block_here ?_ | refine e_then_panic ?_ | refine e_block_panic ?_) | refine e_block_on rfl ?_))
  refine c_if rfl (fun h0 => ?_) (fun h0 => ?_)   -- if 0
  · skip
    refine wp_skip ?_; (repeat (first | (with_reducible first | refine e_then ?_ | refine e_block ?_ | refine e_then_ret ?_ | refine e_block_ret ?_ | refine e_then_exit ?_ | refine e_block_here ?_ | refine e_then_panic ?_ | refine e_block_panic ?_) | refine e_block_on rfl ?_))
    refine wp_block ?_   -- block 1
    -- R5
    refine c_region ?_
    refine L1 rfl rfl H (y_move (v := (.slice _ _ _)) rfl rfl) ?_
    refine LbuildSlice1 (v := (.int .u8 _)) rfl rfl rfl rfl H Try.underlying22 Try.sizeOf5 Try.zeroValue5 rfl rfl ?_; intro b24 w H
    refine Lapp1 0 rfl rfl rfl rfl rfl H rfl Try.underlying22 Try.underlying22 (i := Try.t5) (by kernel_rfl) (z := .int .u8 0) rfl rfl rfl rfl (by show (_ + 1) * 1 ≤ _; omega) (by simp only [maxLen]; omega) ?_
    intro A c w hc H
    replace H : Heap w0 [Ent.row w0.heap.size 5 1 (.slice A (1 + (z + 1)) c) (1 + (z + 1)) ((padL z mm 0).map bv ++ [bv 0]), Ent.blk b2 82 (List.replicate 32 (bv 0)), Ent.blk b1 182 (markC s (restC buf) tot)] w := H
    rw [padL_zero] at H
    refine L1 rfl rfl H (y_assign (v := (.slice _ _ _)) rfl rfl) ?_
    refine e_list ?_; (repeat (first | (with_reducible first | refine e_then ?_ | refine e_block ?_ | refine e_then_ret ?_ | refine e_block_ret ?_ | refine e_then_exit ?_ | refine e_block_here ?_ | refine e_then_panic ?_ | refine e_block_panic ?_) | refine e_block_on rfl ?_))
    exact ⟨(z + 1, A, c), _, rfl, ⟨ov_ex _ ⟨rfl, rfl, rfl, rfl, trivial⟩, H, by omega, by omega⟩, by show 64 - (z + 1) < 64 - z; omega⟩
  · skip
    have hze : z = (119 - tot % 64) % 64 := by omega
    refine wp_exit ?_; (repeat (first | (with_reducible first | refine e_then ?_ | refine e_block ?_ | refine e_then_ret ?_ | refine e_block_ret ?_ | refine e_then_exit ?_ | refine e_block_here ?_ | refine e_then_panic ?_ | refine e_block_panic ?_) | refine e_block_on rfl ?_))
    refine wp_seq ?_
    refine wp_seq ?_
    -- R6
    refine c_region ?_
    refine L1 rfl rfl H (y_assign (v := (.int .i64 _)) rfl rfl) ?_
    refine e_list ?_; (repeat (first | (with_reducible first | refine e_then ?_ | refine e_block ?_ | refine e_then_ret ?_ | refine e_block_ret ?_ | refine e_then_exit ?_ | refine e_block_here ?_ | refine e_then_panic ?_ | refine e_block_panic ?_) | refine e_block_on rfl ?_))
    refine wp_block ?_   -- block 2
    refine c_loop (ι := Nat × Option Addr × Nat) (fun (j, A, c) f w => (∃ gx, f = ov [(1, .pointer (some ⟨b1, 0, none⟩)), (2, .pointer (some ⟨b2, 0, none⟩)), (3, .int .u64 (mm : Nat)), (4, .slice A (1 + z + j) c), (5, .int .i64 (56 - 8 * (j : Int)))] gx) ∧ Heap w0 ([Ent.row w0.heap.size 5 1 (.slice A (1 + z + j) c) (1 + z + j) ((padL z mm j).map bv), Ent.blk b2 82 (List.replicate 32 (bv 0)), Ent.blk b1 182 (markC s (restC buf) tot)]) w ∧ j ≤ 8 ∧ 1 + z + j ≤ c) (fun (j, A, c) => 8 - j) (0, A, c) ?_ ?_
    · exact ⟨ov_ex _ ⟨rfl, rfl, rfl, rfl, rfl, trivial⟩, H, by omega, by omega⟩
    rintro ⟨j, A, c⟩ f w ⟨⟨gg, rfl⟩, H, hj, hjc⟩
    refine wp_seq ?_
    refine wp_seq ?_
    -- R7
    refine c_region ?_
    refine L1 rfl rfl H (y_move (v := (.int .i64 _)) rfl rfl) ?_
    refine L1 rfl rfl H (y_geq rfl rfl rfl) ?_
    refine e_list ?_; (repeat (first | (with_reducible first | refine e_then ?_ | refine e_block ?_ | refine e_then_ret ?_ | refine e_block_ret ?_ | refine e_then_exit ?_ | refine e_block_here ?_ | refine e_then_panic ?_ | refine e_block_panic ?_) | refine e_block_on rfl ?_))
    refine c_if rfl (fun h1 => ?_) (fun h1 => ?_)   -- if 1
    · skip
      have hj8 : j < 8 := by omega
      refine wp_skip ?_; (repeat (first | (with_reducible first | refine e_then ?_ | refine e_block ?_ | refine e_then_ret ?_ | refine e_block_ret ?_ | refine e_then_exit ?_ | refine e_block_here ?_ | refine e_then_panic ?_ | refine e_block_panic ?_) | refine e_block_on rfl ?_))
      refine wp_seq ?_
      refine wp_block ?_   -- block 3
      -- R9
      refine c_region ?_
      refine L1 rfl rfl H (y_move (v := (.slice _ _ _)) rfl rfl) ?_
      refine L1 rfl rfl H (y_move (v := (.int .u64 _)) rfl rfl) ?_
      refine L1 rfl rfl H (y_move (v := (.int .i64 _)) rfl rfl) ?_
      refine L1 rfl rfl H (y_shr (r := ((mm / 256 ^ (7 - j) : Nat) : Int)) rfl rfl rfl (by omega) (shr_u64 mm hj8)) ?_
      refine L1 rfl rfl H (y_conv rfl rfl Try.underlying86 Try.underlying5 (u8_ofNat _)) ?_
      refine LbuildSlice1 (v := (.int .u8 _)) rfl rfl rfl rfl H Try.underlying22 Try.sizeOf5 Try.zeroValue5 rfl rfl ?_; intro b35 w H
      refine Lapp1 0 rfl rfl rfl rfl rfl H rfl Try.underlying22 Try.underlying22 (i := Try.t5) (by kernel_rfl) (z := .int .u8 0) rfl rfl rfl rfl (by show (_ + 1) * 1 ≤ _; omega) (by simp only [maxLen]; omega) ?_
      intro A c w hc H
      replace H : Heap w0 [Ent.row w0.heap.size 5 1 (.slice A (1 + z + (j + 1)) c) (1 + z + (j + 1)) ((padL z mm j).map bv ++ [bv (UInt8.ofNat (mm / 256 ^ (7 - j)))]), Ent.blk b2 82 (List.replicate 32 (bv 0)), Ent.blk b1 182 (markC s (restC buf) tot)] w := H
      rw [padL_byte hj8] at H
      refine L1 rfl rfl H (y_assign (v := (.slice _ _ _)) rfl rfl) ?_
      refine e_list ?_; (repeat (first | (with_reducible first | refine e_then ?_ | refine e_block ?_ | refine e_then_ret ?_ | refine e_block_ret ?_ | refine e_then_exit ?_ | refine e_block_here ?_ | refine e_then_panic ?_ | refine e_block_panic ?_) | refine e_block_on rfl ?_))
      -- R8
      refine c_region ?_
      refine L1 rfl rfl H (y_move (v := (.int .i64 _)) rfl rfl) ?_
      refine L1 rfl rfl H (y_sub (r := 56 - 8 * ((j + 1 : Nat) : Int)) rfl rfl rfl (by rw [wr_i64 (by omega) (by omega)]; omega)) ?_
      refine L1 rfl rfl H (y_assign (v := (.int .i64 _)) rfl rfl) ?_
      refine e_list ?_; (repeat (first | (with_reducible first | refine e_then ?_ | refine e_block ?_ | refine e_then_ret ?_ | refine e_block_ret ?_ | refine e_then_exit ?_ | refine e_block_here ?_ | refine e_then_panic ?_ | refine e_block_panic ?_) | refine e_block_on rfl ?_))
      exact ⟨(j + 1, A, c), _, rfl, ⟨ov_ex _ ⟨rfl, rfl, rfl, rfl, rfl, trivial⟩, H, by omega, by omega⟩, by show 8 - (j + 1) < 8 - j; omega⟩
    · skip
      have hj8 : j = 8 := by omega
      subst hj8
      rw [hze, hmm, padL_full, ← hze] at H
      refine wp_exit ?_; (repeat (first | (with_reducible first | refine e_then ?_ | refine e_block ?_ | refine e_then_ret ?_ | refine e_block_ret ?_ | refine e_then_exit ?_ | refine e_block_here ?_ | refine e_then_panic ?_ | refine e_block_panic ?_) | refine e_block_on rfl ?_))
      refine wp_seq ?_
      -- R10
      refine c_region ?_
      refine L1 rfl rfl H (y_move (v := (.slice _ _ _)) rfl rfl) ?_
      refine LfnP rfl rfl rfl (xa := [(.pointer _), (.slice A (1 + z + 8) c)]) rfl Try.call118 ?_
      have hpl : (padOf tot).length = 1 + z + 8 := by rw [← padL_full, padL_length (by omega), ← hze]
      replace H := H.perm (L' := [Ent.blk b1 182 (markC s (restC buf) tot), Ent.row w0.heap.size 5 1 (.slice A (1 + z + 8) c) (1 + z + 8) ((padOf tot).map bv), Ent.blk b2 82 (List.replicate 32 (bv 0))]) (List.perm_append_comm (l₁ := [_, _]) (l₂ := [_]))
      rw [← hpl]
      rw [← hpl] at H hjc
      refine (write_calls H hbuf (by omega) (by omega) hjc (fun s r t w' K => rd_row (K.get 1 rfl))).mono ?_
      rintro e w ⟨rfl, H⟩
      obtain ⟨row, hrow⟩ : ∃ row, row = Ent.row w0.heap.size 5 1 (.slice A (padOf tot).length c) (padOf tot).length ((padOf tot).map bv) := ⟨_, rfl⟩
      obtain ⟨s', hs'⟩ : ∃ s', s' = (absorb s (buf ++ padOf tot)).1 := ⟨_, rfl⟩
      obtain ⟨rr, hrr⟩ : ∃ rr, rr = restC (absorb s (buf ++ padOf tot)).2 := ⟨_, rfl⟩
      obtain ⟨tt, htt⟩ : ∃ tt, tt = tot + (padOf tot).length := ⟨_, rfl⟩
      rw [← hrow, ← hs', ← hrr, ← htt] at H
      refine .inl ⟨_, rfl, ?_⟩
      refine e_list ?_; (repeat (first | (with_reducible first | refine e_then ?_ | refine e_block ?_ | refine e_then_ret ?_ | refine e_block_ret ?_ | refine e_then_exit ?_ | refine e_block_here ?_ | refine e_then_panic ?_ | refine e_block_panic ?_) | refine e_block_on rfl ?_))
      refine wp_seq ?_
      -- R11
      refine c_region ?_
      refine Lalloc rfl rfl rfl H Try.zeroValue82 (cs := List.replicate 32 (bv 0)) rfl ?_; intro b6 w H
      refine e_list ?_; (repeat (first | (with_reducible first | refine e_then ?_ | refine e_block ?_ | refine e_then_ret ?_ | refine e_block_ret ?_ | refine e_then_exit ?_ | refine e_block_here ?_ | refine e_then_panic ?_ | refine e_block_panic ?_) | refine e_block_on rfl ?_))
      refine wp_seq ?_
      refine wp_seq ?_
      -- R12
      refine c_region ?_
      refine L1 rfl rfl H (y_move (v := (.int .i64 _)) rfl rfl) ?_
      refine e_list ?_; (repeat (first | (with_reducible first | refine e_then ?_ | refine e_block ?_ | refine e_then_ret ?_ | refine e_block_ret ?_ | refine e_then_exit ?_ | refine e_block_here ?_ | refine e_then_panic ?_ | refine e_block_panic ?_) | refine e_block_on rfl ?_))
      refine wp_block ?_   -- block 4
      refine c_loop (ι := Nat) (fun k f w => (∃ gx, f = ov [(1, .pointer (some ⟨b1, 0, none⟩)), (2, .pointer (some ⟨b2, 0, none⟩)), (6, .pointer (some ⟨b6, 0, none⟩)), (39, .int .i64 (k : Nat))] gx) ∧ Heap w0 ([Ent.blk b6 82 (outA s' k), Ent.blk b1 182 (markC s' rr tt), row, Ent.blk b2 82 (List.replicate 32 (bv 0))]) w ∧ k ≤ 32) (fun k => 32 - k) 0 ?_ ?_
      · exact ⟨ov_ex _ ⟨rfl, rfl, rfl, rfl, trivial⟩, H, by omega⟩
      rintro k f w ⟨⟨gg, rfl⟩, H, hk⟩
      refine wp_seq ?_
      -- R13
      refine c_region ?_
      refine L1 rfl rfl H (y_lss rfl rfl rfl) ?_
      refine e_list ?_; (repeat (first | (with_reducible first | refine e_then ?_ | refine e_block ?_ | refine e_then_ret ?_ | refine e_block_ret ?_ | refine e_then_exit ?_ | refine e_block_here ?_ | refine e_then_panic ?_ | refine e_block_panic ?_) | refine e_block_on rfl ?_))
      refine wp_seq ?_
      refine c_if rfl (fun h2 => ?_) (fun h2 => ?_)   -- if 2
      · skip
        have hk32 : k < 32 := by omega
        refine wp_skip ?_; (repeat (first | (with_reducible first | refine e_then ?_ | refine e_block ?_ | refine e_then_ret ?_ | refine e_block_ret ?_ | refine e_then_exit ?_ | refine e_block_here ?_ | refine e_then_panic ?_ | refine e_block_panic ?_) | refine e_block_on rfl ?_))
        refine wp_seq ?_
        refine wp_block ?_   -- block 5
        refine wp_seq ?_
        -- R14
        refine c_region ?_
        refine L1 rfl rfl H (y_move (v := (.int .i64 _)) rfl rfl) ?_
        refine L1 rfl rfl H (y_assign (v := (.int .i64 _)) rfl rfl) ?_
        refine e_list ?_; (repeat (first | (with_reducible first | refine e_then ?_ | refine e_block ?_ | refine e_then_ret ?_ | refine e_block_ret ?_ | refine e_then_exit ?_ | refine e_block_here ?_ | refine e_then_panic ?_ | refine e_block_panic ?_) | refine e_block_on rfl ?_))
        -- R15
        refine c_region ?_
        refine L1 rfl rfl H (y_move (v := (.int .i64 _)) rfl rfl) ?_
        refine L1 rfl rfl H (y_move (v := (.int .i64 _)) rfl rfl) ?_
        refine L1 rfl rfl H (y_quo (r := ((k / 4 : Nat) : Int)) rfl rfl rfl (by omega) (by rw [show (k : Int).tdiv 4 = ((k / 4 : Nat) : Int) from (Int.ofNat_tdiv k 4).symm]; exact wr_i64 (by omega) (by omega))) ?_
        refine L1 rfl rfl H (y_fieldAddr 0 rfl rfl Try.underlying182 rfl Try.sizeOf178 rfl) ?_
        refine L1 rfl rfl H (y_indexArr rfl rfl rfl Try.underlying178 Try.sizeOf163 (by omega) (by omega)) ?_
        refine L1 rfl rfl H (y_load (v := wv (s'.list.getD (k / 4) 0)) rfl rfl Try.isAgg163 (cell_blkI (k := 1) (k / 4) rfl (by omega) (markC_word (by omega)))) ?_
        refine L1 rfl rfl H (y_move (v := (.int .i64 _)) rfl rfl) ?_
        refine L1 rfl rfl H (y_rem (r := ((k % 4 : Nat) : Int)) rfl rfl rfl (by omega) (Int.ofNat_tmod k 4).symm) ?_
        refine L1 rfl rfl H (y_mul (r := 8 * ((k % 4 : Nat) : Int)) rfl rfl rfl (wr_i64 (by omega) (by omega))) ?_
        refine L1 rfl rfl H (y_sub rfl rfl rfl (by first | exact wr_i64 (by omega) (by omega) | rfl)) ?_
        refine L1 rfl rfl H (y_shr (r := (((s'.list.getD (k / 4) 0).toNat / 256 ^ (3 - k % 4) : Nat) : Int)) rfl rfl rfl (by omega) (shr_u32 _ k)) ?_
        refine L1 rfl rfl H (y_conv rfl rfl Try.underlying163 Try.underlying5 (u8_ofNat _)) ?_
        refine L1 rfl rfl H (y_indexArr rfl rfl rfl Try.underlying82 Try.sizeOf5 (by omega) (by omega)) ?_
        refine Lset 0 k rfl rfl rfl rfl (v := bv (UInt8.ofNat ((s'.list.getD (k / 4) 0).toNat / 256 ^ (3 - k % 4)))) rfl H rfl rfl Try.sizeOf5 rfl (by omega) (by rw [outA_length s' (by omega)]; omega) ?_; intro w H
        replace H : Heap w0 [Ent.blk b6 82 ((outA s' k).set k (bv (UInt8.ofNat ((s'.list.getD (k / 4) 0).toNat / 256 ^ (3 - k % 4))))), Ent.blk b1 182 (markC s' rr tt), row, Ent.blk b2 82 (List.replicate 32 (bv 0))] w := H
        rw [outA_set s' hk32] at H
        refine e_list ?_; (repeat (first | (with_reducible first | refine e_then ?_ | refine e_block ?_ | refine e_then_ret ?_ | refine e_block_ret ?_ | refine e_then_exit ?_ | refine e_block_here ?_ | refine e_then_panic ?_ | refine e_block_panic ?_) | refine e_block_on rfl ?_))
        -- R16
        refine c_region ?_
        refine L1 rfl rfl H (y_add rfl rfl rfl (by first | exact wr_i64 (by omega) (by omega) | rfl)) ?_
        refine L1 rfl rfl H (y_move (v := (.int .i64 _)) rfl rfl) ?_
        refine e_list ?_; (repeat (first | (with_reducible first | refine e_then ?_ | refine e_block ?_ | refine e_then_ret ?_ | refine e_block_ret ?_ | refine e_then_exit ?_ | refine e_block_here ?_ | refine e_then_panic ?_ | refine e_block_panic ?_) | refine e_block_on rfl ?_))
        exact ⟨k + 1, _, rfl, ⟨ov_ex _ ⟨rfl, rfl, rfl, rfl, trivial⟩, H, by omega⟩, by omega⟩
      · skip
        have hk32 : k = 32 := by omega
        subst hk32
        refine wp_exit ?_; (repeat (first | (with_reducible first | refine e_then ?_ | refine e_block ?_ | refine e_then_ret ?_ | refine e_block_ret ?_ | refine e_then_exit ?_ | refine e_block_here ?_ | refine e_then_panic ?_ | refine e_block_panic ?_) | refine e_block_on rfl ?_))
        refine wp_seq ?_
        -- R17
        refine c_region ?_
        refine L1 rfl rfl H (y_loadAgg (vs := (bytesOf s').map bv) rfl rfl Try.isAgg82 (by rw [List.length_map, bytesOf_length]; exact Try.sizeOf82) (cells_blk (k := 0) (off := 0) rfl (by rw [List.drop_zero, outA_full, List.take_length]))) ?_
        refine Lstore 3 rfl rfl rfl rfl (v := .agg ((bytesOf s').map bv).toArray) rfl H rfl (vs := (bytesOf s').map bv) rfl (by rw [List.length_map, bytesOf_length]; exact Try.sizeOf82) (List.all_eq_true.2 (Wire.bv_one _)) (by rw [List.length_map, bytesOf_length]; rfl) ?_; intro w H
        refine e_list ?_; (repeat (first | (with_reducible first | refine e_then ?_ | refine e_block ?_ | refine e_then_ret ?_ | refine e_block_ret ?_ | refine e_then_exit ?_ | refine e_block_here ?_ | refine e_then_panic ?_ | refine e_block_panic ?_) | refine e_block_on rfl ?_))
        refine wp_ret ?_; (repeat (first | (with_reducible first | refine e_then ?_ | refine e_block ?_ | refine e_then_ret ?_ | refine e_block_ret ?_ | refine e_then_exit ?_ | refine e_block_here ?_ | refine e_then_panic ?_ | refine e_block_panic ?_) | refine e_block_on rfl ?_))
        refine r_c rfl rfl (run_loadAgg (vs := (bytesOf s').map bv) Try.isAgg82 (by rw [List.length_map, bytesOf_length]; exact Try.sizeOf82) (fun j u hu => cells_blk (k := 3) (off := 0) rfl (by rw [List.drop_zero, List.take_zero, List.nil_append, List.take_left]) w H j u hu)) ?_
        rw [← hs']
        exact ⟨rfl, H.clear⟩
-- »end
-- «sum»
theorem sum_calls {A : Option Addr} {c : Nat} {bs : By} (hR : Rd w0 A (bs.map bv)) (hb : bs.length ≤ 140737488355328) (hc : bs.length ≤ c) :
    Calls Try.prog 63 #[.slice A bs.length c] w0 fun e w' => e = .returned (.agg ((sum bs).map bv).toArray) ∧ Heap w0 [] w' := by
  refine c_enter (xa := [.slice A bs.length c]) 10 Try.func63 rfl rfl rfl ?_
  have H := Heap.init w0
  refine wp_seq ?_
  -- R0
  refine c_region ?_
  refine Lalloc rfl rfl rfl H Try.zeroValue82 (cs := List.replicate 32 (bv 0)) rfl ?_; intro b2 w H
  refine e_list ?_; (repeat (first | (with_reducible first | refine e_then ?_ | refine e_block ?_ | refine e_then_ret ?_ | refine e_block_ret ?_ | refine e_then_exit ?_ | refine e_block_here ?_ | refine e_then_panic ?_ | refine e_block_panic ?_) | refine e_block_on rfl ?_))
  refine wp_seq ?_
  -- R1
  refine c_region ?_
  refine Lfn rfl rfl rfl (xa := []) rfl Try.call117 ?_   -- portage/digest.first
  refine digest_first_calls.mono ?_
  rintro e w' ⟨rfl, K⟩
  replace H := H.app0 K
  clear K
  refine ⟨_, rfl, ?_⟩
  refine L1 rfl rfl H (y_build (v := .agg (markC first (restC []) 0).toArray) rfl (vals := [(0, sv first)]) rfl (fun w => by kernel_rfl)) ?_
  refine Lalloc rfl rfl rfl H Try.zeroValue182 (cs := markC ⟨0, 0, 0, 0, 0, 0, 0, 0⟩ (restC []) 0) rfl ?_; intro b3 w H
  refine Lstore 0 rfl rfl rfl rfl (v := .agg (markC first (restC []) 0).toArray) rfl H rfl (vs := markC first (restC []) 0) rfl Try.sizeOf182 rfl rfl ?_; intro w H
  replace H : Heap w0 [Ent.blk b3 182 (markC first (restC []) 0), Ent.blk b2 82 (List.replicate 32 (bv 0))] w := H
  refine e_list ?_; (repeat (first | (with_reducible first | refine e_then ?_ | refine e_block ?_ | refine e_then_ret ?_ | refine e_block_ret ?_ | refine e_then_exit ?_ | refine e_block_here ?_ | refine e_then_panic ?_ | refine e_block_panic ?_) | refine e_block_on rfl ?_))
  refine wp_seq ?_
  -- R2
  refine c_region ?_
  refine L1 rfl rfl H (y_move (v := (.slice _ _ _)) rfl rfl) ?_
  refine LfnP rfl rfl rfl (xa := [(.pointer _), (.slice A bs.length c)]) rfl Try.call118 ?_
  refine (write_calls (buf := []) (tot := 0) H rfl (by omega) hb hc (fun s r t w' K => hR.old K)).mono ?_
  rintro e w ⟨rfl, H⟩
  refine .inl ⟨_, rfl, ?_⟩
  rw [List.nil_append, Nat.zero_add] at H
  have hl1 := absorb_length first bs
  have hl2 := absorb_mod first bs
  obtain ⟨s', hs'⟩ : ∃ s', s' = (absorb first bs).1 := ⟨_, rfl⟩
  obtain ⟨u', hu'⟩ : ∃ u', u' = (absorb first bs).2 := ⟨_, rfl⟩
  rw [← hs', ← hu'] at H
  rw [← hu'] at hl1 hl2
  have hrr := restC_length (Nat.le_of_lt hl1)
  refine e_list ?_; (repeat (first | (with_reducible first | refine e_then ?_ | refine e_block ?_ | refine e_then_ret ?_ | refine e_block_ret ?_ | refine e_then_exit ?_ | refine e_block_here ?_ | refine e_then_panic ?_ | refine e_block_panic ?_) | refine e_block_on rfl ?_))
  refine wp_seq ?_
  -- R3
  refine c_region ?_
  refine L1 rfl rfl H (y_loadAgg (vs := markC s' (restC u') bs.length) rfl rfl Try.isAgg182 (by rw [markC_length hrr]; exact Try.sizeOf182) (cells_blk (k := 0) (off := 0) rfl (by rw [List.drop_zero, List.take_length]))) ?_
  refine Lfn rfl rfl rfl (xa := [.agg (markC s' (restC u') bs.length).toArray]) rfl Try.call119 ?_   -- (portage/digest.mark).end
  refine (end_calls hl2.symm (by omega)).mono ?_
  rintro e w' ⟨rfl, K⟩
  replace H := H.app0 K
  clear K
  rw [hs', hu', ← absorb_app, ← sum]
  refine ⟨_, rfl, ?_⟩
  refine Lstore 1 rfl rfl rfl rfl (v := .agg ((sum bs).map bv).toArray) rfl H rfl (vs := (sum bs).map bv) rfl (by rw [List.length_map, sum_length]; exact Try.sizeOf82) (List.all_eq_true.2 (Wire.bv_one _)) (by rw [List.length_map, sum_length]; rfl) ?_; intro w H
  refine e_list ?_; (repeat (first | (with_reducible first | refine e_then ?_ | refine e_block ?_ | refine e_then_ret ?_ | refine e_block_ret ?_ | refine e_then_exit ?_ | refine e_block_here ?_ | refine e_then_panic ?_ | refine e_block_panic ?_) | refine e_block_on rfl ?_))
  refine wp_ret ?_; (repeat (first | (with_reducible first | refine e_then ?_ | refine e_block ?_ | refine e_then_ret ?_ | refine e_block_ret ?_ | refine e_then_exit ?_ | refine e_block_here ?_ | refine e_then_panic ?_ | refine e_block_panic ?_) | refine e_block_on rfl ?_))
  refine r_c rfl rfl (run_loadAgg (vs := (sum bs).map bv) Try.isAgg82 (by rw [List.length_map, sum_length]; exact Try.sizeOf82) (fun j u hu => cells_blk (k := 1) (off := 0) rfl (by rw [List.drop_zero, List.take_zero, List.nil_append, List.take_left]) w H j u hu)) ?_
  exact ⟨rfl, H.clear⟩
-- »sum
end
end Go.Dig
