/-
  SHA-256 in the program and in the reference: tables, blocks.
-/
import Derived.Test.YtjfifehofflaeaaDig1
namespace Go.Dig
open Go.RowKit Go.Eng Go.Proofs
set_option linter.unusedSimpArgs false
set_option linter.unusedVariables false
attribute [local irreducible] wpList wpQuiet wpStill wpMix

section
variable {w0 w : World} {R : List Ent}
-- «digest_table»
theorem digest_table_calls : Calls Try.prog 170 #[] w fun e w' => e = .returned (.agg (table.map wv).toArray) ∧ Heap w [] w' := by
  refine c_enter (xa := []) 2 Try.func170 rfl rfl rfl ?_
  have H := Heap.init w
  refine wp_seq ?_
  -- R0
  refine c_region ?_
  refine Lalloc rfl rfl rfl H Try.zeroValue206 (cs := List.replicate 64 (.int .u32 0)) rfl ?_; intro b0 w H
  refine e_list ?_; (repeat (first | (with_reducible first | refine e_then ?_ | refine e_block ?_ | refine e_then_ret ?_ | refine e_block_ret ?_ | refine e_then_exit ?_ | refine e_block_here ?_ | refine e_then_panic ?_ | refine e_block_panic ?_) | refine e_block_on rfl ?_))
  refine wp_seq ?_
  -- R1
  refine c_region ?_
  refine L1 rfl rfl H (y_build (v := (.agg (table.map wv).toArray)) rfl rfl (fun w => by kernel_rfl)) ?_
  refine Lstore 0 rfl rfl rfl rfl (v := .agg (table.map wv).toArray) rfl H rfl (vs := table.map wv) rfl Try.sizeOf206 rfl rfl ?_; intro w H
  refine e_list ?_; (repeat (first | (with_reducible first | refine e_then ?_ | refine e_block ?_ | refine e_then_ret ?_ | refine e_block_ret ?_ | refine e_then_exit ?_ | refine e_block_here ?_ | refine e_then_panic ?_ | refine e_block_panic ?_) | refine e_block_on rfl ?_))
  refine wp_ret ?_; (repeat (first | (with_reducible first | refine e_then ?_ | refine e_block ?_ | refine e_then_ret ?_ | refine e_block_ret ?_ | refine e_then_exit ?_ | refine e_block_here ?_ | refine e_then_panic ?_ | refine e_block_panic ?_) | refine e_block_on rfl ?_))
  refine r_c rfl rfl (run_loadAgg (vs := table.map wv) Try.isAgg206 Try.sizeOf206 (fun j u hu => cells_blk (k := 0) (off := 0) rfl rfl w H j u hu)) ?_
  exact ⟨rfl, H.clear⟩
-- »digest_table
-- «portageref02_table»
theorem portageref02_table_calls : Calls Try.prog 143 #[] w fun e w' => e = .returned (.agg (table.map wv).toArray) ∧ Heap w [] w' := by
  refine c_enter (xa := []) 2 Try.func143 rfl rfl rfl ?_
  have H := Heap.init w
  refine wp_seq ?_
  -- R0
  refine c_region ?_
  refine Lalloc rfl rfl rfl H Try.zeroValue206 (cs := List.replicate 64 (.int .u32 0)) rfl ?_; intro b0 w H
  refine e_list ?_; (repeat (first | (with_reducible first | refine e_then ?_ | refine e_block ?_ | refine e_then_ret ?_ | refine e_block_ret ?_ | refine e_then_exit ?_ | refine e_block_here ?_ | refine e_then_panic ?_ | refine e_block_panic ?_) | refine e_block_on rfl ?_))
  refine wp_seq ?_
  -- R1
  refine c_region ?_
  refine L1 rfl rfl H (y_build (v := (.agg (table.map wv).toArray)) rfl rfl (fun w => by kernel_rfl)) ?_
  refine Lstore 0 rfl rfl rfl rfl (v := .agg (table.map wv).toArray) rfl H rfl (vs := table.map wv) rfl Try.sizeOf206 rfl rfl ?_; intro w H
  refine e_list ?_; (repeat (first | (with_reducible first | refine e_then ?_ | refine e_block ?_ | refine e_then_ret ?_ | refine e_block_ret ?_ | refine e_then_exit ?_ | refine e_block_here ?_ | refine e_then_panic ?_ | refine e_block_panic ?_) | refine e_block_on rfl ?_))
  refine wp_ret ?_; (repeat (first | (with_reducible first | refine e_then ?_ | refine e_block ?_ | refine e_then_ret ?_ | refine e_block_ret ?_ | refine e_then_exit ?_ | refine e_block_here ?_ | refine e_then_panic ?_ | refine e_block_panic ?_) | refine e_block_on rfl ?_))
  refine r_c rfl rfl (run_loadAgg (vs := table.map wv) Try.isAgg206 Try.sizeOf206 (fun j u hu => cells_blk (k := 0) (off := 0) rfl rfl w H j u hu)) ?_
  exact ⟨rfl, H.clear⟩
-- »portageref02_table
-- «digest_first»
theorem digest_first_calls : Calls Try.prog 117 #[] w fun e w' => e = .returned (sv first) ∧ Heap w [] w' := by
  refine c_enter (xa := []) 2 Try.func117 rfl rfl rfl ?_
  have H := Heap.init w
  refine wp_seq ?_
  -- R0
  refine c_region ?_
  refine Lalloc rfl rfl rfl H Try.zeroValue178 (cs := List.replicate 8 (.int .u32 0)) rfl ?_; intro b0 w H
  refine e_list ?_; (repeat (first | (with_reducible first | refine e_then ?_ | refine e_block ?_ | refine e_then_ret ?_ | refine e_block_ret ?_ | refine e_then_exit ?_ | refine e_block_here ?_ | refine e_then_panic ?_ | refine e_block_panic ?_) | refine e_block_on rfl ?_))
  refine wp_seq ?_
  -- R1
  refine c_region ?_
  refine L1 rfl rfl H (y_build (v := (.agg (first.list.map wv).toArray)) rfl rfl (fun w => by kernel_rfl)) ?_
  refine Lstore 0 rfl rfl rfl rfl (v := .agg (first.list.map wv).toArray) rfl H rfl (vs := first.list.map wv) rfl Try.sizeOf178 rfl rfl ?_; intro w H
  refine e_list ?_; (repeat (first | (with_reducible first | refine e_then ?_ | refine e_block ?_ | refine e_then_ret ?_ | refine e_block_ret ?_ | refine e_then_exit ?_ | refine e_block_here ?_ | refine e_then_panic ?_ | refine e_block_panic ?_) | refine e_block_on rfl ?_))
  refine wp_ret ?_; (repeat (first | (with_reducible first | refine e_then ?_ | refine e_block ?_ | refine e_then_ret ?_ | refine e_block_ret ?_ | refine e_then_exit ?_ | refine e_block_here ?_ | refine e_then_panic ?_ | refine e_block_panic ?_) | refine e_block_on rfl ?_))
  refine r_c rfl rfl (run_loadAgg (vs := first.list.map wv) Try.isAgg178 Try.sizeOf178 (fun j u hu => cells_blk (k := 0) (off := 0) rfl rfl w H j u hu)) ?_
  exact ⟨rfl, H.clear⟩
-- »digest_first
-- «portageref02_first»
theorem portageref02_first_calls : Calls Try.prog 103 #[] w fun e w' => e = .returned (sv first) ∧ Heap w [] w' := by
  refine c_enter (xa := []) 2 Try.func103 rfl rfl rfl ?_
  have H := Heap.init w
  refine wp_seq ?_
  -- R0
  refine c_region ?_
  refine Lalloc rfl rfl rfl H Try.zeroValue164 (cs := List.replicate 8 (.int .u32 0)) rfl ?_; intro b0 w H
  refine e_list ?_; (repeat (first | (with_reducible first | refine e_then ?_ | refine e_block ?_ | refine e_then_ret ?_ | refine e_block_ret ?_ | refine e_then_exit ?_ | refine e_block_here ?_ | refine e_then_panic ?_ | refine e_block_panic ?_) | refine e_block_on rfl ?_))
  refine wp_seq ?_
  -- R1
  refine c_region ?_
  refine L1 rfl rfl H (y_build (v := (.agg (first.list.map wv).toArray)) rfl rfl (fun w => by kernel_rfl)) ?_
  refine Lstore 0 rfl rfl rfl rfl (v := .agg (first.list.map wv).toArray) rfl H rfl (vs := first.list.map wv) rfl Try.sizeOf164 rfl rfl ?_; intro w H
  refine e_list ?_; (repeat (first | (with_reducible first | refine e_then ?_ | refine e_block ?_ | refine e_then_ret ?_ | refine e_block_ret ?_ | refine e_then_exit ?_ | refine e_block_here ?_ | refine e_then_panic ?_ | refine e_block_panic ?_) | refine e_block_on rfl ?_))
  refine wp_ret ?_; (repeat (first | (with_reducible first | refine e_then ?_ | refine e_block ?_ | refine e_then_ret ?_ | refine e_block_ret ?_ | refine e_then_exit ?_ | refine e_block_here ?_ | refine e_then_panic ?_ | refine e_block_panic ?_) | refine e_block_on rfl ?_))
  refine r_c rfl rfl (run_loadAgg (vs := first.list.map wv) Try.isAgg164 Try.sizeOf164 (fun j u hu => cells_blk (k := 0) (off := 0) rfl rfl w H j u hu)) ?_
  exact ⟨rfl, H.clear⟩
-- »portageref02_first
-- «words»
theorem words_calls {w0 : World} {a : Addr} {n c at_ : Nat} {bs l : By} (hR : Rd w0 (some a) (bs.map bv)) (hn : n = bs.length) (hl : bs.drop at_ = l) (h64 : at_ + 64 ≤ bs.length) (hb : bs.length ≤ 140737488355328) :
    Calls Try.prog 142 #[.slice (some a) n c, .int .i64 at_] w0 fun e w' => e = .returned (.agg (arrW l 64).toArray) ∧ Heap w0 [] w' := by
  refine c_enter (xa := [(.slice (some a) n c), (.int .i64 (at_ : Nat))]) 96 Try.func142 rfl rfl rfl ?_
  have H := Heap.init w0
  refine wp_seq ?_
  -- R0
  refine c_region ?_
  refine Lalloc rfl rfl rfl H Try.zeroValue206 (cs := List.replicate 64 (.int .u32 0)) rfl ?_; intro b4 w H
  refine e_list ?_; (repeat (first | (with_reducible first | refine e_then ?_ | refine e_block ?_ | refine e_then_ret ?_ | refine e_block_ret ?_ | refine e_then_exit ?_ | refine e_block_here ?_ | refine e_then_panic ?_ | refine e_block_panic ?_) | refine e_block_on rfl ?_))
  refine wp_seq ?_
  -- R1
  refine c_region ?_
  refine Lalloc rfl rfl rfl H Try.zeroValue206 (cs := arrW l 0) rfl ?_; intro b5 w H
  refine e_list ?_; (repeat (first | (with_reducible first | refine e_then ?_ | refine e_block ?_ | refine e_then_ret ?_ | refine e_block_ret ?_ | refine e_then_exit ?_ | refine e_block_here ?_ | refine e_then_panic ?_ | refine e_block_panic ?_) | refine e_block_on rfl ?_))
  refine wp_seq ?_
  refine wp_seq ?_
  -- R2
  refine c_region ?_
  refine L1 rfl rfl H (y_assign (v := (.int .i64 _)) rfl rfl) ?_
  refine e_list ?_; (repeat (first | (with_reducible first | refine e_then ?_ | refine e_block ?_ | refine e_then_ret ?_ | refine e_block_ret ?_ | refine e_then_exit ?_ | refine e_block_here ?_ | refine e_then_panic ?_ | refine e_block_panic ?_) | refine e_block_on rfl ?_))
  refine wp_block ?_   -- block 0
  refine c_loop (ι := Nat) (fun t f w => (∃ gx, f = ov [(0, .slice (some a) n c), (1, .int .i64 (at_ : Nat)), (4, .pointer (some ⟨b4, 0, none⟩)), (5, .pointer (some ⟨b5, 0, none⟩)), (6, .int .i64 (t : Nat))] gx) ∧ Heap w0 ([Ent.blk b5 206 (arrW l t), Ent.blk b4 206 (List.replicate 64 (.int .u32 0))]) w ∧ t ≤ 16) (fun t => 16 - t) 0 ?_ ?_
  · exact ⟨ov_ex _ ⟨rfl, rfl, rfl, rfl, rfl, trivial⟩, H, by omega⟩
  rintro t f w ⟨⟨gg, rfl⟩, H, ht0⟩
  refine wp_seq ?_
  refine wp_seq ?_
  -- R3
  refine c_region ?_
  refine L1 rfl rfl H (y_move (v := (.int .i64 _)) rfl rfl) ?_
  refine L1 rfl rfl H (y_lss rfl rfl rfl) ?_
  refine e_list ?_; (repeat (first | (with_reducible first | refine e_then ?_ | refine e_block ?_ | refine e_then_ret ?_ | refine e_block_ret ?_ | refine e_then_exit ?_ | refine e_block_here ?_ | refine e_then_panic ?_ | refine e_block_panic ?_) | refine e_block_on rfl ?_))
  refine c_if rfl (fun h0 => ?_) (fun h0 => ?_)   -- if 0
  · skip
    have ht : t < 16 := by omega
    have hby : ∀ i, i < 4 → ∀ {j : Nat}, j = at_ + 4 * t + i → (bs.map bv)[j]? = some (bv (l.getD (4 * t + i) 0)) := by
      intro i hi j hj
      subst hj
      have h1 : at_ + 4 * t + i < bs.length := by omega
      rw [← hl, List.getElem?_map, List.getD_eq_getElem?_getD, List.getElem?_drop, ← Nat.add_assoc, List.getElem?_eq_getElem h1]
      rfl
    refine wp_skip ?_; (repeat (first | (with_reducible first | refine e_then ?_ | refine e_block ?_ | refine e_then_ret ?_ | refine e_block_ret ?_ | refine e_then_exit ?_ | refine e_block_here ?_ | refine e_then_panic ?_ | refine e_block_panic ?_) | refine e_block_on rfl ?_))
    refine wp_seq ?_
    refine wp_block ?_   -- block 1
    refine wp_seq ?_
    -- R5
    refine c_region ?_
    refine L1 rfl rfl H (y_move (v := (.int .i64 _)) rfl rfl) ?_
    refine L1 rfl rfl H (y_move (v := (.int .i64 _)) rfl rfl) ?_
    refine L1 rfl rfl H (y_mul (r := ((4 * t : Nat) : Int)) rfl rfl rfl (by rw [wr_i64 (by omega) (by omega)]; omega)) ?_
    refine L1 rfl rfl H (y_add (r := ((at_ + 4 * t : Nat) : Int)) rfl rfl rfl (by rw [wr_i64 (by omega) (by omega)]; omega)) ?_
    refine L1 rfl rfl H (y_assign (v := (.int .i64 _)) rfl rfl) ?_
    refine e_list ?_; (repeat (first | (with_reducible first | refine e_then ?_ | refine e_block ?_ | refine e_then_ret ?_ | refine e_block_ret ?_ | refine e_then_exit ?_ | refine e_block_here ?_ | refine e_then_panic ?_ | refine e_block_panic ?_) | refine e_block_on rfl ?_))
    -- R6 draws
    refine c_tail 31 H (by kernel_rfl) (by kernel_rfl) (fun w H => ?_)
    refine S1 rfl rfl H (y_move (v := (.int .i64 _)) rfl rfl) ?_
    refine S1 rfl rfl H (y_move (v := (.slice _ _ _)) rfl rfl) ?_
    refine S1 rfl rfl H (y_move (v := (.int .i64 _)) rfl rfl) ?_
    refine S1 rfl rfl H (y_indexSl rfl rfl rfl Try.underlying22 Try.sizeOf5 (by omega) (by omega)) ?_
    refine S1 rfl rfl H (y_load (v := bv (l.getD (4 * t + 0) 0)) rfl rfl Try.isAgg5 (cell_rd hR (hby 0 (by omega) (by omega)))) ?_
    refine S1 rfl rfl H (y_conv rfl rfl Try.underlying5 Try.underlying163 (u8_u32 _)) ?_
    refine S1 rfl rfl H (y_shl rfl rfl rfl (by omega) (u32_shl _ (n := 24) (by omega))) ?_
    refine S1 rfl rfl H (y_move (v := (.slice _ _ _)) rfl rfl) ?_
    refine S1 rfl rfl H (y_move (v := (.int .i64 _)) rfl rfl) ?_
    refine S1 rfl rfl H (y_add rfl rfl rfl (by first | exact wr_i64 (by omega) (by omega) | rfl)) ?_
    refine S1 rfl rfl H (y_indexSl rfl rfl rfl Try.underlying22 Try.sizeOf5 (by omega) (by omega)) ?_
    refine S1 rfl rfl H (y_load (v := bv (l.getD (4 * t + 1) 0)) rfl rfl Try.isAgg5 (cell_rd hR (hby 1 (by omega) (by omega)))) ?_
    refine S1 rfl rfl H (y_conv rfl rfl Try.underlying5 Try.underlying163 (u8_u32 _)) ?_
    refine S1 rfl rfl H (y_shl rfl rfl rfl (by omega) (u32_shl _ (n := 16) (by omega))) ?_
    refine S1 rfl rfl H (y_or rfl rfl rfl (Eng.u32_or _ _)) ?_
    refine S1 rfl rfl H (y_move (v := (.slice _ _ _)) rfl rfl) ?_
    refine S1 rfl rfl H (y_move (v := (.int .i64 _)) rfl rfl) ?_
    refine S1 rfl rfl H (y_add rfl rfl rfl (by first | exact wr_i64 (by omega) (by omega) | rfl)) ?_
    refine S1 rfl rfl H (y_indexSl rfl rfl rfl Try.underlying22 Try.sizeOf5 (by omega) (by omega)) ?_
    refine S1 rfl rfl H (y_load (v := bv (l.getD (4 * t + 2) 0)) rfl rfl Try.isAgg5 (cell_rd hR (hby 2 (by omega) (by omega)))) ?_
    refine S1 rfl rfl H (y_conv rfl rfl Try.underlying5 Try.underlying163 (u8_u32 _)) ?_
    refine S1 rfl rfl H (y_shl rfl rfl rfl (by omega) (u32_shl _ (n := 8) (by omega))) ?_
    refine S1 rfl rfl H (y_or rfl rfl rfl (Eng.u32_or _ _)) ?_
    refine S1 rfl rfl H (y_move (v := (.slice _ _ _)) rfl rfl) ?_
    refine S1 rfl rfl H (y_move (v := (.int .i64 _)) rfl rfl) ?_
    refine S1 rfl rfl H (y_add rfl rfl rfl (by first | exact wr_i64 (by omega) (by omega) | rfl)) ?_
    refine S1 rfl rfl H (y_indexSl rfl rfl rfl Try.underlying22 Try.sizeOf5 (by omega) (by omega)) ?_
    refine S1 rfl rfl H (y_load (v := bv (l.getD (4 * t + 3) 0)) rfl rfl Try.isAgg5 (cell_rd hR (hby 3 (by omega) (by omega)))) ?_
    refine S1 rfl rfl H (y_conv rfl rfl Try.underlying5 Try.underlying163 (u8_u32 _)) ?_
    refine S1 rfl rfl H (y_or rfl rfl rfl (Eng.u32_or _ _)) ?_
    refine S1 rfl rfl H (y_indexArr rfl rfl rfl Try.underlying206 Try.sizeOf163 (by omega) (by omega)) ?_
    refine Send ?_
    refine Lset 0 t rfl rfl rfl rfl (v := .int .u32 _) rfl H rfl rfl Try.sizeOf163 rfl (by omega) (by rw [arrW_length l t (by omega)]; omega) ?_; intro w H
    replace H : Heap w0 [Ent.blk b5 206 ((arrW l t).set t (wv (be4 l (4 * t)))), Ent.blk b4 206 (List.replicate 64 (.int .u32 0))] w := H
    rw [← nextW_lo l ht, arrW_set l (by omega)] at H
    refine e_list ?_; (repeat (first | (with_reducible first | refine e_then ?_ | refine e_block ?_ | refine e_then_ret ?_ | refine e_block_ret ?_ | refine e_then_exit ?_ | refine e_block_here ?_ | refine e_then_panic ?_ | refine e_block_panic ?_) | refine e_block_on rfl ?_))
    -- R4
    refine c_region ?_
    refine L1 rfl rfl H (y_move (v := (.int .i64 _)) rfl rfl) ?_
    refine L1 rfl rfl H (y_add rfl rfl rfl (by first | exact wr_i64 (by omega) (by omega) | rfl)) ?_
    refine L1 rfl rfl H (y_assign (v := (.int .i64 _)) rfl rfl) ?_
    refine e_list ?_; (repeat (first | (with_reducible first | refine e_then ?_ | refine e_block ?_ | refine e_then_ret ?_ | refine e_block_ret ?_ | refine e_then_exit ?_ | refine e_block_here ?_ | refine e_then_panic ?_ | refine e_block_panic ?_) | refine e_block_on rfl ?_))
    exact ⟨t + 1, _, rfl, ⟨ov_ex _ ⟨rfl, rfl, rfl, rfl, rfl, trivial⟩, H, by omega⟩, by omega⟩
  · skip
    have ht : t = 16 := by omega
    subst ht
    refine wp_exit ?_; (repeat (first | (with_reducible first | refine e_then ?_ | refine e_block ?_ | refine e_then_ret ?_ | refine e_block_ret ?_ | refine e_then_exit ?_ | refine e_block_here ?_ | refine e_then_panic ?_ | refine e_block_panic ?_) | refine e_block_on rfl ?_))
    refine wp_seq ?_
    refine wp_seq ?_
    -- R7
    refine c_region ?_
    refine L1 rfl rfl H (y_assign (v := (.int .i64 _)) rfl rfl) ?_
    refine e_list ?_; (repeat (first | (with_reducible first | refine e_then ?_ | refine e_block ?_ | refine e_then_ret ?_ | refine e_block_ret ?_ | refine e_then_exit ?_ | refine e_block_here ?_ | refine e_then_panic ?_ | refine e_block_panic ?_) | refine e_block_on rfl ?_))
    refine wp_block ?_   -- block 2
    refine c_loop (ι := Nat) (fun t f w => (∃ gx, f = ov [(4, .pointer (some ⟨b4, 0, none⟩)), (5, .pointer (some ⟨b5, 0, none⟩)), (8, .int .i64 (t : Nat))] gx) ∧ Heap w0 ([Ent.blk b5 206 (arrW l t), Ent.blk b4 206 (List.replicate 64 (.int .u32 0))]) w ∧ 16 ≤ t ∧ t ≤ 64) (fun t => 64 - t) 16 ?_ ?_
    · exact ⟨ov_ex _ ⟨rfl, rfl, rfl, trivial⟩, H, by omega⟩
    rintro t f w ⟨⟨gg, rfl⟩, H, ht0⟩
    refine wp_seq ?_
    refine wp_seq ?_
    -- R8
    refine c_region ?_
    refine L1 rfl rfl H (y_move (v := (.int .i64 _)) rfl rfl) ?_
    refine L1 rfl rfl H (y_lss rfl rfl rfl) ?_
    refine e_list ?_; (repeat (first | (with_reducible first | refine e_then ?_ | refine e_block ?_ | refine e_then_ret ?_ | refine e_block_ret ?_ | refine e_then_exit ?_ | refine e_block_here ?_ | refine e_then_panic ?_ | refine e_block_panic ?_) | refine e_block_on rfl ?_))
    refine c_if rfl (fun h1 => ?_) (fun h1 => ?_)   -- if 1
    · skip
      have ht : ¬ t < 16 := by omega
      refine wp_skip ?_; (repeat (first | (with_reducible first | refine e_then ?_ | refine e_block ?_ | refine e_then_ret ?_ | refine e_block_ret ?_ | refine e_then_exit ?_ | refine e_block_here ?_ | refine e_then_panic ?_ | refine e_block_panic ?_) | refine e_block_on rfl ?_))
      refine wp_seq ?_
      refine wp_block ?_   -- block 3
      refine wp_seq ?_
      -- R10
      refine c_region ?_
      refine L1 rfl rfl H (y_move (v := (.int .i64 _)) rfl rfl) ?_
      refine L1 rfl rfl H (y_sub rfl rfl rfl (by first | exact wr_i64 (by omega) (by omega) | rfl)) ?_
      refine L1 rfl rfl H (y_indexArr rfl rfl rfl Try.underlying206 Try.sizeOf163 (by omega) (by omega)) ?_
      refine L1 rfl rfl H (y_load (v := wv ((words l t).getD (t - 15) 0)) rfl rfl Try.isAgg163 (cell_blkI (k := 0) (t - 15) rfl (by omega) (arrW_get l (by omega)))) ?_
      refine L1 rfl rfl H (y_assign (v := (.int .u32 _)) rfl rfl) ?_
      refine e_list ?_; (repeat (first | (with_reducible first | refine e_then ?_ | refine e_block ?_ | refine e_then_ret ?_ | refine e_block_ret ?_ | refine e_then_exit ?_ | refine e_block_here ?_ | refine e_then_panic ?_ | refine e_block_panic ?_) | refine e_block_on rfl ?_))
      refine wp_seq ?_
      -- R11
      refine c_region ?_
      refine L1 rfl rfl H (y_move (v := (.int .i64 _)) rfl rfl) ?_
      refine L1 rfl rfl H (y_sub rfl rfl rfl (by first | exact wr_i64 (by omega) (by omega) | rfl)) ?_
      refine L1 rfl rfl H (y_indexArr rfl rfl rfl Try.underlying206 Try.sizeOf163 (by omega) (by omega)) ?_
      refine L1 rfl rfl H (y_load (v := wv ((words l t).getD (t - 2) 0)) rfl rfl Try.isAgg163 (cell_blkI (k := 0) (t - 2) rfl (by omega) (arrW_get l (by omega)))) ?_
      refine L1 rfl rfl H (y_assign (v := (.int .u32 _)) rfl rfl) ?_
      refine e_list ?_; (repeat (first | (with_reducible first | refine e_then ?_ | refine e_block ?_ | refine e_then_ret ?_ | refine e_block_ret ?_ | refine e_then_exit ?_ | refine e_block_here ?_ | refine e_then_panic ?_ | refine e_block_panic ?_) | refine e_block_on rfl ?_))
      refine wp_seq ?_
      -- R12
      refine c_region ?_
      refine L1 rfl rfl H (y_move (v := (.int .u32 _)) rfl rfl) ?_
      refine Lfn rfl rfl rfl (xa := [(.int .u32 _), (.int .u64 _)]) rfl Try.call144 ?_   -- portage/portageref02.rotr
      refine (portageref02_rotr_calls _ 7 (by omega) (by omega)).mono ?_
      rintro e w ⟨rfl, K⟩
      replace H := H.app0 K
      clear K
      refine ⟨_, rfl, ?_⟩
      refine L1 rfl rfl H (y_move (v := (.int .u32 _)) rfl rfl) ?_
      refine Lfn rfl rfl rfl (xa := [(.int .u32 _), (.int .u64 _)]) rfl Try.call144 ?_   -- portage/portageref02.rotr
      refine (portageref02_rotr_calls _ 18 (by omega) (by omega)).mono ?_
      rintro e w ⟨rfl, K⟩
      replace H := H.app0 K
      clear K
      refine ⟨_, rfl, ?_⟩
      refine L1 rfl rfl H (y_xor rfl rfl rfl (Eng.u32_xor _ _)) ?_
      refine L1 rfl rfl H (y_move (v := (.int .u32 _)) rfl rfl) ?_
      refine L1 rfl rfl H (y_shr rfl rfl rfl (by omega) (u32_shr _ (n := 3) (by omega))) ?_
      refine L1 rfl rfl H (y_xor rfl rfl rfl (Eng.u32_xor _ _)) ?_
      refine L1 rfl rfl H (y_assign (v := (.int .u32 _)) rfl rfl) ?_
      refine e_list ?_; (repeat (first | (with_reducible first | refine e_then ?_ | refine e_block ?_ | refine e_then_ret ?_ | refine e_block_ret ?_ | refine e_then_exit ?_ | refine e_block_here ?_ | refine e_then_panic ?_ | refine e_block_panic ?_) | refine e_block_on rfl ?_))
      refine wp_seq ?_
      -- R13
      refine c_region ?_
      refine L1 rfl rfl H (y_move (v := (.int .u32 _)) rfl rfl) ?_
      refine Lfn rfl rfl rfl (xa := [(.int .u32 _), (.int .u64 _)]) rfl Try.call144 ?_   -- portage/portageref02.rotr
      refine (portageref02_rotr_calls _ 17 (by omega) (by omega)).mono ?_
      rintro e w ⟨rfl, K⟩
      replace H := H.app0 K
      clear K
      refine ⟨_, rfl, ?_⟩
      refine L1 rfl rfl H (y_move (v := (.int .u32 _)) rfl rfl) ?_
      refine Lfn rfl rfl rfl (xa := [(.int .u32 _), (.int .u64 _)]) rfl Try.call144 ?_   -- portage/portageref02.rotr
      refine (portageref02_rotr_calls _ 19 (by omega) (by omega)).mono ?_
      rintro e w ⟨rfl, K⟩
      replace H := H.app0 K
      clear K
      refine ⟨_, rfl, ?_⟩
      refine L1 rfl rfl H (y_xor rfl rfl rfl (Eng.u32_xor _ _)) ?_
      refine L1 rfl rfl H (y_move (v := (.int .u32 _)) rfl rfl) ?_
      refine L1 rfl rfl H (y_shr rfl rfl rfl (by omega) (u32_shr _ (n := 10) (by omega))) ?_
      refine L1 rfl rfl H (y_xor rfl rfl rfl (Eng.u32_xor _ _)) ?_
      refine L1 rfl rfl H (y_assign (v := (.int .u32 _)) rfl rfl) ?_
      refine e_list ?_; (repeat (first | (with_reducible first | refine e_then ?_ | refine e_block ?_ | refine e_then_ret ?_ | refine e_block_ret ?_ | refine e_then_exit ?_ | refine e_block_here ?_ | refine e_then_panic ?_ | refine e_block_panic ?_) | refine e_block_on rfl ?_))
      -- R14 draws
      refine c_tail 15 H (by kernel_rfl) (by kernel_rfl) (fun w H => ?_)
      refine S1 rfl rfl H (y_move (v := (.int .i64 _)) rfl rfl) ?_
      refine S1 rfl rfl H (y_move (v := (.int .u32 _)) rfl rfl) ?_
      refine S1 rfl rfl H (y_move (v := (.int .i64 _)) rfl rfl) ?_
      refine S1 rfl rfl H (y_sub rfl rfl rfl (by first | exact wr_i64 (by omega) (by omega) | rfl)) ?_
      refine S1 rfl rfl H (y_indexArr rfl rfl rfl Try.underlying206 Try.sizeOf163 (by omega) (by omega)) ?_
      refine S1 rfl rfl H (y_load (v := wv ((words l t).getD (t - 7) 0)) rfl rfl Try.isAgg163 (cell_blkI (k := 0) (t - 7) rfl (by omega) (arrW_get l (by omega)))) ?_
      refine S1 rfl rfl H (y_add rfl rfl rfl (Eng.u32_add _ _)) ?_
      refine S1 rfl rfl H (y_move (v := (.int .u32 _)) rfl rfl) ?_
      refine S1 rfl rfl H (y_add rfl rfl rfl (Eng.u32_add _ _)) ?_
      refine S1 rfl rfl H (y_move (v := (.int .i64 _)) rfl rfl) ?_
      refine S1 rfl rfl H (y_sub rfl rfl rfl (by first | exact wr_i64 (by omega) (by omega) | rfl)) ?_
      refine S1 rfl rfl H (y_indexArr rfl rfl rfl Try.underlying206 Try.sizeOf163 (by omega) (by omega)) ?_
      refine S1 rfl rfl H (y_load (v := wv ((words l t).getD (t - 16) 0)) rfl rfl Try.isAgg163 (cell_blkI (k := 0) (t - 16) rfl (by omega) (arrW_get l (by omega)))) ?_
      refine S1 rfl rfl H (y_add rfl rfl rfl (Eng.u32_add _ _)) ?_
      refine S1 rfl rfl H (y_indexArr rfl rfl rfl Try.underlying206 Try.sizeOf163 (by omega) (by omega)) ?_
      refine Send ?_
      refine Lset 0 t rfl rfl rfl rfl (v := .int .u32 _) rfl H rfl rfl Try.sizeOf163 rfl (by omega) (by rw [arrW_length l t (by omega)]; omega) ?_; intro w H
      replace H : Heap w0 [Ent.blk b5 206 ((arrW l t).set t (wv (((sg1 ((words l t).getD (t - 2) 0) + (words l t).getD (t - 7) 0) + sg0 ((words l t).getD (t - 15) 0)) + (words l t).getD (t - 16) 0))), Ent.blk b4 206 (List.replicate 64 (.int .u32 0))] w := H
      rw [← nextW_hi l ht, arrW_set l (by omega)] at H
      refine e_list ?_; (repeat (first | (with_reducible first | refine e_then ?_ | refine e_block ?_ | refine e_then_ret ?_ | refine e_block_ret ?_ | refine e_then_exit ?_ | refine e_block_here ?_ | refine e_then_panic ?_ | refine e_block_panic ?_) | refine e_block_on rfl ?_))
      -- R9
      refine c_region ?_
      refine L1 rfl rfl H (y_move (v := (.int .i64 _)) rfl rfl) ?_
      refine L1 rfl rfl H (y_add rfl rfl rfl (by first | exact wr_i64 (by omega) (by omega) | rfl)) ?_
      refine L1 rfl rfl H (y_assign (v := (.int .i64 _)) rfl rfl) ?_
      refine e_list ?_; (repeat (first | (with_reducible first | refine e_then ?_ | refine e_block ?_ | refine e_then_ret ?_ | refine e_block_ret ?_ | refine e_then_exit ?_ | refine e_block_here ?_ | refine e_then_panic ?_ | refine e_block_panic ?_) | refine e_block_on rfl ?_))
      exact ⟨t + 1, _, rfl, ⟨ov_ex _ ⟨rfl, rfl, rfl, trivial⟩, H, by omega⟩, by omega⟩
    · skip
      have ht : t = 64 := by omega
      subst ht
      refine wp_exit ?_; (repeat (first | (with_reducible first | refine e_then ?_ | refine e_block ?_ | refine e_then_ret ?_ | refine e_block_ret ?_ | refine e_then_exit ?_ | refine e_block_here ?_ | refine e_then_panic ?_ | refine e_block_panic ?_) | refine e_block_on rfl ?_))
      refine wp_seq ?_
      -- R15
      refine c_region ?_
      refine L1 rfl rfl H (y_loadAgg (vs := arrW l 64) rfl rfl Try.isAgg206 (fun w => by rw [arrW_length l 64 (by omega)]; exact Try.sizeOf206 w) (cells_blk (k := 0) (off := 0) rfl (by simp))) ?_
      refine Lstore 1 rfl rfl rfl rfl (v := .agg (arrW l 64).toArray) rfl H rfl (vs := arrW l 64) rfl (fun w => by rw [arrW_length l 64 (by omega)]; exact Try.sizeOf206 w) (arrW_one l 64) (by rw [arrW_length l 64 (by omega)]; rfl) ?_; intro w H
      refine e_list ?_; (repeat (first | (with_reducible first | refine e_then ?_ | refine e_block ?_ | refine e_then_ret ?_ | refine e_block_ret ?_ | refine e_then_exit ?_ | refine e_block_here ?_ | refine e_then_panic ?_ | refine e_block_panic ?_) | refine e_block_on rfl ?_))
      refine wp_ret ?_; (repeat (first | (with_reducible first | refine e_then ?_ | refine e_block ?_ | refine e_then_ret ?_ | refine e_block_ret ?_ | refine e_then_exit ?_ | refine e_block_here ?_ | refine e_then_panic ?_ | refine e_block_panic ?_) | refine e_block_on rfl ?_))
      refine r_c rfl rfl (run_loadAgg (vs := arrW l 64) Try.isAgg206 (fun w => by rw [arrW_length l 64 (by omega)]; exact Try.sizeOf206 w) (fun j u hu => cells_blk (k := 1) (off := 0) rfl (by simp) w H j u hu)) ?_
      exact ⟨rfl, H.clear⟩
-- »words
-- «block»
theorem block_calls {w0 : World} {s : S8} {a : Addr} {n c at_ : Nat} {bs l : By} (hR : Rd w0 (some a) (bs.map bv)) (hn : n = bs.length) (hl : bs.drop at_ = l) (h64 : at_ + 64 ≤ bs.length) (hb : bs.length ≤ 140737488355328) :
    Calls Try.prog 104 #[sv s, .slice (some a) n c, .int .i64 at_] w0 fun e w' => e = .returned (sv (behind s l)) ∧ Heap w0 [] w' := by
  refine c_enter (xa := [(sv s), (.slice (some a) n c), (.int .i64 (at_ : Nat))]) 115 Try.func104 rfl rfl rfl ?_
  have H := Heap.init w0
  refine wp_seq ?_
  -- R0
  refine c_region ?_
  refine Lbox rfl rfl rfl (z := sv s) rfl H (cs := s.list.map wv) rfl ?_; intro b3 w H
  refine Lalloc rfl rfl rfl H Try.zeroValue164 (cs := List.replicate 8 (.int .u32 0)) rfl ?_; intro b6 w H
  refine e_list ?_; (repeat (first | (with_reducible first | refine e_then ?_ | refine e_block ?_ | refine e_then_ret ?_ | refine e_block_ret ?_ | refine e_then_exit ?_ | refine e_block_here ?_ | refine e_then_panic ?_ | refine e_block_panic ?_) | refine e_block_on rfl ?_))
  refine wp_seq ?_
  -- R1
  refine c_region ?_
  refine L1 rfl rfl H (y_move (v := (.slice _ _ _)) rfl rfl) ?_
  refine L1 rfl rfl H (y_move (v := (.int .i64 _)) rfl rfl) ?_
  refine Lfn rfl rfl rfl (xa := [(.slice _ _ _), (.int .i64 (at_ : Nat))]) rfl Try.call142 ?_   -- portage/portageref02.words
  refine (words_calls (hR.old H) hn hl h64 hb).mono ?_
  rintro e w' ⟨rfl, K⟩
  replace H := H.app0 K
  clear K
  refine ⟨_, rfl, ?_⟩
  refine Lalloc rfl rfl rfl H Try.zeroValue206 (cs := List.replicate 64 (.int .u32 0)) rfl ?_; intro b7 w H
  refine Lstore 0 rfl rfl rfl rfl (v := .agg (arrW l 64).toArray) rfl H rfl (vs := arrW l 64) rfl (fun w => by rw [arrW_length l 64 (by omega)]; exact Try.sizeOf206 w) (arrW_one l 64) (by rw [arrW_length l 64 (by omega)]; rfl) ?_; intro w H
  have e : (List.replicate 64 (Value.int .u32 0)).take 0 ++ arrW l 64 ++ (List.replicate 64 (Value.int .u32 0)).drop (0 + (arrW l 64).length) = arrW l 64 := by rw [arrW_length l 64 (by omega)]; simp
  rw [e] at H
  refine e_list ?_; (repeat (first | (with_reducible first | refine e_then ?_ | refine e_block ?_ | refine e_then_ret ?_ | refine e_block_ret ?_ | refine e_then_exit ?_ | refine e_block_here ?_ | refine e_then_panic ?_ | refine e_block_panic ?_) | refine e_block_on rfl ?_))
  refine wp_seq ?_
  -- R2
  refine c_region ?_
  refine Lfn rfl rfl rfl (xa := []) rfl Try.call143 ?_   -- portage/portageref02.table
  refine portageref02_table_calls.mono ?_
  rintro e w' ⟨rfl, K⟩
  replace H := H.app0 K
  clear K
  refine ⟨_, rfl, ?_⟩
  refine Lalloc rfl rfl rfl H Try.zeroValue206 (cs := List.replicate 64 (.int .u32 0)) rfl ?_; intro b8 w H
  refine Lstore 0 rfl rfl rfl rfl (v := .agg (table.map wv).toArray) rfl H rfl (vs := table.map wv) rfl Try.sizeOf206 rfl rfl ?_; intro w H
  refine e_list ?_; (repeat (first | (with_reducible first | refine e_then ?_ | refine e_block ?_ | refine e_then_ret ?_ | refine e_block_ret ?_ | refine e_then_exit ?_ | refine e_block_here ?_ | refine e_then_panic ?_ | refine e_block_panic ?_) | refine e_block_on rfl ?_))
  refine wp_seq ?_
  -- R3
  refine c_region ?_
  refine L1 rfl rfl H (y_loadAgg (vs := s.list.map wv) rfl rfl Try.isAgg164 Try.sizeOf164 (cells_blk (k := 3) (off := 0) rfl rfl)) ?_
  refine Lalloc rfl rfl rfl H Try.zeroValue164 (cs := List.replicate 8 (.int .u32 0)) rfl ?_; intro b9 w H
  (first | refine Lstore 0 rfl rfl rfl rfl (v := (.agg _)) rfl H rfl (vs := [_, _, _, _, _, _, _, _]) rfl Try.sizeOf164 rfl rfl ?_ | refine Lstore 1 rfl rfl rfl rfl (v := (.agg _)) rfl H rfl (vs := [_, _, _, _, _, _, _, _]) rfl Try.sizeOf164 rfl rfl ?_ | refine Lstore 2 rfl rfl rfl rfl (v := (.agg _)) rfl H rfl (vs := [_, _, _, _, _, _, _, _]) rfl Try.sizeOf164 rfl rfl ?_ | refine Lstore 3 rfl rfl rfl rfl (v := (.agg _)) rfl H rfl (vs := [_, _, _, _, _, _, _, _]) rfl Try.sizeOf164 rfl rfl ?_ | refine Lstore 4 rfl rfl rfl rfl (v := (.agg _)) rfl H rfl (vs := [_, _, _, _, _, _, _, _]) rfl Try.sizeOf164 rfl rfl ?_ | refine Lstore 5 rfl rfl rfl rfl (v := (.agg _)) rfl H rfl (vs := [_, _, _, _, _, _, _, _]) rfl Try.sizeOf164 rfl rfl ?_ | refine Lstore 6 rfl rfl rfl rfl (v := (.agg _)) rfl H rfl (vs := [_, _, _, _, _, _, _, _]) rfl Try.sizeOf164 rfl rfl ?_); intro w H
  refine e_list ?_; (repeat (first | (with_reducible first | refine e_then ?_ | refine e_block ?_ | refine e_then_ret ?_ | refine e_block_ret ?_ | refine e_then_exit ?_ | refine e_block_here ?_ | refine e_then_panic ?_ | refine e_block_panic ?_) | refine e_block_on rfl ?_))
  refine wp_seq ?_
  refine wp_seq ?_
  -- R4
  refine c_region ?_
  refine L1 rfl rfl H (y_assign (v := (.int .i64 _)) rfl rfl) ?_
  refine e_list ?_; (repeat (first | (with_reducible first | refine e_then ?_ | refine e_block ?_ | refine e_then_ret ?_ | refine e_block_ret ?_ | refine e_then_exit ?_ | refine e_block_here ?_ | refine e_then_panic ?_ | refine e_block_panic ?_) | refine e_block_on rfl ?_))
  refine wp_block ?_   -- block 0
  refine c_loop (ι := Nat) (fun i f w => (∃ gx, f = ov [(3, .pointer (some ⟨b3, 0, none⟩)), (6, .pointer (some ⟨b6, 0, none⟩)), (7, .pointer (some ⟨b7, 0, none⟩)), (8, .pointer (some ⟨b8, 0, none⟩)), (9, .pointer (some ⟨b9, 0, none⟩)), (10, .int .i64 (i : Nat))] gx) ∧ Heap w0 ([Ent.blk b9 164 ((rounds l s i).list.map wv), Ent.blk b8 206 (table.map wv), Ent.blk b7 206 (arrW l 64), Ent.blk b6 164 (List.replicate 8 (.int .u32 0)), Ent.blk b3 164 (s.list.map wv)]) w ∧ i ≤ 64) (fun i => 64 - i) 0 ?_ ?_
  · exact ⟨ov_ex _ ⟨rfl, rfl, rfl, rfl, rfl, rfl, trivial⟩, H, by omega⟩
  rintro i f w ⟨⟨gg, rfl⟩, H, hi⟩
  refine wp_seq ?_
  refine wp_seq ?_
  -- R5
  refine c_region ?_
  refine L1 rfl rfl H (y_move (v := (.int .i64 _)) rfl rfl) ?_
  refine L1 rfl rfl H (y_lss rfl rfl rfl) ?_
  refine e_list ?_; (repeat (first | (with_reducible first | refine e_then ?_ | refine e_block ?_ | refine e_then_ret ?_ | refine e_block_ret ?_ | refine e_then_exit ?_ | refine e_block_here ?_ | refine e_then_panic ?_ | refine e_block_panic ?_) | refine e_block_on rfl ?_))
  refine c_if rfl (fun h0 => ?_) (fun h0 => ?_)   -- if 0
  · skip
    have hi64 : i < 64 := by omega
    refine wp_skip ?_; (repeat (first | (with_reducible first | refine e_then ?_ | refine e_block ?_ | refine e_then_ret ?_ | refine e_block_ret ?_ | refine e_then_exit ?_ | refine e_block_here ?_ | refine e_then_panic ?_ | refine e_block_panic ?_) | refine e_block_on rfl ?_))
    refine wp_seq ?_
    refine wp_block ?_   -- block 1
    refine wp_seq ?_
    -- R7
    refine c_region ?_
    refine L1 rfl rfl H (y_indexArr rfl rfl rfl Try.underlying164 Try.sizeOf163 (by omega) (by omega)) ?_
    refine L1 rfl rfl H (y_load (v := (.int .u32 _)) rfl rfl Try.isAgg163 (by first | exact cell_blk (k := 0) rfl rfl | exact cell_blk (k := 1) rfl rfl | exact cell_blk (k := 2) rfl rfl | exact cell_blk (k := 3) rfl rfl | exact cell_blk (k := 4) rfl rfl | exact cell_blk (k := 5) rfl rfl | exact cell_blk (k := 6) rfl rfl | exact cell_blk (k := 7) rfl rfl)) ?_
    refine L1 rfl rfl H (y_assign (v := (.int .u32 _)) rfl rfl) ?_
    refine e_list ?_; (repeat (first | (with_reducible first | refine e_then ?_ | refine e_block ?_ | refine e_then_ret ?_ | refine e_block_ret ?_ | refine e_then_exit ?_ | refine e_block_here ?_ | refine e_then_panic ?_ | refine e_block_panic ?_) | refine e_block_on rfl ?_))
    refine wp_seq ?_
    -- R8
    refine c_region ?_
    refine L1 rfl rfl H (y_indexArr rfl rfl rfl Try.underlying164 Try.sizeOf163 (by omega) (by omega)) ?_
    refine L1 rfl rfl H (y_load (v := (.int .u32 _)) rfl rfl Try.isAgg163 (by first | exact cell_blk (k := 0) rfl rfl | exact cell_blk (k := 1) rfl rfl | exact cell_blk (k := 2) rfl rfl | exact cell_blk (k := 3) rfl rfl | exact cell_blk (k := 4) rfl rfl | exact cell_blk (k := 5) rfl rfl | exact cell_blk (k := 6) rfl rfl | exact cell_blk (k := 7) rfl rfl)) ?_
    refine L1 rfl rfl H (y_assign (v := (.int .u32 _)) rfl rfl) ?_
    refine e_list ?_; (repeat (first | (with_reducible first | refine e_then ?_ | refine e_block ?_ | refine e_then_ret ?_ | refine e_block_ret ?_ | refine e_then_exit ?_ | refine e_block_here ?_ | refine e_then_panic ?_ | refine e_block_panic ?_) | refine e_block_on rfl ?_))
    refine wp_seq ?_
    -- R9 draws
    refine c_draw H (by kernel_rfl) (by kernel_rfl) ?_
    refine Q1 rfl rfl (y_indexArr rfl rfl rfl Try.underlying164 Try.sizeOf163 (by omega) (by omega)) ?_
    refine Q1 rfl rfl (y_load (v := (.int .u32 _)) rfl rfl Try.isAgg163 (by first | exact cell_blk (k := 0) rfl rfl | exact cell_blk (k := 1) rfl rfl | exact cell_blk (k := 2) rfl rfl | exact cell_blk (k := 3) rfl rfl | exact cell_blk (k := 4) rfl rfl | exact cell_blk (k := 5) rfl rfl | exact cell_blk (k := 6) rfl rfl | exact cell_blk (k := 7) rfl rfl)) ?_
    refine Q1 rfl rfl (y_move (v := (.int .u32 _)) rfl rfl) ?_
    refine Qfn (xa := [(.int .u32 _), (.int .u64 _)]) rfl rfl rfl rfl Try.call144 (fun w H => (portageref02_rotr_calls _ 6 (by omega) (by omega)).mono (fun e w' h => ⟨h.1, H.app0 h.2⟩)) ?_   -- portage/portageref02.rotr
    refine Q1 rfl rfl (y_move (v := (.int .u32 _)) rfl rfl) ?_
    refine Qfn (xa := [(.int .u32 _), (.int .u64 _)]) rfl rfl rfl rfl Try.call144 (fun w H => (portageref02_rotr_calls _ 11 (by omega) (by omega)).mono (fun e w' h => ⟨h.1, H.app0 h.2⟩)) ?_   -- portage/portageref02.rotr
    refine Q1 rfl rfl (y_xor rfl rfl rfl (Eng.u32_xor _ _)) ?_
    refine Q1 rfl rfl (y_move (v := (.int .u32 _)) rfl rfl) ?_
    refine Qfn (xa := [(.int .u32 _), (.int .u64 _)]) rfl rfl rfl rfl Try.call144 (fun w H => (portageref02_rotr_calls _ 25 (by omega) (by omega)).mono (fun e w' h => ⟨h.1, H.app0 h.2⟩)) ?_   -- portage/portageref02.rotr
    refine Q1 rfl rfl (y_xor rfl rfl rfl (Eng.u32_xor _ _)) ?_
    refine Q1 rfl rfl (y_add rfl rfl rfl (Eng.u32_add _ _)) ?_
    refine Q1 rfl rfl (y_move (v := (.int .u32 _)) rfl rfl) ?_
    refine Q1 rfl rfl (y_indexArr rfl rfl rfl Try.underlying164 Try.sizeOf163 (by omega) (by omega)) ?_
    refine Q1 rfl rfl (y_load (v := (.int .u32 _)) rfl rfl Try.isAgg163 (by first | exact cell_blk (k := 0) rfl rfl | exact cell_blk (k := 1) rfl rfl | exact cell_blk (k := 2) rfl rfl | exact cell_blk (k := 3) rfl rfl | exact cell_blk (k := 4) rfl rfl | exact cell_blk (k := 5) rfl rfl | exact cell_blk (k := 6) rfl rfl | exact cell_blk (k := 7) rfl rfl)) ?_
    refine Q1 rfl rfl (y_and rfl rfl rfl (Eng.u32_and _ _)) ?_
    refine Q1 rfl rfl (y_move (v := (.int .u32 _)) rfl rfl) ?_
    refine Q1 rfl rfl (y_com rfl rfl (Eng.u32_not _)) ?_
    refine Q1 rfl rfl (y_indexArr rfl rfl rfl Try.underlying164 Try.sizeOf163 (by omega) (by omega)) ?_
    refine Q1 rfl rfl (y_load (v := (.int .u32 _)) rfl rfl Try.isAgg163 (by first | exact cell_blk (k := 0) rfl rfl | exact cell_blk (k := 1) rfl rfl | exact cell_blk (k := 2) rfl rfl | exact cell_blk (k := 3) rfl rfl | exact cell_blk (k := 4) rfl rfl | exact cell_blk (k := 5) rfl rfl | exact cell_blk (k := 6) rfl rfl | exact cell_blk (k := 7) rfl rfl)) ?_
    refine Q1 rfl rfl (y_and rfl rfl rfl (Eng.u32_and _ _)) ?_
    refine Q1 rfl rfl (y_xor rfl rfl rfl (Eng.u32_xor _ _)) ?_
    refine Q1 rfl rfl (y_add rfl rfl rfl (Eng.u32_add _ _)) ?_
    refine Q1 rfl rfl (y_move (v := (.int .i64 _)) rfl rfl) ?_
    refine Q1 rfl rfl (y_indexArr rfl rfl rfl Try.underlying206 Try.sizeOf163 (by omega) (by omega)) ?_
    refine Q1 rfl rfl (y_load (v := wv (table.getD i 0)) rfl rfl Try.isAgg163 (cell_blkI (k := 1) i rfl (by omega) (table_get (by omega)))) ?_
    refine Q1 rfl rfl (y_add rfl rfl rfl (Eng.u32_add _ _)) ?_
    refine Q1 rfl rfl (y_move (v := (.int .i64 _)) rfl rfl) ?_
    refine Q1 rfl rfl (y_indexArr rfl rfl rfl Try.underlying206 Try.sizeOf163 (by omega) (by omega)) ?_
    refine Q1 rfl rfl (y_load (v := wv ((words l 64).getD i 0)) rfl rfl Try.isAgg163 (cell_blkI (k := 2) i rfl (by omega) (arrW_get l (by omega)))) ?_
    refine Q1 rfl rfl (y_add rfl rfl rfl (Eng.u32_add _ _)) ?_
    refine Q1 rfl rfl (y_assign (v := (.int .u32 _)) rfl rfl) ?_
    refine Qend ?_; intro w H; (repeat (first | (with_reducible first | refine e_then ?_ | refine e_block ?_ | refine e_then_ret ?_ | refine e_block_ret ?_ | refine e_then_exit ?_ | refine e_block_here ?_ | refine e_then_panic ?_ | refine e_block_panic ?_) | refine e_block_on rfl ?_))
    refine wp_seq ?_
    -- R10 draws
    refine c_draw H (by kernel_rfl) (by kernel_rfl) ?_
    refine Q1 rfl rfl (y_move (v := (.int .u32 _)) rfl rfl) ?_
    refine Qfn (xa := [(.int .u32 _), (.int .u64 _)]) rfl rfl rfl rfl Try.call144 (fun w H => (portageref02_rotr_calls _ 2 (by omega) (by omega)).mono (fun e w' h => ⟨h.1, H.app0 h.2⟩)) ?_   -- portage/portageref02.rotr
    refine Q1 rfl rfl (y_move (v := (.int .u32 _)) rfl rfl) ?_
    refine Qfn (xa := [(.int .u32 _), (.int .u64 _)]) rfl rfl rfl rfl Try.call144 (fun w H => (portageref02_rotr_calls _ 13 (by omega) (by omega)).mono (fun e w' h => ⟨h.1, H.app0 h.2⟩)) ?_   -- portage/portageref02.rotr
    refine Q1 rfl rfl (y_xor rfl rfl rfl (Eng.u32_xor _ _)) ?_
    refine Q1 rfl rfl (y_move (v := (.int .u32 _)) rfl rfl) ?_
    refine Qfn (xa := [(.int .u32 _), (.int .u64 _)]) rfl rfl rfl rfl Try.call144 (fun w H => (portageref02_rotr_calls _ 22 (by omega) (by omega)).mono (fun e w' h => ⟨h.1, H.app0 h.2⟩)) ?_   -- portage/portageref02.rotr
    refine Q1 rfl rfl (y_xor rfl rfl rfl (Eng.u32_xor _ _)) ?_
    refine Q1 rfl rfl (y_move (v := (.int .u32 _)) rfl rfl) ?_
    refine Q1 rfl rfl (y_indexArr rfl rfl rfl Try.underlying164 Try.sizeOf163 (by omega) (by omega)) ?_
    refine Q1 rfl rfl (y_load (v := (.int .u32 _)) rfl rfl Try.isAgg163 (by first | exact cell_blk (k := 0) rfl rfl | exact cell_blk (k := 1) rfl rfl | exact cell_blk (k := 2) rfl rfl | exact cell_blk (k := 3) rfl rfl | exact cell_blk (k := 4) rfl rfl | exact cell_blk (k := 5) rfl rfl | exact cell_blk (k := 6) rfl rfl | exact cell_blk (k := 7) rfl rfl)) ?_
    refine Q1 rfl rfl (y_and rfl rfl rfl (Eng.u32_and _ _)) ?_
    refine Q1 rfl rfl (y_move (v := (.int .u32 _)) rfl rfl) ?_
    refine Q1 rfl rfl (y_indexArr rfl rfl rfl Try.underlying164 Try.sizeOf163 (by omega) (by omega)) ?_
    refine Q1 rfl rfl (y_load (v := (.int .u32 _)) rfl rfl Try.isAgg163 (by first | exact cell_blk (k := 0) rfl rfl | exact cell_blk (k := 1) rfl rfl | exact cell_blk (k := 2) rfl rfl | exact cell_blk (k := 3) rfl rfl | exact cell_blk (k := 4) rfl rfl | exact cell_blk (k := 5) rfl rfl | exact cell_blk (k := 6) rfl rfl | exact cell_blk (k := 7) rfl rfl)) ?_
    refine Q1 rfl rfl (y_and rfl rfl rfl (Eng.u32_and _ _)) ?_
    refine Q1 rfl rfl (y_xor rfl rfl rfl (Eng.u32_xor _ _)) ?_
    refine Q1 rfl rfl (y_indexArr rfl rfl rfl Try.underlying164 Try.sizeOf163 (by omega) (by omega)) ?_
    refine Q1 rfl rfl (y_load (v := (.int .u32 _)) rfl rfl Try.isAgg163 (by first | exact cell_blk (k := 0) rfl rfl | exact cell_blk (k := 1) rfl rfl | exact cell_blk (k := 2) rfl rfl | exact cell_blk (k := 3) rfl rfl | exact cell_blk (k := 4) rfl rfl | exact cell_blk (k := 5) rfl rfl | exact cell_blk (k := 6) rfl rfl | exact cell_blk (k := 7) rfl rfl)) ?_
    refine Q1 rfl rfl (y_indexArr rfl rfl rfl Try.underlying164 Try.sizeOf163 (by omega) (by omega)) ?_
    refine Q1 rfl rfl (y_load (v := (.int .u32 _)) rfl rfl Try.isAgg163 (by first | exact cell_blk (k := 0) rfl rfl | exact cell_blk (k := 1) rfl rfl | exact cell_blk (k := 2) rfl rfl | exact cell_blk (k := 3) rfl rfl | exact cell_blk (k := 4) rfl rfl | exact cell_blk (k := 5) rfl rfl | exact cell_blk (k := 6) rfl rfl | exact cell_blk (k := 7) rfl rfl)) ?_
    refine Q1 rfl rfl (y_and rfl rfl rfl (Eng.u32_and _ _)) ?_
    refine Q1 rfl rfl (y_xor rfl rfl rfl (Eng.u32_xor _ _)) ?_
    refine Q1 rfl rfl (y_add rfl rfl rfl (Eng.u32_add _ _)) ?_
    refine Q1 rfl rfl (y_assign (v := (.int .u32 _)) rfl rfl) ?_
    refine Qend ?_; intro w H; (repeat (first | (with_reducible first | refine e_then ?_ | refine e_block ?_ | refine e_then_ret ?_ | refine e_block_ret ?_ | refine e_then_exit ?_ | refine e_block_here ?_ | refine e_then_panic ?_ | refine e_block_panic ?_) | refine e_block_on rfl ?_))
    -- R11
    refine c_region ?_
    refine L1 rfl rfl H (y_move (v := (.int .u32 _)) rfl rfl) ?_
    refine L1 rfl rfl H (y_move (v := (.int .u32 _)) rfl rfl) ?_
    refine L1 rfl rfl H (y_add rfl rfl rfl (Eng.u32_add _ _)) ?_
    refine L1 rfl rfl H (y_move (v := (.int .u32 _)) rfl rfl) ?_
    refine L1 rfl rfl H (y_indexArr rfl rfl rfl Try.underlying164 Try.sizeOf163 (by omega) (by omega)) ?_
    refine L1 rfl rfl H (y_load (v := (.int .u32 _)) rfl rfl Try.isAgg163 (by first | exact cell_blk (k := 0) rfl rfl | exact cell_blk (k := 1) rfl rfl | exact cell_blk (k := 2) rfl rfl | exact cell_blk (k := 3) rfl rfl | exact cell_blk (k := 4) rfl rfl | exact cell_blk (k := 5) rfl rfl | exact cell_blk (k := 6) rfl rfl | exact cell_blk (k := 7) rfl rfl)) ?_
    refine L1 rfl rfl H (y_indexArr rfl rfl rfl Try.underlying164 Try.sizeOf163 (by omega) (by omega)) ?_
    refine L1 rfl rfl H (y_load (v := (.int .u32 _)) rfl rfl Try.isAgg163 (by first | exact cell_blk (k := 0) rfl rfl | exact cell_blk (k := 1) rfl rfl | exact cell_blk (k := 2) rfl rfl | exact cell_blk (k := 3) rfl rfl | exact cell_blk (k := 4) rfl rfl | exact cell_blk (k := 5) rfl rfl | exact cell_blk (k := 6) rfl rfl | exact cell_blk (k := 7) rfl rfl)) ?_
    refine L1 rfl rfl H (y_indexArr rfl rfl rfl Try.underlying164 Try.sizeOf163 (by omega) (by omega)) ?_
    refine L1 rfl rfl H (y_load (v := (.int .u32 _)) rfl rfl Try.isAgg163 (by first | exact cell_blk (k := 0) rfl rfl | exact cell_blk (k := 1) rfl rfl | exact cell_blk (k := 2) rfl rfl | exact cell_blk (k := 3) rfl rfl | exact cell_blk (k := 4) rfl rfl | exact cell_blk (k := 5) rfl rfl | exact cell_blk (k := 6) rfl rfl | exact cell_blk (k := 7) rfl rfl)) ?_
    refine L1 rfl rfl H (y_move (v := (.int .u32 _)) rfl rfl) ?_
    refine L1 rfl rfl H (y_add rfl rfl rfl (Eng.u32_add _ _)) ?_
    refine L1 rfl rfl H (y_move (v := (.int .u32 _)) rfl rfl) ?_
    refine L1 rfl rfl H (y_indexArr rfl rfl rfl Try.underlying164 Try.sizeOf163 (by omega) (by omega)) ?_
    refine L1 rfl rfl H (y_load (v := (.int .u32 _)) rfl rfl Try.isAgg163 (by first | exact cell_blk (k := 0) rfl rfl | exact cell_blk (k := 1) rfl rfl | exact cell_blk (k := 2) rfl rfl | exact cell_blk (k := 3) rfl rfl | exact cell_blk (k := 4) rfl rfl | exact cell_blk (k := 5) rfl rfl | exact cell_blk (k := 6) rfl rfl | exact cell_blk (k := 7) rfl rfl)) ?_
    refine L1 rfl rfl H (y_indexArr rfl rfl rfl Try.underlying164 Try.sizeOf163 (by omega) (by omega)) ?_
    refine L1 rfl rfl H (y_load (v := (.int .u32 _)) rfl rfl Try.isAgg163 (by first | exact cell_blk (k := 0) rfl rfl | exact cell_blk (k := 1) rfl rfl | exact cell_blk (k := 2) rfl rfl | exact cell_blk (k := 3) rfl rfl | exact cell_blk (k := 4) rfl rfl | exact cell_blk (k := 5) rfl rfl | exact cell_blk (k := 6) rfl rfl | exact cell_blk (k := 7) rfl rfl)) ?_
    refine L1 rfl rfl H (y_build (v := (.agg _)) rfl (vals := [(_, (.int .u32 _)), (_, (.int .u32 _)), (_, (.int .u32 _)), (_, (.int .u32 _)), (_, (.int .u32 _)), (_, (.int .u32 _)), (_, (.int .u32 _)), (_, (.int .u32 _))]) rfl (build_A8_uint32 _ _ _ _ _ _ _ _)) ?_
    (first | refine Lstore 0 rfl rfl rfl rfl (v := (.agg _)) rfl H rfl (vs := [_, _, _, _, _, _, _, _]) rfl Try.sizeOf164 rfl rfl ?_ | refine Lstore 1 rfl rfl rfl rfl (v := (.agg _)) rfl H rfl (vs := [_, _, _, _, _, _, _, _]) rfl Try.sizeOf164 rfl rfl ?_ | refine Lstore 2 rfl rfl rfl rfl (v := (.agg _)) rfl H rfl (vs := [_, _, _, _, _, _, _, _]) rfl Try.sizeOf164 rfl rfl ?_ | refine Lstore 3 rfl rfl rfl rfl (v := (.agg _)) rfl H rfl (vs := [_, _, _, _, _, _, _, _]) rfl Try.sizeOf164 rfl rfl ?_ | refine Lstore 4 rfl rfl rfl rfl (v := (.agg _)) rfl H rfl (vs := [_, _, _, _, _, _, _, _]) rfl Try.sizeOf164 rfl rfl ?_ | refine Lstore 5 rfl rfl rfl rfl (v := (.agg _)) rfl H rfl (vs := [_, _, _, _, _, _, _, _]) rfl Try.sizeOf164 rfl rfl ?_ | refine Lstore 6 rfl rfl rfl rfl (v := (.agg _)) rfl H rfl (vs := [_, _, _, _, _, _, _, _]) rfl Try.sizeOf164 rfl rfl ?_); intro w H
    refine e_list ?_; (repeat (first | (with_reducible first | refine e_then ?_ | refine e_block ?_ | refine e_then_ret ?_ | refine e_block_ret ?_ | refine e_then_exit ?_ | refine e_block_here ?_ | refine e_then_panic ?_ | refine e_block_panic ?_) | refine e_block_on rfl ?_))
    -- R6
    refine c_region ?_
    refine L1 rfl rfl H (y_move (v := (.int .i64 _)) rfl rfl) ?_
    refine L1 rfl rfl H (y_add rfl rfl rfl (by first | exact wr_i64 (by omega) (by omega) | rfl)) ?_
    refine L1 rfl rfl H (y_assign (v := (.int .i64 _)) rfl rfl) ?_
    refine e_list ?_; (repeat (first | (with_reducible first | refine e_then ?_ | refine e_block ?_ | refine e_then_ret ?_ | refine e_block_ret ?_ | refine e_then_exit ?_ | refine e_block_here ?_ | refine e_then_panic ?_ | refine e_block_panic ?_) | refine e_block_on rfl ?_))
    replace H : Heap w0 [Ent.blk b9 164 ((refRound (rounds l s i) (table.getD i 0) ((words l 64).getD i 0)).list.map wv), Ent.blk b8 206 (table.map wv), Ent.blk b7 206 (arrW l 64), Ent.blk b6 164 (List.replicate 8 (.int .u32 0)), Ent.blk b3 164 (s.list.map wv)] w := H
    rw [refRound_eq] at H
    exact ⟨i + 1, _, rfl, ⟨ov_ex _ ⟨rfl, rfl, rfl, rfl, rfl, rfl, trivial⟩, H, by omega⟩, by omega⟩
  · skip
    have hi64 : i = 64 := by omega
    subst hi64
    refine wp_exit ?_; (repeat (first | (with_reducible first | refine e_then ?_ | refine e_block ?_ | refine e_then_ret ?_ | refine e_block_ret ?_ | refine e_then_exit ?_ | refine e_block_here ?_ | refine e_then_panic ?_ | refine e_block_panic ?_) | refine e_block_on rfl ?_))
    refine wp_seq ?_
    refine wp_seq ?_
    -- R12
    refine c_region ?_
    refine L1 rfl rfl H (y_assign (v := (.int .i64 _)) rfl rfl) ?_
    refine e_list ?_; (repeat (first | (with_reducible first | refine e_then ?_ | refine e_block ?_ | refine e_then_ret ?_ | refine e_block_ret ?_ | refine e_then_exit ?_ | refine e_block_here ?_ | refine e_then_panic ?_ | refine e_block_panic ?_) | refine e_block_on rfl ?_))
    refine wp_block ?_   -- block 2
    refine c_loop (ι := Nat) (fun i f w => (∃ gx, f = ov [(3, .pointer (some ⟨b3, 0, none⟩)), (6, .pointer (some ⟨b6, 0, none⟩)), (9, .pointer (some ⟨b9, 0, none⟩)), (15, .int .i64 (i : Nat))] gx) ∧ Heap w0 ([Ent.blk b9 164 ((rounds l s 64).list.map wv), Ent.blk b8 206 (table.map wv), Ent.blk b7 206 (arrW l 64), Ent.blk b6 164 (List.replicate 8 (.int .u32 0)), Ent.blk b3 164 ((mixL (behind s l).list s.list i).map wv)]) w ∧ i ≤ 8) (fun i => 8 - i) 0 ?_ ?_
    · exact ⟨ov_ex _ ⟨rfl, rfl, rfl, rfl, trivial⟩, H, by omega⟩
    rintro i f w ⟨⟨gg, rfl⟩, H, hi⟩
    refine wp_seq ?_
    refine wp_seq ?_
    -- R13
    refine c_region ?_
    refine L1 rfl rfl H (y_move (v := (.int .i64 _)) rfl rfl) ?_
    refine L1 rfl rfl H (y_lss rfl rfl rfl) ?_
    refine e_list ?_; (repeat (first | (with_reducible first | refine e_then ?_ | refine e_block ?_ | refine e_then_ret ?_ | refine e_block_ret ?_ | refine e_then_exit ?_ | refine e_block_here ?_ | refine e_then_panic ?_ | refine e_block_panic ?_) | refine e_block_on rfl ?_))
    refine c_if rfl (fun h1 => ?_) (fun h1 => ?_)   -- if 1
    · skip
      have hi8 : i < 8 := by omega
      refine wp_skip ?_; (repeat (first | (with_reducible first | refine e_then ?_ | refine e_block ?_ | refine e_then_ret ?_ | refine e_block_ret ?_ | refine e_then_exit ?_ | refine e_block_here ?_ | refine e_then_panic ?_ | refine e_block_panic ?_) | refine e_block_on rfl ?_))
      refine wp_seq ?_
      refine wp_block ?_   -- block 3
      -- R15 draws
      refine c_tail 9 H (by kernel_rfl) (by kernel_rfl) (fun w H => ?_)
      refine S1 rfl rfl H (y_move (v := (.int .i64 _)) rfl rfl) ?_
      refine S1 rfl rfl H (y_move (v := (.int .i64 _)) rfl rfl) ?_
      refine S1 rfl rfl H (y_indexArr rfl rfl rfl Try.underlying164 Try.sizeOf163 (by omega) (by omega)) ?_
      refine S1 rfl rfl H (y_load (v := wv (s.list.getD i 0)) rfl rfl Try.isAgg163 (cell_blkI (k := 4) i rfl (by omega) (mixL_get rfl rfl hi8))) ?_
      refine S1 rfl rfl H (y_move (v := (.int .i64 _)) rfl rfl) ?_
      refine S1 rfl rfl H (y_indexArr rfl rfl rfl Try.underlying164 Try.sizeOf163 (by omega) (by omega)) ?_
      refine S1 rfl rfl H (y_load (v := wv ((rounds l s 64).list.getD i 0)) rfl rfl Try.isAgg163 (cell_blkI (k := 0) i rfl (by omega) (list_get _ hi8))) ?_
      refine S1 rfl rfl H (y_add rfl rfl rfl (Eng.u32_add _ _)) ?_
      refine S1 rfl rfl H (y_indexArr rfl rfl rfl Try.underlying164 Try.sizeOf163 (by omega) (by omega)) ?_
      refine Send ?_
      refine Lset 4 i rfl rfl rfl rfl (v := wv (s.list.getD i 0 + (rounds l s 64).list.getD i 0)) rfl H rfl rfl Try.sizeOf163 rfl (by omega) (by rw [List.length_map, mixL_length rfl rfl (by omega)]; omega) ?_; intro w H
      replace H : Heap w0 [Ent.blk b9 164 ((rounds l s 64).list.map wv), Ent.blk b8 206 (table.map wv), Ent.blk b7 206 (arrW l 64), Ent.blk b6 164 (List.replicate 8 (.int .u32 0)), Ent.blk b3 164 ((mixL (behind s l).list s.list (i + 1)).map wv)] w := by
        have e : s.list.getD i 0 + (rounds l s 64).list.getD i 0 = (behind s l).list.getD i 0 := by rw [behind, add8_getD _ _ hi8, UInt32.add_comm]
        rw [e] at H
        rw [← mixL_set rfl rfl hi8]
        exact H
      refine e_list ?_; (repeat (first | (with_reducible first | refine e_then ?_ | refine e_block ?_ | refine e_then_ret ?_ | refine e_block_ret ?_ | refine e_then_exit ?_ | refine e_block_here ?_ | refine e_then_panic ?_ | refine e_block_panic ?_) | refine e_block_on rfl ?_))
      -- R14
      refine c_region ?_
      refine L1 rfl rfl H (y_move (v := (.int .i64 _)) rfl rfl) ?_
      refine L1 rfl rfl H (y_add rfl rfl rfl (by first | exact wr_i64 (by omega) (by omega) | rfl)) ?_
      refine L1 rfl rfl H (y_assign (v := (.int .i64 _)) rfl rfl) ?_
      refine e_list ?_; (repeat (first | (with_reducible first | refine e_then ?_ | refine e_block ?_ | refine e_then_ret ?_ | refine e_block_ret ?_ | refine e_then_exit ?_ | refine e_block_here ?_ | refine e_then_panic ?_ | refine e_block_panic ?_) | refine e_block_on rfl ?_))
      exact ⟨i + 1, _, rfl, ⟨ov_ex _ ⟨rfl, rfl, rfl, rfl, trivial⟩, H, by omega⟩, by omega⟩
    · skip
      have hi8 : i = 8 := by omega
      subst hi8
      refine wp_exit ?_; (repeat (first | (with_reducible first | refine e_then ?_ | refine e_block ?_ | refine e_then_ret ?_ | refine e_block_ret ?_ | refine e_then_exit ?_ | refine e_block_here ?_ | refine e_then_panic ?_ | refine e_block_panic ?_) | refine e_block_on rfl ?_))
      refine wp_seq ?_
      -- R16
      refine c_region ?_
      refine L1 rfl rfl H (y_loadAgg (vs := (behind s l).list.map wv) rfl rfl Try.isAgg164 Try.sizeOf164 (cells_blk (k := 4) (off := 0) rfl rfl)) ?_
      (first | refine Lstore 0 rfl rfl rfl rfl (v := (.agg _)) rfl H rfl (vs := [_, _, _, _, _, _, _, _]) rfl Try.sizeOf164 rfl rfl ?_ | refine Lstore 1 rfl rfl rfl rfl (v := (.agg _)) rfl H rfl (vs := [_, _, _, _, _, _, _, _]) rfl Try.sizeOf164 rfl rfl ?_ | refine Lstore 2 rfl rfl rfl rfl (v := (.agg _)) rfl H rfl (vs := [_, _, _, _, _, _, _, _]) rfl Try.sizeOf164 rfl rfl ?_ | refine Lstore 3 rfl rfl rfl rfl (v := (.agg _)) rfl H rfl (vs := [_, _, _, _, _, _, _, _]) rfl Try.sizeOf164 rfl rfl ?_ | refine Lstore 4 rfl rfl rfl rfl (v := (.agg _)) rfl H rfl (vs := [_, _, _, _, _, _, _, _]) rfl Try.sizeOf164 rfl rfl ?_ | refine Lstore 5 rfl rfl rfl rfl (v := (.agg _)) rfl H rfl (vs := [_, _, _, _, _, _, _, _]) rfl Try.sizeOf164 rfl rfl ?_ | refine Lstore 6 rfl rfl rfl rfl (v := (.agg _)) rfl H rfl (vs := [_, _, _, _, _, _, _, _]) rfl Try.sizeOf164 rfl rfl ?_); intro w H
      refine e_list ?_; (repeat (first | (with_reducible first | refine e_then ?_ | refine e_block ?_ | refine e_then_ret ?_ | refine e_block_ret ?_ | refine e_then_exit ?_ | refine e_block_here ?_ | refine e_then_panic ?_ | refine e_block_panic ?_) | refine e_block_on rfl ?_))
      refine wp_ret ?_; (repeat (first | (with_reducible first | refine e_then ?_ | refine e_block ?_ | refine e_then_ret ?_ | refine e_block_ret ?_ | refine e_then_exit ?_ | refine e_block_here ?_ | refine e_then_panic ?_ | refine e_block_panic ?_) | refine e_block_on rfl ?_))
      refine r_c rfl rfl (run_loadAgg (vs := (behind s l).list.map wv) Try.isAgg164 Try.sizeOf164 (fun j u hu => cells_blk (k := 3) (off := 0) rfl rfl w H j u hu)) ?_
      exact ⟨rfl, H.clear⟩
-- »block
end
end Go.Dig
