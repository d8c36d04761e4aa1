/-
  SHA-256 in the program: the words behind one more block.
-/
import Derived.Test.YtjfifehofflaeaaDig2
namespace Go.Dig
open Go.RowKit Go.Eng Go.Proofs
set_option linter.unusedSimpArgs false
set_option linter.unusedVariables false
attribute [local irreducible] wpList wpQuiet wpStill wpMix

section
variable {w0 w : World} {R : List Ent}
-- «behind»
theorem behind_calls {w0 : World} {s : S8} {l : By} (hl : l.length = 64) :
    Calls Try.prog 151 #[sv s, .agg (l.map bv).toArray] w0 fun e w' => e = .returned (sv (behind s l)) ∧ Heap w0 [] w' := by
  refine c_enter (xa := [(sv s), (.agg (l.map bv).toArray)]) 130 Try.func151 rfl rfl rfl ?_
  have H := Heap.init w0
  refine wp_seq ?_
  -- R0
  refine c_region ?_
  refine Lbox rfl rfl rfl (z := sv s) rfl H (cs := s.list.map wv) rfl ?_; intro b2 w H
  refine Lbox rfl rfl rfl (z := .agg (l.map bv).toArray) rfl H (cs := l.map bv) rfl ?_; intro b3 w H
  refine Lalloc rfl rfl rfl H Try.zeroValue178 (cs := List.replicate 8 (.int .u32 0)) rfl ?_; intro b4 w H
  refine e_list ?_; (repeat (first | (with_reducible first | refine e_then ?_ | refine e_block ?_ | refine e_then_ret ?_ | refine e_block_ret ?_ | refine e_then_exit ?_ | refine e_block_here ?_ | refine e_then_panic ?_ | refine e_block_panic ?_) | refine e_block_on rfl ?_))
  refine wp_seq ?_
  -- R1
  refine c_region ?_
  refine Lalloc rfl rfl rfl H Try.zeroValue206 (cs := arrW l 0) rfl ?_; intro b5 w H
  refine e_list ?_; (repeat (first | (with_reducible first | refine e_then ?_ | refine e_block ?_ | refine e_then_ret ?_ | refine e_block_ret ?_ | refine e_then_exit ?_ | refine e_block_here ?_ | refine e_then_panic ?_ | refine e_block_panic ?_) | refine e_block_on rfl ?_))
  refine wp_seq ?_
  refine wp_seq ?_
  -- R2
  refine c_region ?_
  refine L1 rfl rfl H (y_move (v := (.int .i64 _)) rfl rfl) ?_
  refine e_list ?_; (repeat (first | (with_reducible first | refine e_then ?_ | refine e_block ?_ | refine e_then_ret ?_ | refine e_block_ret ?_ | refine e_then_exit ?_ | refine e_block_here ?_ | refine e_then_panic ?_ | refine e_block_panic ?_) | refine e_block_on rfl ?_))
  refine wp_block ?_   -- block 0
  refine c_loop (ι := Nat) (fun t f w => (∃ gx, f = ov [(2, .pointer (some ⟨b2, 0, none⟩)), (3, .pointer (some ⟨b3, 0, none⟩)), (4, .pointer (some ⟨b4, 0, none⟩)), (5, .pointer (some ⟨b5, 0, none⟩)), (14, .int .i64 (t : Nat))] gx) ∧ Heap w0 ([Ent.blk b5 206 (arrW l t), Ent.blk b4 178 (List.replicate 8 (.int .u32 0)), Ent.blk b3 180 (l.map bv), Ent.blk b2 178 (s.list.map wv)]) w ∧ t ≤ 16) (fun t => 16 - t) 0 ?_ ?_
  · exact ⟨ov_ex _ ⟨rfl, rfl, rfl, rfl, rfl, trivial⟩, H, by omega⟩
  rintro t f w ⟨⟨gg, rfl⟩, H, ht0⟩
  refine wp_seq ?_
  -- R3
  refine c_region ?_
  refine L1 rfl rfl H (y_lss rfl rfl rfl) ?_
  refine e_list ?_; (repeat (first | (with_reducible first | refine e_then ?_ | refine e_block ?_ | refine e_then_ret ?_ | refine e_block_ret ?_ | refine e_then_exit ?_ | refine e_block_here ?_ | refine e_then_panic ?_ | refine e_block_panic ?_) | refine e_block_on rfl ?_))
  refine wp_seq ?_
  refine c_if rfl (fun h0 => ?_) (fun h0 => ?_)   -- if 0
  · skip
    have ht : t < 16 := by omega
    have hby : ∀ i, i < 4 → (l.map bv)[4 * t + i]? = some (bv (l.getD (4 * t + i) 0)) := by
      intro i hi
      have h1 : 4 * t + i < l.length := by omega
      rw [List.getElem?_map, List.getD_eq_getElem?_getD, List.getElem?_eq_getElem h1]
      rfl
    refine wp_skip ?_; (repeat (first | (with_reducible first | refine e_then ?_ | refine e_block ?_ | refine e_then_ret ?_ | refine e_block_ret ?_ | refine e_then_exit ?_ | refine e_block_here ?_ | refine e_then_panic ?_ | refine e_block_panic ?_) | refine e_block_on rfl ?_))
    refine wp_seq ?_
    refine wp_block ?_   -- block 1
    refine wp_seq ?_
    -- R4
    refine c_region ?_
    refine L1 rfl rfl H (y_move (v := (.int .i64 _)) rfl rfl) ?_
    refine L1 rfl rfl H (y_assign (v := (.int .i64 _)) rfl rfl) ?_
    refine e_list ?_; (repeat (first | (with_reducible first | refine e_then ?_ | refine e_block ?_ | refine e_then_ret ?_ | refine e_block_ret ?_ | refine e_then_exit ?_ | refine e_block_here ?_ | refine e_then_panic ?_ | refine e_block_panic ?_) | refine e_block_on rfl ?_))
    -- R5 draws
    refine c_tail 31 H (by kernel_rfl) (by kernel_rfl) (fun w H => ?_)
    refine S1 rfl rfl H (y_move (v := (.int .i64 _)) rfl rfl) ?_
    refine S1 rfl rfl H (y_move (v := (.int .i64 _)) rfl rfl) ?_
    refine S1 rfl rfl H (y_mul (r := ((4 * t : Nat) : Int)) rfl rfl rfl (by rw [wr_i64 (by omega) (by omega)]; omega)) ?_
    refine S1 rfl rfl H (y_indexArr rfl rfl rfl Try.underlying180 Try.sizeOf5 (by omega) (by omega)) ?_
    refine S1 rfl rfl H (y_load (v := bv (l.getD (4 * t + 0) 0)) rfl rfl Try.isAgg5 (cell_blkI (k := 2) (4 * t + 0) rfl (by omega) (hby 0 (by omega)))) ?_
    refine S1 rfl rfl H (y_conv rfl rfl Try.underlying5 Try.underlying163 (u8_u32 _)) ?_
    refine S1 rfl rfl H (y_shl rfl rfl rfl (by omega) (u32_shl _ (n := 24) (by omega))) ?_
    refine S1 rfl rfl H (y_move (v := (.int .i64 _)) rfl rfl) ?_
    refine S1 rfl rfl H (y_mul (r := ((4 * t : Nat) : Int)) rfl rfl rfl (by rw [wr_i64 (by omega) (by omega)]; omega)) ?_
    refine S1 rfl rfl H (y_add rfl rfl rfl (by first | exact wr_i64 (by omega) (by omega) | rfl)) ?_
    refine S1 rfl rfl H (y_indexArr rfl rfl rfl Try.underlying180 Try.sizeOf5 (by omega) (by omega)) ?_
    refine S1 rfl rfl H (y_load (v := bv (l.getD (4 * t + 1) 0)) rfl rfl Try.isAgg5 (cell_blkI (k := 2) (4 * t + 1) rfl (by omega) (hby 1 (by omega)))) ?_
    refine S1 rfl rfl H (y_conv rfl rfl Try.underlying5 Try.underlying163 (u8_u32 _)) ?_
    refine S1 rfl rfl H (y_shl rfl rfl rfl (by omega) (u32_shl _ (n := 16) (by omega))) ?_
    refine S1 rfl rfl H (y_or rfl rfl rfl (Eng.u32_or _ _)) ?_
    refine S1 rfl rfl H (y_move (v := (.int .i64 _)) rfl rfl) ?_
    refine S1 rfl rfl H (y_mul (r := ((4 * t : Nat) : Int)) rfl rfl rfl (by rw [wr_i64 (by omega) (by omega)]; omega)) ?_
    refine S1 rfl rfl H (y_add rfl rfl rfl (by first | exact wr_i64 (by omega) (by omega) | rfl)) ?_
    refine S1 rfl rfl H (y_indexArr rfl rfl rfl Try.underlying180 Try.sizeOf5 (by omega) (by omega)) ?_
    refine S1 rfl rfl H (y_load (v := bv (l.getD (4 * t + 2) 0)) rfl rfl Try.isAgg5 (cell_blkI (k := 2) (4 * t + 2) rfl (by omega) (hby 2 (by omega)))) ?_
    refine S1 rfl rfl H (y_conv rfl rfl Try.underlying5 Try.underlying163 (u8_u32 _)) ?_
    refine S1 rfl rfl H (y_shl rfl rfl rfl (by omega) (u32_shl _ (n := 8) (by omega))) ?_
    refine S1 rfl rfl H (y_or rfl rfl rfl (Eng.u32_or _ _)) ?_
    refine S1 rfl rfl H (y_move (v := (.int .i64 _)) rfl rfl) ?_
    refine S1 rfl rfl H (y_mul (r := ((4 * t : Nat) : Int)) rfl rfl rfl (by rw [wr_i64 (by omega) (by omega)]; omega)) ?_
    refine S1 rfl rfl H (y_add rfl rfl rfl (by first | exact wr_i64 (by omega) (by omega) | rfl)) ?_
    refine S1 rfl rfl H (y_indexArr rfl rfl rfl Try.underlying180 Try.sizeOf5 (by omega) (by omega)) ?_
    refine S1 rfl rfl H (y_load (v := bv (l.getD (4 * t + 3) 0)) rfl rfl Try.isAgg5 (cell_blkI (k := 2) (4 * t + 3) rfl (by omega) (hby 3 (by omega)))) ?_
    refine S1 rfl rfl H (y_conv rfl rfl Try.underlying5 Try.underlying163 (u8_u32 _)) ?_
    refine S1 rfl rfl H (y_or rfl rfl rfl (Eng.u32_or _ _)) ?_
    refine S1 rfl rfl H (y_indexArr rfl rfl rfl Try.underlying206 Try.sizeOf163 (by omega) (by omega)) ?_
    refine Send ?_
    refine Lset 0 t rfl rfl rfl rfl (v := .int .u32 _) rfl H rfl rfl Try.sizeOf163 rfl (by omega) (by rw [arrW_length l t (by omega)]; omega) ?_; intro w H
    replace H : Heap w0 [Ent.blk b5 206 ((arrW l t).set t (wv (be4 l (4 * t)))), Ent.blk b4 178 (List.replicate 8 (.int .u32 0)), Ent.blk b3 180 (l.map bv), Ent.blk b2 178 (s.list.map wv)] w := H
    rw [← nextW_lo l ht, arrW_set l (by omega)] at H
    refine e_list ?_; (repeat (first | (with_reducible first | refine e_then ?_ | refine e_block ?_ | refine e_then_ret ?_ | refine e_block_ret ?_ | refine e_then_exit ?_ | refine e_block_here ?_ | refine e_then_panic ?_ | refine e_block_panic ?_) | refine e_block_on rfl ?_))
    -- R6
    refine c_region ?_
    refine L1 rfl rfl H (y_add rfl rfl rfl (by first | exact wr_i64 (by omega) (by omega) | rfl)) ?_
    refine L1 rfl rfl H (y_move (v := (.int .i64 _)) rfl rfl) ?_
    refine e_list ?_; (repeat (first | (with_reducible first | refine e_then ?_ | refine e_block ?_ | refine e_then_ret ?_ | refine e_block_ret ?_ | refine e_then_exit ?_ | refine e_block_here ?_ | refine e_then_panic ?_ | refine e_block_panic ?_) | refine e_block_on rfl ?_))
    exact ⟨t + 1, _, rfl, ⟨ov_ex _ ⟨rfl, rfl, rfl, rfl, rfl, trivial⟩, H, by omega⟩, by omega⟩
  · skip
    have ht : t = 16 := by omega
    subst ht
    refine wp_exit ?_; (repeat (first | (with_reducible first | refine e_then ?_ | refine e_block ?_ | refine e_then_ret ?_ | refine e_block_ret ?_ | refine e_then_exit ?_ | refine e_block_here ?_ | refine e_then_panic ?_ | refine e_block_panic ?_) | refine e_block_on rfl ?_))
    refine wp_seq ?_
    refine wp_seq ?_
    -- R7
    refine c_region ?_
    refine L1 rfl rfl H (y_assign (v := (.int .i64 _)) rfl rfl) ?_
    refine e_list ?_; (repeat (first | (with_reducible first | refine e_then ?_ | refine e_block ?_ | refine e_then_ret ?_ | refine e_block_ret ?_ | refine e_then_exit ?_ | refine e_block_here ?_ | refine e_then_panic ?_ | refine e_block_panic ?_) | refine e_block_on rfl ?_))
    refine wp_block ?_   -- block 2
    refine c_loop (ι := Nat) (fun t f w => (∃ gx, f = ov [(2, .pointer (some ⟨b2, 0, none⟩)), (4, .pointer (some ⟨b4, 0, none⟩)), (5, .pointer (some ⟨b5, 0, none⟩)), (7, .int .i64 (t : Nat))] gx) ∧ Heap w0 ([Ent.blk b5 206 (arrW l t), Ent.blk b4 178 (List.replicate 8 (.int .u32 0)), Ent.blk b3 180 (l.map bv), Ent.blk b2 178 (s.list.map wv)]) w ∧ 16 ≤ t ∧ t ≤ 64) (fun t => 64 - t) 16 ?_ ?_
    · exact ⟨ov_ex _ ⟨rfl, rfl, rfl, rfl, trivial⟩, H, by omega⟩
    rintro t f w ⟨⟨gg, rfl⟩, H, ht0⟩
    refine wp_seq ?_
    refine wp_seq ?_
    -- R8
    refine c_region ?_
    refine L1 rfl rfl H (y_move (v := (.int .i64 _)) rfl rfl) ?_
    refine L1 rfl rfl H (y_lss rfl rfl rfl) ?_
    refine e_list ?_; (repeat (first | (with_reducible first | refine e_then ?_ | refine e_block ?_ | refine e_then_ret ?_ | refine e_block_ret ?_ | refine e_then_exit ?_ | refine e_block_here ?_ | refine e_then_panic ?_ | refine e_block_panic ?_) | refine e_block_on rfl ?_))
    refine c_if rfl (fun h1 => ?_) (fun h1 => ?_)   -- if 1
    · skip
      have ht : ¬ t < 16 := by omega
      refine wp_skip ?_; (repeat (first | (with_reducible first | refine e_then ?_ | refine e_block ?_ | refine e_then_ret ?_ | refine e_block_ret ?_ | refine e_then_exit ?_ | refine e_block_here ?_ | refine e_then_panic ?_ | refine e_block_panic ?_) | refine e_block_on rfl ?_))
      refine wp_seq ?_
      refine wp_block ?_   -- block 3
      refine wp_seq ?_
      -- R10 draws
      refine c_draw H (by kernel_rfl) (by kernel_rfl) ?_
      refine Q1 rfl rfl (y_move (v := (.int .i64 _)) rfl rfl) ?_
      refine Q1 rfl rfl (y_sub rfl rfl rfl (by first | exact wr_i64 (by omega) (by omega) | rfl)) ?_
      refine Q1 rfl rfl (y_indexArr rfl rfl rfl Try.underlying206 Try.sizeOf163 (by omega) (by omega)) ?_
      refine Q1 rfl rfl (y_load (v := wv ((words l t).getD (t - 15) 0)) rfl rfl Try.isAgg163 (cell_blkI (k := 0) (t - 15) rfl (by omega) (arrW_get l (by omega)))) ?_
      refine Qfn (xa := [(.int .u32 _), (.int .u64 _)]) rfl rfl rfl rfl Try.call169 (fun w H => (digest_rotr_calls _ 7 (by omega) (by omega)).mono (fun e w' h => ⟨h.1, H.app0 h.2⟩)) ?_   -- portage/digest.rotr
      refine Q1 rfl rfl (y_move (v := (.int .i64 _)) rfl rfl) ?_
      refine Q1 rfl rfl (y_sub rfl rfl rfl (by first | exact wr_i64 (by omega) (by omega) | rfl)) ?_
      refine Q1 rfl rfl (y_indexArr rfl rfl rfl Try.underlying206 Try.sizeOf163 (by omega) (by omega)) ?_
      refine Q1 rfl rfl (y_load (v := wv ((words l t).getD (t - 15) 0)) rfl rfl Try.isAgg163 (cell_blkI (k := 0) (t - 15) rfl (by omega) (arrW_get l (by omega)))) ?_
      refine Qfn (xa := [(.int .u32 _), (.int .u64 _)]) rfl rfl rfl rfl Try.call169 (fun w H => (digest_rotr_calls _ 18 (by omega) (by omega)).mono (fun e w' h => ⟨h.1, H.app0 h.2⟩)) ?_   -- portage/digest.rotr
      refine Q1 rfl rfl (y_xor rfl rfl rfl (Eng.u32_xor _ _)) ?_
      refine Q1 rfl rfl (y_move (v := (.int .i64 _)) rfl rfl) ?_
      refine Q1 rfl rfl (y_sub rfl rfl rfl (by first | exact wr_i64 (by omega) (by omega) | rfl)) ?_
      refine Q1 rfl rfl (y_indexArr rfl rfl rfl Try.underlying206 Try.sizeOf163 (by omega) (by omega)) ?_
      refine Q1 rfl rfl (y_load (v := wv ((words l t).getD (t - 15) 0)) rfl rfl Try.isAgg163 (cell_blkI (k := 0) (t - 15) rfl (by omega) (arrW_get l (by omega)))) ?_
      refine Q1 rfl rfl (y_shr rfl rfl rfl (by omega) (u32_shr _ (n := 3) (by omega))) ?_
      refine Q1 rfl rfl (y_xor rfl rfl rfl (Eng.u32_xor _ _)) ?_
      refine Q1 rfl rfl (y_assign (v := (.int .u32 _)) rfl rfl) ?_
      refine Qend ?_; intro w H; (repeat (first | (with_reducible first | refine e_then ?_ | refine e_block ?_ | refine e_then_ret ?_ | refine e_block_ret ?_ | refine e_then_exit ?_ | refine e_block_here ?_ | refine e_then_panic ?_ | refine e_block_panic ?_) | refine e_block_on rfl ?_))
      refine wp_seq ?_
      -- R11 draws
      refine c_draw H (by kernel_rfl) (by kernel_rfl) ?_
      refine Q1 rfl rfl (y_move (v := (.int .i64 _)) rfl rfl) ?_
      refine Q1 rfl rfl (y_sub rfl rfl rfl (by first | exact wr_i64 (by omega) (by omega) | rfl)) ?_
      refine Q1 rfl rfl (y_indexArr rfl rfl rfl Try.underlying206 Try.sizeOf163 (by omega) (by omega)) ?_
      refine Q1 rfl rfl (y_load (v := wv ((words l t).getD (t - 2) 0)) rfl rfl Try.isAgg163 (cell_blkI (k := 0) (t - 2) rfl (by omega) (arrW_get l (by omega)))) ?_
      refine Qfn (xa := [(.int .u32 _), (.int .u64 _)]) rfl rfl rfl rfl Try.call169 (fun w H => (digest_rotr_calls _ 17 (by omega) (by omega)).mono (fun e w' h => ⟨h.1, H.app0 h.2⟩)) ?_   -- portage/digest.rotr
      refine Q1 rfl rfl (y_move (v := (.int .i64 _)) rfl rfl) ?_
      refine Q1 rfl rfl (y_sub rfl rfl rfl (by first | exact wr_i64 (by omega) (by omega) | rfl)) ?_
      refine Q1 rfl rfl (y_indexArr rfl rfl rfl Try.underlying206 Try.sizeOf163 (by omega) (by omega)) ?_
      refine Q1 rfl rfl (y_load (v := wv ((words l t).getD (t - 2) 0)) rfl rfl Try.isAgg163 (cell_blkI (k := 0) (t - 2) rfl (by omega) (arrW_get l (by omega)))) ?_
      refine Qfn (xa := [(.int .u32 _), (.int .u64 _)]) rfl rfl rfl rfl Try.call169 (fun w H => (digest_rotr_calls _ 19 (by omega) (by omega)).mono (fun e w' h => ⟨h.1, H.app0 h.2⟩)) ?_   -- portage/digest.rotr
      refine Q1 rfl rfl (y_xor rfl rfl rfl (Eng.u32_xor _ _)) ?_
      refine Q1 rfl rfl (y_move (v := (.int .i64 _)) rfl rfl) ?_
      refine Q1 rfl rfl (y_sub rfl rfl rfl (by first | exact wr_i64 (by omega) (by omega) | rfl)) ?_
      refine Q1 rfl rfl (y_indexArr rfl rfl rfl Try.underlying206 Try.sizeOf163 (by omega) (by omega)) ?_
      refine Q1 rfl rfl (y_load (v := wv ((words l t).getD (t - 2) 0)) rfl rfl Try.isAgg163 (cell_blkI (k := 0) (t - 2) rfl (by omega) (arrW_get l (by omega)))) ?_
      refine Q1 rfl rfl (y_shr rfl rfl rfl (by omega) (u32_shr _ (n := 10) (by omega))) ?_
      refine Q1 rfl rfl (y_xor rfl rfl rfl (Eng.u32_xor _ _)) ?_
      refine Q1 rfl rfl (y_assign (v := (.int .u32 _)) rfl rfl) ?_
      refine Qend ?_; intro w H; (repeat (first | (with_reducible first | refine e_then ?_ | refine e_block ?_ | refine e_then_ret ?_ | refine e_block_ret ?_ | refine e_then_exit ?_ | refine e_block_here ?_ | refine e_then_panic ?_ | refine e_block_panic ?_) | refine e_block_on rfl ?_))
      -- R12 draws
      refine c_tail 15 H (by kernel_rfl) (by kernel_rfl) (fun w H => ?_)
      refine S1 rfl rfl H (y_move (v := (.int .i64 _)) rfl rfl) ?_
      refine S1 rfl rfl H (y_move (v := (.int .u32 _)) rfl rfl) ?_
      refine S1 rfl rfl H (y_move (v := (.int .i64 _)) rfl rfl) ?_
      refine S1 rfl rfl H (y_sub rfl rfl rfl (by first | exact wr_i64 (by omega) (by omega) | rfl)) ?_
      refine S1 rfl rfl H (y_indexArr rfl rfl rfl Try.underlying206 Try.sizeOf163 (by omega) (by omega)) ?_
      refine S1 rfl rfl H (y_load (v := wv ((words l t).getD (t - 7) 0)) rfl rfl Try.isAgg163 (cell_blkI (k := 0) (t - 7) rfl (by omega) (arrW_get l (by omega)))) ?_
      refine S1 rfl rfl H (y_add rfl rfl rfl (Eng.u32_add _ _)) ?_
      refine S1 rfl rfl H (y_move (v := (.int .u32 _)) rfl rfl) ?_
      refine S1 rfl rfl H (y_add rfl rfl rfl (Eng.u32_add _ _)) ?_
      refine S1 rfl rfl H (y_move (v := (.int .i64 _)) rfl rfl) ?_
      refine S1 rfl rfl H (y_sub rfl rfl rfl (by first | exact wr_i64 (by omega) (by omega) | rfl)) ?_
      refine S1 rfl rfl H (y_indexArr rfl rfl rfl Try.underlying206 Try.sizeOf163 (by omega) (by omega)) ?_
      refine S1 rfl rfl H (y_load (v := wv ((words l t).getD (t - 16) 0)) rfl rfl Try.isAgg163 (cell_blkI (k := 0) (t - 16) rfl (by omega) (arrW_get l (by omega)))) ?_
      refine S1 rfl rfl H (y_add rfl rfl rfl (Eng.u32_add _ _)) ?_
      refine S1 rfl rfl H (y_indexArr rfl rfl rfl Try.underlying206 Try.sizeOf163 (by omega) (by omega)) ?_
      refine Send ?_
      refine Lset 0 t rfl rfl rfl rfl (v := .int .u32 _) rfl H rfl rfl Try.sizeOf163 rfl (by omega) (by rw [arrW_length l t (by omega)]; omega) ?_; intro w H
      replace H : Heap w0 [Ent.blk b5 206 ((arrW l t).set t (wv (((sg1 ((words l t).getD (t - 2) 0) + (words l t).getD (t - 7) 0) + sg0 ((words l t).getD (t - 15) 0)) + (words l t).getD (t - 16) 0))), Ent.blk b4 178 (List.replicate 8 (.int .u32 0)), Ent.blk b3 180 (l.map bv), Ent.blk b2 178 (s.list.map wv)] w := H
      rw [← nextW_hi l ht, arrW_set l (by omega)] at H
      refine e_list ?_; (repeat (first | (with_reducible first | refine e_then ?_ | refine e_block ?_ | refine e_then_ret ?_ | refine e_block_ret ?_ | refine e_then_exit ?_ | refine e_block_here ?_ | refine e_then_panic ?_ | refine e_block_panic ?_) | refine e_block_on rfl ?_))
      -- R9
      refine c_region ?_
      refine L1 rfl rfl H (y_move (v := (.int .i64 _)) rfl rfl) ?_
      refine L1 rfl rfl H (y_add rfl rfl rfl (by first | exact wr_i64 (by omega) (by omega) | rfl)) ?_
      refine L1 rfl rfl H (y_assign (v := (.int .i64 _)) rfl rfl) ?_
      refine e_list ?_; (repeat (first | (with_reducible first | refine e_then ?_ | refine e_block ?_ | refine e_then_ret ?_ | refine e_block_ret ?_ | refine e_then_exit ?_ | refine e_block_here ?_ | refine e_then_panic ?_ | refine e_block_panic ?_) | refine e_block_on rfl ?_))
      exact ⟨t + 1, _, rfl, ⟨ov_ex _ ⟨rfl, rfl, rfl, rfl, trivial⟩, H, by omega⟩, by omega⟩
    · skip
      have ht : t = 64 := by omega
      subst ht
      refine wp_exit ?_; (repeat (first | (with_reducible first | refine e_then ?_ | refine e_block ?_ | refine e_then_ret ?_ | refine e_block_ret ?_ | refine e_then_exit ?_ | refine e_block_here ?_ | refine e_then_panic ?_ | refine e_block_panic ?_) | refine e_block_on rfl ?_))
      refine wp_seq ?_
      -- R13
      refine c_region ?_
      refine L1 rfl rfl H (y_loadAgg (vs := s.list.map wv) rfl rfl Try.isAgg178 Try.sizeOf178 (cells_blk (k := 3) (off := 0) rfl rfl)) ?_
      refine Lalloc rfl rfl rfl H Try.zeroValue178 (cs := List.replicate 8 (.int .u32 0)) rfl ?_; intro b10 w H
      (first | refine Lstore 0 rfl rfl rfl rfl (v := (.agg _)) rfl H rfl (vs := [_, _, _, _, _, _, _, _]) rfl Try.sizeOf178 rfl rfl ?_ | refine Lstore 1 rfl rfl rfl rfl (v := (.agg _)) rfl H rfl (vs := [_, _, _, _, _, _, _, _]) rfl Try.sizeOf178 rfl rfl ?_ | refine Lstore 2 rfl rfl rfl rfl (v := (.agg _)) rfl H rfl (vs := [_, _, _, _, _, _, _, _]) rfl Try.sizeOf178 rfl rfl ?_ | refine Lstore 3 rfl rfl rfl rfl (v := (.agg _)) rfl H rfl (vs := [_, _, _, _, _, _, _, _]) rfl Try.sizeOf178 rfl rfl ?_ | refine Lstore 4 rfl rfl rfl rfl (v := (.agg _)) rfl H rfl (vs := [_, _, _, _, _, _, _, _]) rfl Try.sizeOf178 rfl rfl ?_ | refine Lstore 5 rfl rfl rfl rfl (v := (.agg _)) rfl H rfl (vs := [_, _, _, _, _, _, _, _]) rfl Try.sizeOf178 rfl rfl ?_ | refine Lstore 6 rfl rfl rfl rfl (v := (.agg _)) rfl H rfl (vs := [_, _, _, _, _, _, _, _]) rfl Try.sizeOf178 rfl rfl ?_); intro w H
      refine e_list ?_; (repeat (first | (with_reducible first | refine e_then ?_ | refine e_block ?_ | refine e_then_ret ?_ | refine e_block_ret ?_ | refine e_then_exit ?_ | refine e_block_here ?_ | refine e_then_panic ?_ | refine e_block_panic ?_) | refine e_block_on rfl ?_))
      refine wp_seq ?_
      -- R14
      refine c_region ?_
      refine Lfn rfl rfl rfl (xa := []) rfl Try.call170 ?_   -- portage/digest.table
      refine digest_table_calls.mono ?_
      rintro e w' ⟨rfl, K⟩
      replace H := H.app0 K
      clear K
      refine ⟨_, rfl, ?_⟩
      refine Lalloc rfl rfl rfl H Try.zeroValue206 (cs := List.replicate 64 (.int .u32 0)) rfl ?_; intro b11 w H
      refine Lstore 0 rfl rfl rfl rfl (v := .agg (table.map wv).toArray) rfl H rfl (vs := table.map wv) rfl Try.sizeOf206 rfl rfl ?_; intro w H
      refine e_list ?_; (repeat (first | (with_reducible first | refine e_then ?_ | refine e_block ?_ | refine e_then_ret ?_ | refine e_block_ret ?_ | refine e_then_exit ?_ | refine e_block_here ?_ | refine e_then_panic ?_ | refine e_block_panic ?_) | refine e_block_on rfl ?_))
      refine wp_seq ?_
      refine wp_seq ?_
      -- R15
      refine c_region ?_
      refine L1 rfl rfl H (y_move (v := (.int .i64 _)) rfl rfl) ?_
      refine e_list ?_; (repeat (first | (with_reducible first | refine e_then ?_ | refine e_block ?_ | refine e_then_ret ?_ | refine e_block_ret ?_ | refine e_then_exit ?_ | refine e_block_here ?_ | refine e_then_panic ?_ | refine e_block_panic ?_) | refine e_block_on rfl ?_))
      refine wp_block ?_   -- block 4
      refine c_loop (ι := Nat) (fun i f w => (∃ gx, f = ov [(2, .pointer (some ⟨b2, 0, none⟩)), (4, .pointer (some ⟨b4, 0, none⟩)), (5, .pointer (some ⟨b5, 0, none⟩)), (10, .pointer (some ⟨b10, 0, none⟩)), (11, .pointer (some ⟨b11, 0, none⟩)), (104, .int .i64 (i : Nat))] gx) ∧ Heap w0 ([Ent.blk b11 206 (table.map wv), Ent.blk b10 178 ((rounds l s i).list.map wv), Ent.blk b5 206 (arrW l 64), Ent.blk b4 178 (List.replicate 8 (.int .u32 0)), Ent.blk b3 180 (l.map bv), Ent.blk b2 178 (s.list.map wv)]) w ∧ i ≤ 64) (fun i => 64 - i) 0 ?_ ?_
      · exact ⟨ov_ex _ ⟨rfl, rfl, rfl, rfl, rfl, rfl, trivial⟩, H, by omega⟩
      rintro i f w ⟨⟨gg, rfl⟩, H, hi⟩
      refine wp_seq ?_
      -- R16
      refine c_region ?_
      refine L1 rfl rfl H (y_lss rfl rfl rfl) ?_
      refine e_list ?_; (repeat (first | (with_reducible first | refine e_then ?_ | refine e_block ?_ | refine e_then_ret ?_ | refine e_block_ret ?_ | refine e_then_exit ?_ | refine e_block_here ?_ | refine e_then_panic ?_ | refine e_block_panic ?_) | refine e_block_on rfl ?_))
      refine wp_seq ?_
      refine c_if rfl (fun h2 => ?_) (fun h2 => ?_)   -- if 2
      · skip
        have hi64 : i < 64 := by omega
        refine wp_skip ?_; (repeat (first | (with_reducible first | refine e_then ?_ | refine e_block ?_ | refine e_then_ret ?_ | refine e_block_ret ?_ | refine e_then_exit ?_ | refine e_block_here ?_ | refine e_then_panic ?_ | refine e_block_panic ?_) | refine e_block_on rfl ?_))
        refine wp_seq ?_
        refine wp_block ?_   -- block 5
        refine wp_seq ?_
        -- R17
        refine c_region ?_
        refine L1 rfl rfl H (y_move (v := (.int .i64 _)) rfl rfl) ?_
        refine L1 rfl rfl H (y_assign (v := (.int .i64 _)) rfl rfl) ?_
        refine e_list ?_; (repeat (first | (with_reducible first | refine e_then ?_ | refine e_block ?_ | refine e_then_ret ?_ | refine e_block_ret ?_ | refine e_then_exit ?_ | refine e_block_here ?_ | refine e_then_panic ?_ | refine e_block_panic ?_) | refine e_block_on rfl ?_))
        -- R18 draws
        refine c_tail 8 H (by kernel_rfl) (by kernel_rfl) (fun w H => ?_)
        refine S1 rfl rfl H (y_loadAgg (vs := (rounds l s i).list.map wv) rfl rfl Try.isAgg178 Try.sizeOf178 (cells_blk (k := 1) (off := 0) rfl rfl)) ?_
        refine S1 rfl rfl H (y_move (v := (.int .i64 _)) rfl rfl) ?_
        refine S1 rfl rfl H (y_indexArr rfl rfl rfl Try.underlying206 Try.sizeOf163 (by omega) (by omega)) ?_
        refine S1 rfl rfl H (y_load (v := wv (table.getD i 0)) rfl rfl Try.isAgg163 (cell_blkI (k := 0) i rfl (by omega) (table_get (by omega)))) ?_
        refine S1 rfl rfl H (y_move (v := (.int .i64 _)) rfl rfl) ?_
        refine S1 rfl rfl H (y_indexArr rfl rfl rfl Try.underlying206 Try.sizeOf163 (by omega) (by omega)) ?_
        refine S1 rfl rfl H (y_load (v := wv ((words l 64).getD i 0)) rfl rfl Try.isAgg163 (cell_blkI (k := 2) i rfl (by omega) (arrW_get l (by omega)))) ?_
        refine S1 rfl rfl H (y_add rfl rfl rfl (Eng.u32_add _ _)) ?_
        refine Send ?_
        refine Lfn rfl rfl rfl (xa := [sv (rounds l s i), .int .u32 _]) rfl Try.call171 ?_   -- (portage/digest.state).round
        refine (round_calls _ _).mono ?_
        rintro e w' ⟨rfl, K⟩
        replace H := H.app0 K
        clear K
        refine ⟨_, rfl, ?_⟩
        (first | refine Lstore 0 rfl rfl rfl rfl (v := (.agg _)) rfl H rfl (vs := [_, _, _, _, _, _, _, _]) rfl Try.sizeOf178 rfl rfl ?_ | refine Lstore 1 rfl rfl rfl rfl (v := (.agg _)) rfl H rfl (vs := [_, _, _, _, _, _, _, _]) rfl Try.sizeOf178 rfl rfl ?_ | refine Lstore 2 rfl rfl rfl rfl (v := (.agg _)) rfl H rfl (vs := [_, _, _, _, _, _, _, _]) rfl Try.sizeOf178 rfl rfl ?_ | refine Lstore 3 rfl rfl rfl rfl (v := (.agg _)) rfl H rfl (vs := [_, _, _, _, _, _, _, _]) rfl Try.sizeOf178 rfl rfl ?_ | refine Lstore 4 rfl rfl rfl rfl (v := (.agg _)) rfl H rfl (vs := [_, _, _, _, _, _, _, _]) rfl Try.sizeOf178 rfl rfl ?_ | refine Lstore 5 rfl rfl rfl rfl (v := (.agg _)) rfl H rfl (vs := [_, _, _, _, _, _, _, _]) rfl Try.sizeOf178 rfl rfl ?_ | refine Lstore 6 rfl rfl rfl rfl (v := (.agg _)) rfl H rfl (vs := [_, _, _, _, _, _, _, _]) rfl Try.sizeOf178 rfl rfl ?_); intro w H
        refine e_list ?_; (repeat (first | (with_reducible first | refine e_then ?_ | refine e_block ?_ | refine e_then_ret ?_ | refine e_block_ret ?_ | refine e_then_exit ?_ | refine e_block_here ?_ | refine e_then_panic ?_ | refine e_block_panic ?_) | refine e_block_on rfl ?_))
        -- R19
        refine c_region ?_
        refine L1 rfl rfl H (y_add rfl rfl rfl (by first | exact wr_i64 (by omega) (by omega) | rfl)) ?_
        refine L1 rfl rfl H (y_move (v := (.int .i64 _)) rfl rfl) ?_
        refine e_list ?_; (repeat (first | (with_reducible first | refine e_then ?_ | refine e_block ?_ | refine e_then_ret ?_ | refine e_block_ret ?_ | refine e_then_exit ?_ | refine e_block_here ?_ | refine e_then_panic ?_ | refine e_block_panic ?_) | refine e_block_on rfl ?_))
        exact ⟨i + 1, _, rfl, ⟨ov_ex _ ⟨rfl, rfl, rfl, rfl, rfl, rfl, trivial⟩, H, by omega⟩, by omega⟩
      · skip
        have hi64 : i = 64 := by omega
        subst hi64
        refine wp_exit ?_; (repeat (first | (with_reducible first | refine e_then ?_ | refine e_block ?_ | refine e_then_ret ?_ | refine e_block_ret ?_ | refine e_then_exit ?_ | refine e_block_here ?_ | refine e_then_panic ?_ | refine e_block_panic ?_) | refine e_block_on rfl ?_))
        refine wp_seq ?_
        refine wp_seq ?_
        -- R20
        refine c_region ?_
        refine L1 rfl rfl H (y_move (v := (.int .i64 _)) rfl rfl) ?_
        refine e_list ?_; (repeat (first | (with_reducible first | refine e_then ?_ | refine e_block ?_ | refine e_then_ret ?_ | refine e_block_ret ?_ | refine e_then_exit ?_ | refine e_block_here ?_ | refine e_then_panic ?_ | refine e_block_panic ?_) | refine e_block_on rfl ?_))
        refine wp_block ?_   -- block 6
        refine c_loop (ι := Nat) (fun i f w => (∃ gx, f = ov [(2, .pointer (some ⟨b2, 0, none⟩)), (4, .pointer (some ⟨b4, 0, none⟩)), (10, .pointer (some ⟨b10, 0, none⟩)), (117, .int .i64 (i : Nat))] gx) ∧ Heap w0 ([Ent.blk b11 206 (table.map wv), Ent.blk b10 178 ((mixL (behind s l).list (rounds l s 64).list i).map wv), Ent.blk b5 206 (arrW l 64), Ent.blk b4 178 (List.replicate 8 (.int .u32 0)), Ent.blk b3 180 (l.map bv), Ent.blk b2 178 (s.list.map wv)]) w ∧ i ≤ 8) (fun i => 8 - i) 0 ?_ ?_
        · exact ⟨ov_ex _ ⟨rfl, rfl, rfl, rfl, trivial⟩, H, by omega⟩
        rintro i f w ⟨⟨gg, rfl⟩, H, hi⟩
        refine wp_seq ?_
        -- R21
        refine c_region ?_
        refine L1 rfl rfl H (y_lss rfl rfl rfl) ?_
        refine e_list ?_; (repeat (first | (with_reducible first | refine e_then ?_ | refine e_block ?_ | refine e_then_ret ?_ | refine e_block_ret ?_ | refine e_then_exit ?_ | refine e_block_here ?_ | refine e_then_panic ?_ | refine e_block_panic ?_) | refine e_block_on rfl ?_))
        refine wp_seq ?_
        refine c_if rfl (fun h3 => ?_) (fun h3 => ?_)   -- if 3
        · skip
          have hi8 : i < 8 := by omega
          refine wp_skip ?_; (repeat (first | (with_reducible first | refine e_then ?_ | refine e_block ?_ | refine e_then_ret ?_ | refine e_block_ret ?_ | refine e_then_exit ?_ | refine e_block_here ?_ | refine e_then_panic ?_ | refine e_block_panic ?_) | refine e_block_on rfl ?_))
          refine wp_seq ?_
          refine wp_block ?_   -- block 7
          refine wp_seq ?_
          -- R22
          refine c_region ?_
          refine L1 rfl rfl H (y_move (v := (.int .i64 _)) rfl rfl) ?_
          refine L1 rfl rfl H (y_assign (v := (.int .i64 _)) rfl rfl) ?_
          refine e_list ?_; (repeat (first | (with_reducible first | refine e_then ?_ | refine e_block ?_ | refine e_then_ret ?_ | refine e_block_ret ?_ | refine e_then_exit ?_ | refine e_block_here ?_ | refine e_then_panic ?_ | refine e_block_panic ?_) | refine e_block_on rfl ?_))
          -- R23 draws
          refine c_tail 8 H (by kernel_rfl) (by kernel_rfl) (fun w H => ?_)
          refine S1 rfl rfl H (y_move (v := (.int .i64 _)) rfl rfl) ?_
          refine S1 rfl rfl H (y_indexArr rfl rfl rfl Try.underlying178 Try.sizeOf163 (by omega) (by omega)) ?_
          refine S1 rfl rfl H (y_load (v := wv ((rounds l s 64).list.getD i 0)) rfl rfl Try.isAgg163 (cell_blkI (k := 1) i rfl (by omega) (mixL_get rfl rfl hi8))) ?_
          refine S1 rfl rfl H (y_move (v := (.int .i64 _)) rfl rfl) ?_
          refine S1 rfl rfl H (y_indexArr rfl rfl rfl Try.underlying178 Try.sizeOf163 (by omega) (by omega)) ?_
          refine S1 rfl rfl H (y_load (v := wv (s.list.getD i 0)) rfl rfl Try.isAgg163 (cell_blkI (k := 5) i rfl (by omega) (list_get _ hi8))) ?_
          refine S1 rfl rfl H (y_add rfl rfl rfl (Eng.u32_add _ _)) ?_
          refine S1 rfl rfl H (y_indexArr rfl rfl rfl Try.underlying178 Try.sizeOf163 (by omega) (by omega)) ?_
          refine Send ?_
          refine Lset 1 i rfl rfl rfl rfl (v := wv ((rounds l s 64).list.getD i 0 + s.list.getD i 0)) rfl H rfl rfl Try.sizeOf163 rfl (by omega) (by rw [List.length_map, mixL_length rfl rfl (by omega)]; omega) ?_; intro w H
          replace H : Heap w0 [Ent.blk b11 206 (table.map wv), Ent.blk b10 178 ((mixL (behind s l).list (rounds l s 64).list (i + 1)).map wv), Ent.blk b5 206 (arrW l 64), Ent.blk b4 178 (List.replicate 8 (.int .u32 0)), Ent.blk b3 180 (l.map bv), Ent.blk b2 178 (s.list.map wv)] w := by
            have e : (rounds l s 64).list.getD i 0 + s.list.getD i 0 = (behind s l).list.getD i 0 := by rw [behind, add8_getD _ _ hi8]
            rw [e] at H
            rw [← mixL_set rfl rfl hi8]
            exact H
          refine e_list ?_; (repeat (first | (with_reducible first | refine e_then ?_ | refine e_block ?_ | refine e_then_ret ?_ | refine e_block_ret ?_ | refine e_then_exit ?_ | refine e_block_here ?_ | refine e_then_panic ?_ | refine e_block_panic ?_) | refine e_block_on rfl ?_))
          -- R24
          refine c_region ?_
          refine L1 rfl rfl H (y_add rfl rfl rfl (by first | exact wr_i64 (by omega) (by omega) | rfl)) ?_
          refine L1 rfl rfl H (y_move (v := (.int .i64 _)) rfl rfl) ?_
          refine e_list ?_; (repeat (first | (with_reducible first | refine e_then ?_ | refine e_block ?_ | refine e_then_ret ?_ | refine e_block_ret ?_ | refine e_then_exit ?_ | refine e_block_here ?_ | refine e_then_panic ?_ | refine e_block_panic ?_) | refine e_block_on rfl ?_))
          exact ⟨i + 1, _, rfl, ⟨ov_ex _ ⟨rfl, rfl, rfl, rfl, trivial⟩, H, by omega⟩, by omega⟩
        · skip
          have hi8 : i = 8 := by omega
          subst hi8
          refine wp_exit ?_; (repeat (first | (with_reducible first | refine e_then ?_ | refine e_block ?_ | refine e_then_ret ?_ | refine e_block_ret ?_ | refine e_then_exit ?_ | refine e_block_here ?_ | refine e_then_panic ?_ | refine e_block_panic ?_) | refine e_block_on rfl ?_))
          refine wp_seq ?_
          -- R25
          refine c_region ?_
          refine L1 rfl rfl H (y_loadAgg (vs := (behind s l).list.map wv) rfl rfl Try.isAgg178 Try.sizeOf178 (cells_blk (k := 1) (off := 0) rfl rfl)) ?_
          (first | refine Lstore 0 rfl rfl rfl rfl (v := (.agg _)) rfl H rfl (vs := [_, _, _, _, _, _, _, _]) rfl Try.sizeOf178 rfl rfl ?_ | refine Lstore 1 rfl rfl rfl rfl (v := (.agg _)) rfl H rfl (vs := [_, _, _, _, _, _, _, _]) rfl Try.sizeOf178 rfl rfl ?_ | refine Lstore 2 rfl rfl rfl rfl (v := (.agg _)) rfl H rfl (vs := [_, _, _, _, _, _, _, _]) rfl Try.sizeOf178 rfl rfl ?_ | refine Lstore 3 rfl rfl rfl rfl (v := (.agg _)) rfl H rfl (vs := [_, _, _, _, _, _, _, _]) rfl Try.sizeOf178 rfl rfl ?_ | refine Lstore 4 rfl rfl rfl rfl (v := (.agg _)) rfl H rfl (vs := [_, _, _, _, _, _, _, _]) rfl Try.sizeOf178 rfl rfl ?_ | refine Lstore 5 rfl rfl rfl rfl (v := (.agg _)) rfl H rfl (vs := [_, _, _, _, _, _, _, _]) rfl Try.sizeOf178 rfl rfl ?_ | refine Lstore 6 rfl rfl rfl rfl (v := (.agg _)) rfl H rfl (vs := [_, _, _, _, _, _, _, _]) rfl Try.sizeOf178 rfl rfl ?_); intro w H
          refine e_list ?_; (repeat (first | (with_reducible first | refine e_then ?_ | refine e_block ?_ | refine e_then_ret ?_ | refine e_block_ret ?_ | refine e_then_exit ?_ | refine e_block_here ?_ | refine e_then_panic ?_ | refine e_block_panic ?_) | refine e_block_on rfl ?_))
          refine wp_ret ?_; (repeat (first | (with_reducible first | refine e_then ?_ | refine e_block ?_ | refine e_then_ret ?_ | refine e_block_ret ?_ | refine e_then_exit ?_ | refine e_block_here ?_ | refine e_then_panic ?_ | refine e_block_panic ?_) | refine e_block_on rfl ?_))
          refine r_c rfl rfl (run_loadAgg (vs := (behind s l).list.map wv) Try.isAgg178 Try.sizeOf178 (fun j u hu => cells_blk (k := 3) (off := 0) rfl rfl w H j u hu)) ?_
          exact ⟨rfl, H.clear⟩
-- »behind
end
end Go.Dig
