/-
  SHA-256 in the program and in the reference: rounds, words, blocks.
-/
import Derived.Test.YtjfifehofflaeaaSpec1
import Derived.Test.YtjfifehofflaeaaProg
import Derived.KernelRfl
namespace Go.Dig
open Go.RowKit Go.Eng Go.Proofs
set_option linter.unusedSimpArgs false
set_option linter.unusedVariables false
attribute [local irreducible] wpList wpQuiet wpStill wpMix

def sv (s : S8) : Value := .agg #[wv s.a, wv s.b, wv s.c, wv s.d, wv s.e, wv s.f, wv s.g, wv s.h]
section
variable {w0 w : World} {R : List Ent}
-- «digest_rotr»
theorem digest_rotr_calls (x : UInt32) (n : Nat) (h0 : 0 < n) (h1 : n < 32) : Calls Try.prog 169 #[wv x, .int .u64 n] w fun e w' => e = .returned (wv (rotr x (UInt32.ofNat n))) ∧ Heap w [] w' := by
  refine c_enter (xa := [(.int .u32 (x.toNat : Int)), (.int .u64 (n : Nat))]) 13 Try.func169 rfl rfl rfl ?_
  have H := Heap.init w
  refine wp_seq ?_
  -- R0
  refine c_region ?_
  refine L1 rfl rfl H (y_assign (v := (.int .u32 _)) rfl rfl) ?_
  refine e_list ?_; (repeat (first | (with_reducible first | refine e_then ?_ | refine e_block ?_ | refine e_then_ret ?_ | refine e_block_ret ?_ | refine e_then_exit ?_ | refine e_block_here ?_ | refine e_then_panic ?_ | refine e_block_panic ?_) | refine e_block_on rfl ?_))
  refine wp_seq ?_
  -- R1
  refine c_region ?_
  refine L1 rfl rfl H (y_move (v := (.int .u32 _)) rfl rfl) ?_
  refine L1 rfl rfl H (y_move (v := (.int .u64 _)) rfl rfl) ?_
  refine L1 rfl rfl H (y_shr rfl rfl rfl (by omega) (u32_shr x (by omega))) ?_
  refine L1 rfl rfl H (y_move (v := (.int .u32 _)) rfl rfl) ?_
  refine L1 rfl rfl H (y_move (v := (.int .u64 _)) rfl rfl) ?_
  refine L1 rfl rfl H (y_sub (r := ((32 - n : Nat) : Int)) rfl rfl rfl (by rw [wr_u64 (by omega) (by omega)]; omega)) ?_
  refine L1 rfl rfl H (y_shl rfl rfl rfl (by omega) (u32_shl x (by omega))) ?_
  refine L1 rfl rfl H (y_or rfl rfl rfl (Eng.u32_or _ _)) ?_
  refine L1 rfl rfl H (y_assign (v := (.int .u32 _)) rfl rfl) ?_
  refine e_list ?_; (repeat (first | (with_reducible first | refine e_then ?_ | refine e_block ?_ | refine e_then_ret ?_ | refine e_block_ret ?_ | refine e_then_exit ?_ | refine e_block_here ?_ | refine e_then_panic ?_ | refine e_block_panic ?_) | refine e_block_on rfl ?_))
  refine wp_ret ?_; (repeat (first | (with_reducible first | refine e_then ?_ | refine e_block ?_ | refine e_then_ret ?_ | refine e_block_ret ?_ | refine e_then_exit ?_ | refine e_block_here ?_ | refine e_then_panic ?_ | refine e_block_panic ?_) | refine e_block_on rfl ?_))
  refine r_1 (v := (.int .u32 _)) rfl rfl ?_
  refine ⟨?_, H⟩
  have e : UInt32.ofNat (32 - n) = 32 - UInt32.ofNat n := by
    apply UInt32.toNat_inj.1
    have h32 : (32 : UInt32).toNat = 32 := by decide
    have hn : (UInt32.ofNat n).toNat = n := by simp; omega
    rw [UInt32.toNat_sub_of_le _ _ (by rw [UInt32.le_iff_toNat_le, hn, h32]; omega), hn, h32]
    simp; omega
  rw [rotr, ← e]
  rfl
-- »digest_rotr
-- «portageref02_rotr»
theorem portageref02_rotr_calls (x : UInt32) (n : Nat) (h0 : 0 < n) (h1 : n < 32) : Calls Try.prog 144 #[wv x, .int .u64 n] w fun e w' => e = .returned (wv (rotr x (UInt32.ofNat n))) ∧ Heap w [] w' := by
  refine c_enter (xa := [(.int .u32 (x.toNat : Int)), (.int .u64 (n : Nat))]) 13 Try.func144 rfl rfl rfl ?_
  have H := Heap.init w
  refine wp_seq ?_
  -- R0
  refine c_region ?_
  refine L1 rfl rfl H (y_assign (v := (.int .u32 _)) rfl rfl) ?_
  refine e_list ?_; (repeat (first | (with_reducible first | refine e_then ?_ | refine e_block ?_ | refine e_then_ret ?_ | refine e_block_ret ?_ | refine e_then_exit ?_ | refine e_block_here ?_ | refine e_then_panic ?_ | refine e_block_panic ?_) | refine e_block_on rfl ?_))
  refine wp_seq ?_
  -- R1
  refine c_region ?_
  refine L1 rfl rfl H (y_move (v := (.int .u32 _)) rfl rfl) ?_
  refine L1 rfl rfl H (y_move (v := (.int .u64 _)) rfl rfl) ?_
  refine L1 rfl rfl H (y_shr rfl rfl rfl (by omega) (u32_shr x (by omega))) ?_
  refine L1 rfl rfl H (y_move (v := (.int .u32 _)) rfl rfl) ?_
  refine L1 rfl rfl H (y_move (v := (.int .u64 _)) rfl rfl) ?_
  refine L1 rfl rfl H (y_sub (r := ((32 - n : Nat) : Int)) rfl rfl rfl (by rw [wr_u64 (by omega) (by omega)]; omega)) ?_
  refine L1 rfl rfl H (y_shl rfl rfl rfl (by omega) (u32_shl x (by omega))) ?_
  refine L1 rfl rfl H (y_or rfl rfl rfl (Eng.u32_or _ _)) ?_
  refine L1 rfl rfl H (y_assign (v := (.int .u32 _)) rfl rfl) ?_
  refine e_list ?_; (repeat (first | (with_reducible first | refine e_then ?_ | refine e_block ?_ | refine e_then_ret ?_ | refine e_block_ret ?_ | refine e_then_exit ?_ | refine e_block_here ?_ | refine e_then_panic ?_ | refine e_block_panic ?_) | refine e_block_on rfl ?_))
  refine wp_ret ?_; (repeat (first | (with_reducible first | refine e_then ?_ | refine e_block ?_ | refine e_then_ret ?_ | refine e_block_ret ?_ | refine e_then_exit ?_ | refine e_block_here ?_ | refine e_then_panic ?_ | refine e_block_panic ?_) | refine e_block_on rfl ?_))
  refine r_1 (v := (.int .u32 _)) rfl rfl ?_
  refine ⟨?_, H⟩
  have e : UInt32.ofNat (32 - n) = 32 - UInt32.ofNat n := by
    apply UInt32.toNat_inj.1
    have h32 : (32 : UInt32).toNat = 32 := by decide
    have hn : (UInt32.ofNat n).toNat = n := by simp; omega
    rw [UInt32.toNat_sub_of_le _ _ (by rw [UInt32.le_iff_toNat_le, hn, h32]; omega), hn, h32]
    simp; omega
  rw [rotr, ← e]
  rfl
-- »portageref02_rotr
-- «builddigest_state»
theorem build_digest_state (a b c d e f g h : Int) : ∀ w, (Instr.build 178 #[(0, .int .u32 a), (1, .int .u32 b), (2, .int .u32 c), (3, .int .u32 d), (4, .int .u32 e), (5, .int .u32 f), (6, .int .u32 g), (7, .int .u32 h)]).run Try.prog w =
    .ok (.agg #[.int .u32 a, .int .u32 b, .int .u32 c, .int .u32 d, .int .u32 e, .int .u32 f, .int .u32 g, .int .u32 h]) w := by
  intro w; simp [Instr.build, Instr.fill, go_sem]
-- »builddigest_state
-- «buildA8_uint32»
theorem build_A8_uint32 (a b c d e f g h : Int) : ∀ w, (Instr.build 164 #[(0, .int .u32 a), (1, .int .u32 b), (2, .int .u32 c), (3, .int .u32 d), (4, .int .u32 e), (5, .int .u32 f), (6, .int .u32 g), (7, .int .u32 h)]).run Try.prog w =
    .ok (.agg #[.int .u32 a, .int .u32 b, .int .u32 c, .int .u32 d, .int .u32 e, .int .u32 f, .int .u32 g, .int .u32 h]) w := by
  intro w; simp [Instr.build, Instr.fill, go_sem]
-- »buildA8_uint32
-- «round»
theorem round_calls (s : S8) (kw : UInt32) : Calls Try.prog 171 #[sv s, wv kw] w fun e w' => e = .returned (sv (round s kw)) ∧ Heap w [] w' := by
  refine c_enter (xa := [(sv s), (wv kw)]) 85 Try.func171 rfl rfl rfl ?_
  have H := Heap.init w
  refine wp_seq ?_
  -- R0
  refine c_region ?_
  refine Lbox rfl rfl rfl (z := (.agg _)) rfl H (cs := [_, _, _, _, _, _, _, _]) rfl ?_; intro b2 w H
  refine Lalloc rfl rfl rfl H Try.zeroValue178 (cs := [_, _, _, _, _, _, _, _]) rfl ?_; intro b4 w H
  refine e_list ?_; (repeat (first | (with_reducible first | refine e_then ?_ | refine e_block ?_ | refine e_then_ret ?_ | refine e_block_ret ?_ | refine e_then_exit ?_ | refine e_block_here ?_ | refine e_then_panic ?_ | refine e_block_panic ?_) | refine e_block_on rfl ?_))
  refine wp_seq ?_
  -- R1 draws
  refine c_draw H (by kernel_rfl) (by kernel_rfl) ?_
  refine Q1 rfl rfl (y_indexArr rfl rfl rfl Try.underlying178 Try.sizeOf163 (by omega) (by omega)) ?_
  refine Q1 rfl rfl (y_load (v := (.int .u32 _)) rfl rfl Try.isAgg163 (by first | exact cell_blk (k := 0) rfl rfl | exact cell_blk (k := 1) rfl rfl | exact cell_blk (k := 2) rfl rfl | exact cell_blk (k := 3) rfl rfl | exact cell_blk (k := 4) rfl rfl | exact cell_blk (k := 5) rfl rfl | exact cell_blk (k := 6) rfl rfl | exact cell_blk (k := 7) rfl rfl)) ?_
  refine Q1 rfl rfl (y_indexArr rfl rfl rfl Try.underlying178 Try.sizeOf163 (by omega) (by omega)) ?_
  refine Q1 rfl rfl (y_load (v := (.int .u32 _)) rfl rfl Try.isAgg163 (by first | exact cell_blk (k := 0) rfl rfl | exact cell_blk (k := 1) rfl rfl | exact cell_blk (k := 2) rfl rfl | exact cell_blk (k := 3) rfl rfl | exact cell_blk (k := 4) rfl rfl | exact cell_blk (k := 5) rfl rfl | exact cell_blk (k := 6) rfl rfl | exact cell_blk (k := 7) rfl rfl)) ?_
  refine Q1 rfl rfl (y_indexArr rfl rfl rfl Try.underlying178 Try.sizeOf163 (by omega) (by omega)) ?_
  refine Q1 rfl rfl (y_load (v := (.int .u32 _)) rfl rfl Try.isAgg163 (by first | exact cell_blk (k := 0) rfl rfl | exact cell_blk (k := 1) rfl rfl | exact cell_blk (k := 2) rfl rfl | exact cell_blk (k := 3) rfl rfl | exact cell_blk (k := 4) rfl rfl | exact cell_blk (k := 5) rfl rfl | exact cell_blk (k := 6) rfl rfl | exact cell_blk (k := 7) rfl rfl)) ?_
  refine Q1 rfl rfl (y_indexArr rfl rfl rfl Try.underlying178 Try.sizeOf163 (by omega) (by omega)) ?_
  refine Q1 rfl rfl (y_load (v := (.int .u32 _)) rfl rfl Try.isAgg163 (by first | exact cell_blk (k := 0) rfl rfl | exact cell_blk (k := 1) rfl rfl | exact cell_blk (k := 2) rfl rfl | exact cell_blk (k := 3) rfl rfl | exact cell_blk (k := 4) rfl rfl | exact cell_blk (k := 5) rfl rfl | exact cell_blk (k := 6) rfl rfl | exact cell_blk (k := 7) rfl rfl)) ?_
  refine Q1 rfl rfl (y_indexArr rfl rfl rfl Try.underlying178 Try.sizeOf163 (by omega) (by omega)) ?_
  refine Q1 rfl rfl (y_load (v := (.int .u32 _)) rfl rfl Try.isAgg163 (by first | exact cell_blk (k := 0) rfl rfl | exact cell_blk (k := 1) rfl rfl | exact cell_blk (k := 2) rfl rfl | exact cell_blk (k := 3) rfl rfl | exact cell_blk (k := 4) rfl rfl | exact cell_blk (k := 5) rfl rfl | exact cell_blk (k := 6) rfl rfl | exact cell_blk (k := 7) rfl rfl)) ?_
  refine Q1 rfl rfl (y_indexArr rfl rfl rfl Try.underlying178 Try.sizeOf163 (by omega) (by omega)) ?_
  refine Q1 rfl rfl (y_load (v := (.int .u32 _)) rfl rfl Try.isAgg163 (by first | exact cell_blk (k := 0) rfl rfl | exact cell_blk (k := 1) rfl rfl | exact cell_blk (k := 2) rfl rfl | exact cell_blk (k := 3) rfl rfl | exact cell_blk (k := 4) rfl rfl | exact cell_blk (k := 5) rfl rfl | exact cell_blk (k := 6) rfl rfl | exact cell_blk (k := 7) rfl rfl)) ?_
  refine Q1 rfl rfl (y_indexArr rfl rfl rfl Try.underlying178 Try.sizeOf163 (by omega) (by omega)) ?_
  refine Q1 rfl rfl (y_load (v := (.int .u32 _)) rfl rfl Try.isAgg163 (by first | exact cell_blk (k := 0) rfl rfl | exact cell_blk (k := 1) rfl rfl | exact cell_blk (k := 2) rfl rfl | exact cell_blk (k := 3) rfl rfl | exact cell_blk (k := 4) rfl rfl | exact cell_blk (k := 5) rfl rfl | exact cell_blk (k := 6) rfl rfl | exact cell_blk (k := 7) rfl rfl)) ?_
  refine Q1 rfl rfl (y_indexArr rfl rfl rfl Try.underlying178 Try.sizeOf163 (by omega) (by omega)) ?_
  refine Q1 rfl rfl (y_load (v := (.int .u32 _)) rfl rfl Try.isAgg163 (by first | exact cell_blk (k := 0) rfl rfl | exact cell_blk (k := 1) rfl rfl | exact cell_blk (k := 2) rfl rfl | exact cell_blk (k := 3) rfl rfl | exact cell_blk (k := 4) rfl rfl | exact cell_blk (k := 5) rfl rfl | exact cell_blk (k := 6) rfl rfl | exact cell_blk (k := 7) rfl rfl)) ?_
  refine Q1 rfl rfl (y_assign (v := (.int .u32 _)) rfl rfl) ?_
  refine Q1 rfl rfl (y_assign (v := (.int .u32 _)) rfl rfl) ?_
  refine Q1 rfl rfl (y_assign (v := (.int .u32 _)) rfl rfl) ?_
  refine Q1 rfl rfl (y_assign (v := (.int .u32 _)) rfl rfl) ?_
  refine Q1 rfl rfl (y_assign (v := (.int .u32 _)) rfl rfl) ?_
  refine Q1 rfl rfl (y_assign (v := (.int .u32 _)) rfl rfl) ?_
  refine Q1 rfl rfl (y_assign (v := (.int .u32 _)) rfl rfl) ?_
  refine Q1 rfl rfl (y_assign (v := (.int .u32 _)) rfl rfl) ?_
  refine Qend ?_; intro w H; (repeat (first | (with_reducible first | refine e_then ?_ | refine e_block ?_ | refine e_then_ret ?_ | refine e_block_ret ?_ | refine e_then_exit ?_ | refine e_block_here ?_ | refine e_then_panic ?_ | refine e_block_panic ?_) | refine e_block_on rfl ?_))
  refine wp_seq ?_
  -- R2
  refine c_region ?_
  refine L1 rfl rfl H (y_move (v := (.int .u32 _)) rfl rfl) ?_
  refine L1 rfl rfl H (y_move (v := (.int .u32 _)) rfl rfl) ?_
  refine Lfn rfl rfl rfl (xa := [(.int .u32 _), (.int .u64 _)]) rfl Try.call169 ?_   -- portage/digest.rotr
  refine (digest_rotr_calls _ 6 (by omega) (by omega)).mono ?_
  rintro e w ⟨rfl, K⟩
  replace H := H.app0 K
  clear K
  refine ⟨_, rfl, ?_⟩
  refine L1 rfl rfl H (y_move (v := (.int .u32 _)) rfl rfl) ?_
  refine Lfn rfl rfl rfl (xa := [(.int .u32 _), (.int .u64 _)]) rfl Try.call169 ?_   -- portage/digest.rotr
  refine (digest_rotr_calls _ 11 (by omega) (by omega)).mono ?_
  rintro e w ⟨rfl, K⟩
  replace H := H.app0 K
  clear K
  refine ⟨_, rfl, ?_⟩
  refine L1 rfl rfl H (y_xor rfl rfl rfl (Eng.u32_xor _ _)) ?_
  refine L1 rfl rfl H (y_move (v := (.int .u32 _)) rfl rfl) ?_
  refine Lfn rfl rfl rfl (xa := [(.int .u32 _), (.int .u64 _)]) rfl Try.call169 ?_   -- portage/digest.rotr
  refine (digest_rotr_calls _ 25 (by omega) (by omega)).mono ?_
  rintro e w ⟨rfl, K⟩
  replace H := H.app0 K
  clear K
  refine ⟨_, rfl, ?_⟩
  refine L1 rfl rfl H (y_xor rfl rfl rfl (Eng.u32_xor _ _)) ?_
  refine L1 rfl rfl H (y_add rfl rfl rfl (Eng.u32_add _ _)) ?_
  refine L1 rfl rfl H (y_move (v := (.int .u32 _)) rfl rfl) ?_
  refine L1 rfl rfl H (y_move (v := (.int .u32 _)) rfl rfl) ?_
  refine L1 rfl rfl H (y_and rfl rfl rfl (Eng.u32_and _ _)) ?_
  refine L1 rfl rfl H (y_move (v := (.int .u32 _)) rfl rfl) ?_
  refine L1 rfl rfl H (y_com rfl rfl (Eng.u32_not _)) ?_
  refine L1 rfl rfl H (y_move (v := (.int .u32 _)) rfl rfl) ?_
  refine L1 rfl rfl H (y_and rfl rfl rfl (Eng.u32_and _ _)) ?_
  refine L1 rfl rfl H (y_xor rfl rfl rfl (Eng.u32_xor _ _)) ?_
  refine L1 rfl rfl H (y_add rfl rfl rfl (Eng.u32_add _ _)) ?_
  refine L1 rfl rfl H (y_move (v := (.int .u32 _)) rfl rfl) ?_
  refine L1 rfl rfl H (y_add rfl rfl rfl (Eng.u32_add _ _)) ?_
  refine L1 rfl rfl H (y_assign (v := (.int .u32 _)) rfl rfl) ?_
  refine e_list ?_; (repeat (first | (with_reducible first | refine e_then ?_ | refine e_block ?_ | refine e_then_ret ?_ | refine e_block_ret ?_ | refine e_then_exit ?_ | refine e_block_here ?_ | refine e_then_panic ?_ | refine e_block_panic ?_) | refine e_block_on rfl ?_))
  refine wp_seq ?_
  -- R3
  refine c_region ?_
  refine L1 rfl rfl H (y_move (v := (.int .u32 _)) rfl rfl) ?_
  refine Lfn rfl rfl rfl (xa := [(.int .u32 _), (.int .u64 _)]) rfl Try.call169 ?_   -- portage/digest.rotr
  refine (digest_rotr_calls _ 2 (by omega) (by omega)).mono ?_
  rintro e w ⟨rfl, K⟩
  replace H := H.app0 K
  clear K
  refine ⟨_, rfl, ?_⟩
  refine L1 rfl rfl H (y_move (v := (.int .u32 _)) rfl rfl) ?_
  refine Lfn rfl rfl rfl (xa := [(.int .u32 _), (.int .u64 _)]) rfl Try.call169 ?_   -- portage/digest.rotr
  refine (digest_rotr_calls _ 13 (by omega) (by omega)).mono ?_
  rintro e w ⟨rfl, K⟩
  replace H := H.app0 K
  clear K
  refine ⟨_, rfl, ?_⟩
  refine L1 rfl rfl H (y_xor rfl rfl rfl (Eng.u32_xor _ _)) ?_
  refine L1 rfl rfl H (y_move (v := (.int .u32 _)) rfl rfl) ?_
  refine Lfn rfl rfl rfl (xa := [(.int .u32 _), (.int .u64 _)]) rfl Try.call169 ?_   -- portage/digest.rotr
  refine (digest_rotr_calls _ 22 (by omega) (by omega)).mono ?_
  rintro e w ⟨rfl, K⟩
  replace H := H.app0 K
  clear K
  refine ⟨_, rfl, ?_⟩
  refine L1 rfl rfl H (y_xor rfl rfl rfl (Eng.u32_xor _ _)) ?_
  refine L1 rfl rfl H (y_move (v := (.int .u32 _)) rfl rfl) ?_
  refine L1 rfl rfl H (y_move (v := (.int .u32 _)) rfl rfl) ?_
  refine L1 rfl rfl H (y_and rfl rfl rfl (Eng.u32_and _ _)) ?_
  refine L1 rfl rfl H (y_move (v := (.int .u32 _)) rfl rfl) ?_
  refine L1 rfl rfl H (y_move (v := (.int .u32 _)) rfl rfl) ?_
  refine L1 rfl rfl H (y_and rfl rfl rfl (Eng.u32_and _ _)) ?_
  refine L1 rfl rfl H (y_xor rfl rfl rfl (Eng.u32_xor _ _)) ?_
  refine L1 rfl rfl H (y_move (v := (.int .u32 _)) rfl rfl) ?_
  refine L1 rfl rfl H (y_move (v := (.int .u32 _)) rfl rfl) ?_
  refine L1 rfl rfl H (y_and rfl rfl rfl (Eng.u32_and _ _)) ?_
  refine L1 rfl rfl H (y_xor rfl rfl rfl (Eng.u32_xor _ _)) ?_
  refine L1 rfl rfl H (y_add rfl rfl rfl (Eng.u32_add _ _)) ?_
  refine L1 rfl rfl H (y_assign (v := (.int .u32 _)) rfl rfl) ?_
  refine e_list ?_; (repeat (first | (with_reducible first | refine e_then ?_ | refine e_block ?_ | refine e_then_ret ?_ | refine e_block_ret ?_ | refine e_then_exit ?_ | refine e_block_here ?_ | refine e_then_panic ?_ | refine e_block_panic ?_) | refine e_block_on rfl ?_))
  refine wp_seq ?_
  -- R4
  refine c_region ?_
  refine L1 rfl rfl H (y_move (v := (.int .u32 _)) rfl rfl) ?_
  refine L1 rfl rfl H (y_move (v := (.int .u32 _)) rfl rfl) ?_
  refine L1 rfl rfl H (y_add rfl rfl rfl (Eng.u32_add _ _)) ?_
  refine L1 rfl rfl H (y_move (v := (.int .u32 _)) rfl rfl) ?_
  refine L1 rfl rfl H (y_move (v := (.int .u32 _)) rfl rfl) ?_
  refine L1 rfl rfl H (y_move (v := (.int .u32 _)) rfl rfl) ?_
  refine L1 rfl rfl H (y_move (v := (.int .u32 _)) rfl rfl) ?_
  refine L1 rfl rfl H (y_move (v := (.int .u32 _)) rfl rfl) ?_
  refine L1 rfl rfl H (y_add rfl rfl rfl (Eng.u32_add _ _)) ?_
  refine L1 rfl rfl H (y_move (v := (.int .u32 _)) rfl rfl) ?_
  refine L1 rfl rfl H (y_move (v := (.int .u32 _)) rfl rfl) ?_
  refine L1 rfl rfl H (y_move (v := (.int .u32 _)) rfl rfl) ?_
  refine L1 rfl rfl H (y_build (v := (.agg _)) rfl (vals := [(_, (.int .u32 _)), (_, (.int .u32 _)), (_, (.int .u32 _)), (_, (.int .u32 _)), (_, (.int .u32 _)), (_, (.int .u32 _)), (_, (.int .u32 _)), (_, (.int .u32 _))]) rfl (build_digest_state _ _ _ _ _ _ _ _)) ?_
  (first | refine Lstore 0 rfl rfl rfl rfl (v := (.agg _)) rfl H rfl (vs := [_, _, _, _, _, _, _, _]) rfl Try.sizeOf178 rfl rfl ?_ | refine Lstore 1 rfl rfl rfl rfl (v := (.agg _)) rfl H rfl (vs := [_, _, _, _, _, _, _, _]) rfl Try.sizeOf178 rfl rfl ?_ | refine Lstore 2 rfl rfl rfl rfl (v := (.agg _)) rfl H rfl (vs := [_, _, _, _, _, _, _, _]) rfl Try.sizeOf178 rfl rfl ?_ | refine Lstore 3 rfl rfl rfl rfl (v := (.agg _)) rfl H rfl (vs := [_, _, _, _, _, _, _, _]) rfl Try.sizeOf178 rfl rfl ?_ | refine Lstore 4 rfl rfl rfl rfl (v := (.agg _)) rfl H rfl (vs := [_, _, _, _, _, _, _, _]) rfl Try.sizeOf178 rfl rfl ?_ | refine Lstore 5 rfl rfl rfl rfl (v := (.agg _)) rfl H rfl (vs := [_, _, _, _, _, _, _, _]) rfl Try.sizeOf178 rfl rfl ?_ | refine Lstore 6 rfl rfl rfl rfl (v := (.agg _)) rfl H rfl (vs := [_, _, _, _, _, _, _, _]) rfl Try.sizeOf178 rfl rfl ?_); intro w H
  refine e_list ?_; (repeat (first | (with_reducible first | refine e_then ?_ | refine e_block ?_ | refine e_then_ret ?_ | refine e_block_ret ?_ | refine e_then_exit ?_ | refine e_block_here ?_ | refine e_then_panic ?_ | refine e_block_panic ?_) | refine e_block_on rfl ?_))
  refine wp_ret ?_; (repeat (first | (with_reducible first | refine e_then ?_ | refine e_block ?_ | refine e_then_ret ?_ | refine e_block_ret ?_ | refine e_then_exit ?_ | refine e_block_here ?_ | refine e_then_panic ?_ | refine e_block_panic ?_) | refine e_block_on rfl ?_))
  refine r_c rfl rfl (run_loadAgg (vs := [_, _, _, _, _, _, _, _]) Try.isAgg178 Try.sizeOf178 (fun j u hu => cells_blk (k := 0) (off := 0) rfl rfl w H j u hu)) ?_
  exact ⟨rfl, H.clear⟩
-- »round
end
end Go.Dig
