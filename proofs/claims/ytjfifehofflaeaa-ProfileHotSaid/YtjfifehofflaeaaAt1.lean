/-
  A profile's spot: the program's and the document's.
-/
import Derived.Test.YtjfifehofflaeaaPf1
import Derived.Test.YtjfifehofflaeaaChecked
namespace Go.Pf
open Go.RowKit Go.Eng Go.Proofs
set_option linter.unusedSimpArgs false
set_option linter.unusedVariables false
attribute [local irreducible] wpList wpQuiet wpStill wpMix wpMixE

section
variable {w0 w : World} {R : List Ent} {A : Option Addr} {fs : Fs} {B : Nat → Option Addr} {cc : Nat → Nat} {cap : Nat}
-- «refAt»
theorem refAt_calls {fn pc : Nat} (hP : PfRd w0 A fs B cc) (hb : fn ≤ 4611686018427387904) (hpc : pc ≤ 4611686018427387904) :
    Calls Try.prog 67 #[.agg #[.slice A fs.length cap], .int .i64 (fn : Nat), .int .i64 (pc : Nat)] w0 fun e w' => e = .returned (.agg (spV (spotN fs fn pc)).toArray) ∧ Heap w0 [] w' := by
  refine c_enter (xa := [.agg #[.slice A fs.length cap], .int .i64 (fn : Nat), .int .i64 (pc : Nat)]) 39 Try.func67 rfl rfl rfl ?_
  have H := Heap.init w0
  refine wp_seq ?_
  -- R0
  refine c_region ?_
  refine Lbox rfl rfl rfl (z := .agg #[.slice A fs.length cap]) rfl H (cs := [.slice A fs.length cap]) rfl ?_; intro b3 w H
  refine Lalloc rfl rfl rfl H Try.zeroValue105 (cs := [_, _, _, _]) rfl ?_; intro b6 w H
  refine e_list ?_; (repeat (first | (with_reducible first | refine e_then ?_ | refine e_block ?_ | refine e_then_ret ?_ | refine e_block_ret ?_ | refine e_then_exit ?_ | refine e_block_here ?_ | refine e_then_panic ?_ | refine e_block_panic ?_) | refine e_block_on rfl ?_))
  refine wp_seq ?_
  refine c_cutR [1, 2, 3, 6] 29 (¬ (fn < fs.length ∧ pc < (fs.getD fn []).length)) ([Ent.blk b6 105 [.int .i64 0, .int .u16 0, .int .u16 0, .int .i64 0], Ent.blk b3 45 [.slice A fs.length cap]]) H ?_ ?_
  · skip
    -- R1
    refine c_region ?_
    refine L1 rfl rfl H (y_move (v := (.int .i64 _)) rfl rfl) ?_
    refine L1 rfl rfl H (y_lss rfl rfl rfl) ?_
    refine L_split rfl rfl rfl rfl (fun hg1_2 => ?_) (fun hg1_2 => ?_)
    · skip
      refine Lno rfl rfl rfl rfl rfl ?_
      refine Lno rfl rfl rfl rfl rfl ?_
      refine Lno rfl rfl rfl rfl rfl ?_
      refine Lno rfl rfl rfl rfl rfl ?_
      refine Lno rfl rfl rfl rfl rfl ?_
      refine L1 rfl rfl H (y_pick (v := (.bool _)) rfl rfl rfl) ?_
      refine L1 rfl rfl H (y_move (v := (.bool _)) rfl rfl) ?_
      refine Lno rfl rfl rfl rfl rfl ?_
      refine Lno rfl rfl rfl rfl rfl ?_
      refine L1 rfl rfl H (y_pick (v := (.bool _)) rfl rfl rfl) ?_
      refine L1 rfl rfl H (y_move (v := (.bool _)) rfl rfl) ?_
      refine Lno rfl rfl rfl rfl rfl ?_
      refine Lno rfl rfl rfl rfl rfl ?_
      refine Lno rfl rfl rfl rfl rfl ?_
      refine Lno rfl rfl rfl rfl rfl ?_
      refine Lno rfl rfl rfl rfl rfl ?_
      refine Lno rfl rfl rfl rfl rfl ?_
      refine Lno rfl rfl rfl rfl rfl ?_
      refine Lno rfl rfl rfl rfl rfl ?_
      refine L1 rfl rfl H (y_pick (v := (.bool _)) rfl rfl rfl) ?_
      refine e_list ?_; (repeat (first | (with_reducible first | refine e_then ?_ | refine e_block ?_ | refine e_then_ret ?_ | refine e_block_ret ?_ | refine e_then_exit ?_ | refine e_block_here ?_ | refine e_then_panic ?_ | refine e_block_panic ?_) | refine e_block_on rfl ?_))
      refine ⟨_, rfl, congrArg Value.bool (decide_eq_true (by omega)).symm, ⟨rfl, rfl, rfl, rfl, trivial⟩, H⟩
    · skip
      refine L1g rfl rfl rfl rfl H (y_move (v := (.int .i64 _)) rfl rfl) ?_
      refine L1g rfl rfl rfl rfl H (y_fieldAddr 0 rfl rfl Try.underlying45 rfl Try.sizeOf43 rfl) ?_
      refine L1g rfl rfl rfl rfl H (y_load (v := (.slice _ _ _)) rfl rfl Try.isAgg43 (by first | exact cell_blk (k := 0) rfl rfl | exact cell_blk (k := 1) rfl rfl | exact cell_blk (k := 2) rfl rfl | exact cell_blk (k := 3) rfl rfl | exact cell_blk (k := 4) rfl rfl | exact cell_blk (k := 5) rfl rfl | exact cell_blk (k := 6) rfl rfl | exact cell_blk (k := 7) rfl rfl)) ?_
      refine L1g rfl rfl rfl rfl H (y_len_slice rfl rfl Try.underlying43) ?_
      refine L1g rfl rfl rfl rfl H (y_geq rfl rfl rfl) ?_
      refine L1 rfl rfl H (y_pick (v := (.bool _)) rfl rfl rfl) ?_
      refine L_split rfl rfl rfl rfl (fun hg1_9 => ?_) (fun hg1_9 => ?_)
      · skip
        refine Lno rfl rfl rfl rfl rfl ?_
        refine Lno rfl rfl rfl rfl rfl ?_
        refine L1 rfl rfl H (y_pick (v := (.bool _)) rfl rfl rfl) ?_
        refine L1 rfl rfl H (y_move (v := (.bool _)) rfl rfl) ?_
        refine Lno rfl rfl rfl rfl rfl ?_
        refine Lno rfl rfl rfl rfl rfl ?_
        refine Lno rfl rfl rfl rfl rfl ?_
        refine Lno rfl rfl rfl rfl rfl ?_
        refine Lno rfl rfl rfl rfl rfl ?_
        refine Lno rfl rfl rfl rfl rfl ?_
        refine Lno rfl rfl rfl rfl rfl ?_
        refine Lno rfl rfl rfl rfl rfl ?_
        refine L1 rfl rfl H (y_pick (v := (.bool _)) rfl rfl rfl) ?_
        refine e_list ?_; (repeat (first | (with_reducible first | refine e_then ?_ | refine e_block ?_ | refine e_then_ret ?_ | refine e_block_ret ?_ | refine e_then_exit ?_ | refine e_block_here ?_ | refine e_then_panic ?_ | refine e_block_panic ?_) | refine e_block_on rfl ?_))
        refine ⟨_, rfl, congrArg Value.bool (decide_eq_true (by omega)).symm, ⟨rfl, rfl, rfl, rfl, trivial⟩, H⟩
      · skip
        refine L1g rfl rfl rfl rfl H (y_move (v := (.int .i64 _)) rfl rfl) ?_
        refine L1g rfl rfl rfl rfl H (y_lss rfl rfl rfl) ?_
        refine L1 rfl rfl H (y_pick (v := (.bool _)) rfl rfl rfl) ?_
        refine L_split rfl rfl rfl rfl (fun hg1_13 => ?_) (fun hg1_13 => ?_)
        · skip
          refine Lno rfl rfl rfl rfl rfl ?_
          refine Lno rfl rfl rfl rfl rfl ?_
          refine Lno rfl rfl rfl rfl rfl ?_
          refine Lno rfl rfl rfl rfl rfl ?_
          refine Lno rfl rfl rfl rfl rfl ?_
          refine Lno rfl rfl rfl rfl rfl ?_
          refine Lno rfl rfl rfl rfl rfl ?_
          refine Lno rfl rfl rfl rfl rfl ?_
          refine L1 rfl rfl H (y_pick (v := (.bool _)) rfl rfl rfl) ?_
          refine e_list ?_; (repeat (first | (with_reducible first | refine e_then ?_ | refine e_block ?_ | refine e_then_ret ?_ | refine e_block_ret ?_ | refine e_then_exit ?_ | refine e_block_here ?_ | refine e_then_panic ?_ | refine e_block_panic ?_) | refine e_block_on rfl ?_))
          refine ⟨_, rfl, congrArg Value.bool (decide_eq_true (by omega)).symm, ⟨rfl, rfl, rfl, rfl, trivial⟩, H⟩
        · skip
          refine L1g rfl rfl rfl rfl H (y_move (v := (.int .i64 _)) rfl rfl) ?_
          refine L1g rfl rfl rfl rfl H (y_fieldAddr 0 rfl rfl Try.underlying45 rfl Try.sizeOf43 rfl) ?_
          refine L1g rfl rfl rfl rfl H (y_load (v := (.slice _ _ _)) rfl rfl Try.isAgg43 (by first | exact cell_blk (k := 0) rfl rfl | exact cell_blk (k := 1) rfl rfl | exact cell_blk (k := 2) rfl rfl | exact cell_blk (k := 3) rfl rfl | exact cell_blk (k := 4) rfl rfl | exact cell_blk (k := 5) rfl rfl | exact cell_blk (k := 6) rfl rfl | exact cell_blk (k := 7) rfl rfl)) ?_
          refine L1g rfl rfl rfl rfl H (y_move (v := (.int .i64 _)) rfl rfl) ?_
          obtain ⟨a, ha⟩ := hP.head1 (j := fn) (by omega)
          refine L1g rfl rfl rfl rfl H (y_indexSlA ha rfl rfl rfl Try.underlying43 Try.sizeOf107 (by omega) (by omega)) ?_
          refine L1g rfl rfl rfl rfl H (y_load (v := .slice (B fn) (fs.getD fn []).length (cc fn)) rfl rfl Try.isAgg107 (hP.cellO ha (by omega) (Nat.mul_one _))) ?_
          refine L1g rfl rfl rfl rfl H (y_len_slice rfl rfl Try.underlying107) ?_
          refine L1g rfl rfl rfl rfl H (y_geq rfl rfl rfl) ?_
          refine L1 rfl rfl H (y_pick (v := (.bool _)) rfl rfl rfl) ?_
          refine e_list ?_; (repeat (first | (with_reducible first | refine e_then ?_ | refine e_block ?_ | refine e_then_ret ?_ | refine e_block_ret ?_ | refine e_then_exit ?_ | refine e_block_here ?_ | refine e_then_panic ?_ | refine e_block_panic ?_) | refine e_block_on rfl ?_))
          refine ⟨_, rfl, congrArg Value.bool (decide_eq_decide.2 (by omega)), ⟨rfl, rfl, rfl, rfl, trivial⟩, H⟩
  intro g1 w H
  refine c_if rfl (fun h0 => ?_) (fun h0 => ?_)   -- if 0
  · skip
    have he : spotN fs fn pc = sp0 := spot_out (by omega)
    rw [he]
    refine wp_seq ?_
    -- R2
    refine c_region ?_
    refine L1 rfl rfl H (y_build (v := .agg (spV sp0).toArray) rfl (vals := []) rfl (by intro w; simp [Instr.build, Instr.fill, go_sem] <;> rfl)) ?_
    (first | refine Lstore 0 rfl rfl rfl rfl (v := (.agg _)) rfl H rfl (vs := [_, _, _, _]) rfl Try.sizeOf105 rfl rfl ?_ | refine Lstore 1 rfl rfl rfl rfl (v := (.agg _)) rfl H rfl (vs := [_, _, _, _]) rfl Try.sizeOf105 rfl rfl ?_ | refine Lstore 2 rfl rfl rfl rfl (v := (.agg _)) rfl H rfl (vs := [_, _, _, _]) rfl Try.sizeOf105 rfl rfl ?_ | refine Lstore 3 rfl rfl rfl rfl (v := (.agg _)) rfl H rfl (vs := [_, _, _, _]) rfl Try.sizeOf105 rfl rfl ?_ | refine Lstore 4 rfl rfl rfl rfl (v := (.agg _)) rfl H rfl (vs := [_, _, _, _]) rfl Try.sizeOf105 rfl rfl ?_ | refine Lstore 5 rfl rfl rfl rfl (v := (.agg _)) rfl H rfl (vs := [_, _, _, _]) rfl Try.sizeOf105 rfl rfl ?_ | refine Lstore 6 rfl rfl rfl rfl (v := (.agg _)) rfl H rfl (vs := [_, _, _, _]) rfl Try.sizeOf105 rfl rfl ?_); intro w H
    refine e_list ?_; (repeat (first | (with_reducible first | refine e_then ?_ | refine e_block ?_ | refine e_then_ret ?_ | refine e_block_ret ?_ | refine e_then_exit ?_ | refine e_block_here ?_ | refine e_then_panic ?_ | refine e_block_panic ?_) | refine e_block_on rfl ?_))
    refine wp_ret ?_; (repeat (first | (with_reducible first | refine e_then ?_ | refine e_block ?_ | refine e_then_ret ?_ | refine e_block_ret ?_ | refine e_then_exit ?_ | refine e_block_here ?_ | refine e_then_panic ?_ | refine e_block_panic ?_) | refine e_block_on rfl ?_))
    refine r_c rfl rfl (run_loadAgg (vs := spV sp0) Try.isAgg105 Try.sizeOf105 (fun j u hu => cells_blk (k := 0) (off := 0) (vs := spV sp0) rfl rfl w H j u hu)) ?_
    exact ⟨rfl, H.clear⟩
  · skip
    refine wp_skip ?_; (repeat (first | (with_reducible first | refine e_then ?_ | refine e_block ?_ | refine e_then_ret ?_ | refine e_block_ret ?_ | refine e_then_exit ?_ | refine e_block_here ?_ | refine e_then_panic ?_ | refine e_block_panic ?_) | refine e_block_on rfl ?_))
    refine wp_seq ?_
    -- R3
    refine c_region ?_
    refine L1 rfl rfl H (y_fieldAddr 0 rfl rfl Try.underlying45 rfl Try.sizeOf43 rfl) ?_
    refine L1 rfl rfl H (y_load (v := (.slice _ _ _)) rfl rfl Try.isAgg43 (by first | exact cell_blk (k := 0) rfl rfl | exact cell_blk (k := 1) rfl rfl | exact cell_blk (k := 2) rfl rfl | exact cell_blk (k := 3) rfl rfl | exact cell_blk (k := 4) rfl rfl | exact cell_blk (k := 5) rfl rfl | exact cell_blk (k := 6) rfl rfl | exact cell_blk (k := 7) rfl rfl)) ?_
    refine L1 rfl rfl H (y_move (v := (.int .i64 _)) rfl rfl) ?_
    obtain ⟨a, ha⟩ := hP.head1 (j := fn) (by omega)
    refine L1 rfl rfl H (y_indexSlA ha rfl rfl rfl Try.underlying43 Try.sizeOf107 (by omega) (by omega)) ?_
    refine L1 rfl rfl H (y_load (v := .slice (B fn) (fs.getD fn []).length (cc fn)) rfl rfl Try.isAgg107 (hP.cellO ha (by omega) (Nat.mul_one _))) ?_
    refine L1 rfl rfl H (y_move (v := (.int .i64 _)) rfl rfl) ?_
    obtain ⟨a2, ha2⟩ := hP.head2 (j := fn) (i := pc) (by omega) (by omega)
    refine L1 rfl rfl H (y_indexSlA ha2 rfl rfl rfl Try.underlying107 Try.sizeOf105 (by omega) (by omega)) ?_
    refine L1 rfl rfl H (y_loadAgg (vs := spV (spotN fs fn pc)) rfl rfl Try.isAgg105 Try.sizeOf105 (hP.cellS ha2 (by omega) (by omega) rfl)) ?_
    (first | refine Lstore 0 rfl rfl rfl rfl (v := (.agg _)) rfl H rfl (vs := [_, _, _, _]) rfl Try.sizeOf105 rfl rfl ?_ | refine Lstore 1 rfl rfl rfl rfl (v := (.agg _)) rfl H rfl (vs := [_, _, _, _]) rfl Try.sizeOf105 rfl rfl ?_ | refine Lstore 2 rfl rfl rfl rfl (v := (.agg _)) rfl H rfl (vs := [_, _, _, _]) rfl Try.sizeOf105 rfl rfl ?_ | refine Lstore 3 rfl rfl rfl rfl (v := (.agg _)) rfl H rfl (vs := [_, _, _, _]) rfl Try.sizeOf105 rfl rfl ?_ | refine Lstore 4 rfl rfl rfl rfl (v := (.agg _)) rfl H rfl (vs := [_, _, _, _]) rfl Try.sizeOf105 rfl rfl ?_ | refine Lstore 5 rfl rfl rfl rfl (v := (.agg _)) rfl H rfl (vs := [_, _, _, _]) rfl Try.sizeOf105 rfl rfl ?_ | refine Lstore 6 rfl rfl rfl rfl (v := (.agg _)) rfl H rfl (vs := [_, _, _, _]) rfl Try.sizeOf105 rfl rfl ?_); intro w H
    refine e_list ?_; (repeat (first | (with_reducible first | refine e_then ?_ | refine e_block ?_ | refine e_then_ret ?_ | refine e_block_ret ?_ | refine e_then_exit ?_ | refine e_block_here ?_ | refine e_then_panic ?_ | refine e_block_panic ?_) | refine e_block_on rfl ?_))
    refine wp_ret ?_; (repeat (first | (with_reducible first | refine e_then ?_ | refine e_block ?_ | refine e_then_ret ?_ | refine e_block_ret ?_ | refine e_then_exit ?_ | refine e_block_here ?_ | refine e_then_panic ?_ | refine e_block_panic ?_) | refine e_block_on rfl ?_))
    refine r_c rfl rfl (run_loadAgg (vs := spV (spotN fs fn pc)) Try.isAgg105 Try.sizeOf105 (fun j u hu => cells_blk (k := 0) (off := 0) (vs := spV (spotN fs fn pc)) rfl rfl w H j u hu)) ?_
    exact ⟨rfl, H.clear⟩
-- »refAt
-- «at»
theorem at_calls {fn pc : Nat} (hP : PfRd w0 A fs B cc) (hb : fn ≤ 4611686018427387904) (hpc : pc ≤ 4611686018427387904) :
    Calls Try.prog 68 #[.agg #[.slice A fs.length cap], .int .i64 (fn : Nat), .int .i64 (pc : Nat)] w0 fun e w' => e = .returned (.agg (spV (spotN fs fn pc)).toArray) ∧ Heap w0 [] w' := by
  refine c_enter (xa := [.agg #[.slice A fs.length cap], .int .i64 (fn : Nat), .int .i64 (pc : Nat)]) 39 Try.func68 rfl rfl rfl ?_
  have H := Heap.init w0
  refine wp_seq ?_
  -- R0
  refine c_region ?_
  refine Lbox rfl rfl rfl (z := .agg #[.slice A fs.length cap]) rfl H (cs := [.slice A fs.length cap]) rfl ?_; intro b3 w H
  refine Lalloc rfl rfl rfl H Try.zeroValue105 (cs := [_, _, _, _]) rfl ?_; intro b6 w H
  refine e_list ?_; (repeat (first | (with_reducible first | refine e_then ?_ | refine e_block ?_ | refine e_then_ret ?_ | refine e_block_ret ?_ | refine e_then_exit ?_ | refine e_block_here ?_ | refine e_then_panic ?_ | refine e_block_panic ?_) | refine e_block_on rfl ?_))
  refine wp_seq ?_
  refine c_cutR [1, 2, 3, 6] 29 (¬ (fn < fs.length ∧ pc < (fs.getD fn []).length)) ([Ent.blk b6 105 [.int .i64 0, .int .u16 0, .int .u16 0, .int .i64 0], Ent.blk b3 45 [.slice A fs.length cap]]) H ?_ ?_
  · skip
    -- R1
    refine c_region ?_
    refine L1 rfl rfl H (y_move (v := (.int .i64 _)) rfl rfl) ?_
    refine L1 rfl rfl H (y_lss rfl rfl rfl) ?_
    refine L_split rfl rfl rfl rfl (fun hg1_2 => ?_) (fun hg1_2 => ?_)
    · skip
      refine Lno rfl rfl rfl rfl rfl ?_
      refine Lno rfl rfl rfl rfl rfl ?_
      refine Lno rfl rfl rfl rfl rfl ?_
      refine Lno rfl rfl rfl rfl rfl ?_
      refine Lno rfl rfl rfl rfl rfl ?_
      refine L1 rfl rfl H (y_pick (v := (.bool _)) rfl rfl rfl) ?_
      refine L1 rfl rfl H (y_move (v := (.bool _)) rfl rfl) ?_
      refine Lno rfl rfl rfl rfl rfl ?_
      refine Lno rfl rfl rfl rfl rfl ?_
      refine L1 rfl rfl H (y_pick (v := (.bool _)) rfl rfl rfl) ?_
      refine L1 rfl rfl H (y_move (v := (.bool _)) rfl rfl) ?_
      refine Lno rfl rfl rfl rfl rfl ?_
      refine Lno rfl rfl rfl rfl rfl ?_
      refine Lno rfl rfl rfl rfl rfl ?_
      refine Lno rfl rfl rfl rfl rfl ?_
      refine Lno rfl rfl rfl rfl rfl ?_
      refine Lno rfl rfl rfl rfl rfl ?_
      refine Lno rfl rfl rfl rfl rfl ?_
      refine Lno rfl rfl rfl rfl rfl ?_
      refine L1 rfl rfl H (y_pick (v := (.bool _)) rfl rfl rfl) ?_
      refine e_list ?_; (repeat (first | (with_reducible first | refine e_then ?_ | refine e_block ?_ | refine e_then_ret ?_ | refine e_block_ret ?_ | refine e_then_exit ?_ | refine e_block_here ?_ | refine e_then_panic ?_ | refine e_block_panic ?_) | refine e_block_on rfl ?_))
      refine ⟨_, rfl, congrArg Value.bool (decide_eq_true (by omega)).symm, ⟨rfl, rfl, rfl, rfl, trivial⟩, H⟩
    · skip
      refine L1g rfl rfl rfl rfl H (y_move (v := (.int .i64 _)) rfl rfl) ?_
      refine L1g rfl rfl rfl rfl H (y_fieldAddr 0 rfl rfl Try.underlying45 rfl Try.sizeOf43 rfl) ?_
      refine L1g rfl rfl rfl rfl H (y_load (v := (.slice _ _ _)) rfl rfl Try.isAgg43 (by first | exact cell_blk (k := 0) rfl rfl | exact cell_blk (k := 1) rfl rfl | exact cell_blk (k := 2) rfl rfl | exact cell_blk (k := 3) rfl rfl | exact cell_blk (k := 4) rfl rfl | exact cell_blk (k := 5) rfl rfl | exact cell_blk (k := 6) rfl rfl | exact cell_blk (k := 7) rfl rfl)) ?_
      refine L1g rfl rfl rfl rfl H (y_len_slice rfl rfl Try.underlying43) ?_
      refine L1g rfl rfl rfl rfl H (y_geq rfl rfl rfl) ?_
      refine L1 rfl rfl H (y_pick (v := (.bool _)) rfl rfl rfl) ?_
      refine L_split rfl rfl rfl rfl (fun hg1_9 => ?_) (fun hg1_9 => ?_)
      · skip
        refine Lno rfl rfl rfl rfl rfl ?_
        refine Lno rfl rfl rfl rfl rfl ?_
        refine L1 rfl rfl H (y_pick (v := (.bool _)) rfl rfl rfl) ?_
        refine L1 rfl rfl H (y_move (v := (.bool _)) rfl rfl) ?_
        refine Lno rfl rfl rfl rfl rfl ?_
        refine Lno rfl rfl rfl rfl rfl ?_
        refine Lno rfl rfl rfl rfl rfl ?_
        refine Lno rfl rfl rfl rfl rfl ?_
        refine Lno rfl rfl rfl rfl rfl ?_
        refine Lno rfl rfl rfl rfl rfl ?_
        refine Lno rfl rfl rfl rfl rfl ?_
        refine Lno rfl rfl rfl rfl rfl ?_
        refine L1 rfl rfl H (y_pick (v := (.bool _)) rfl rfl rfl) ?_
        refine e_list ?_; (repeat (first | (with_reducible first | refine e_then ?_ | refine e_block ?_ | refine e_then_ret ?_ | refine e_block_ret ?_ | refine e_then_exit ?_ | refine e_block_here ?_ | refine e_then_panic ?_ | refine e_block_panic ?_) | refine e_block_on rfl ?_))
        refine ⟨_, rfl, congrArg Value.bool (decide_eq_true (by omega)).symm, ⟨rfl, rfl, rfl, rfl, trivial⟩, H⟩
      · skip
        refine L1g rfl rfl rfl rfl H (y_move (v := (.int .i64 _)) rfl rfl) ?_
        refine L1g rfl rfl rfl rfl H (y_lss rfl rfl rfl) ?_
        refine L1 rfl rfl H (y_pick (v := (.bool _)) rfl rfl rfl) ?_
        refine L_split rfl rfl rfl rfl (fun hg1_13 => ?_) (fun hg1_13 => ?_)
        · skip
          refine Lno rfl rfl rfl rfl rfl ?_
          refine Lno rfl rfl rfl rfl rfl ?_
          refine Lno rfl rfl rfl rfl rfl ?_
          refine Lno rfl rfl rfl rfl rfl ?_
          refine Lno rfl rfl rfl rfl rfl ?_
          refine Lno rfl rfl rfl rfl rfl ?_
          refine Lno rfl rfl rfl rfl rfl ?_
          refine Lno rfl rfl rfl rfl rfl ?_
          refine L1 rfl rfl H (y_pick (v := (.bool _)) rfl rfl rfl) ?_
          refine e_list ?_; (repeat (first | (with_reducible first | refine e_then ?_ | refine e_block ?_ | refine e_then_ret ?_ | refine e_block_ret ?_ | refine e_then_exit ?_ | refine e_block_here ?_ | refine e_then_panic ?_ | refine e_block_panic ?_) | refine e_block_on rfl ?_))
          refine ⟨_, rfl, congrArg Value.bool (decide_eq_true (by omega)).symm, ⟨rfl, rfl, rfl, rfl, trivial⟩, H⟩
        · skip
          refine L1g rfl rfl rfl rfl H (y_move (v := (.int .i64 _)) rfl rfl) ?_
          refine L1g rfl rfl rfl rfl H (y_fieldAddr 0 rfl rfl Try.underlying45 rfl Try.sizeOf43 rfl) ?_
          refine L1g rfl rfl rfl rfl H (y_load (v := (.slice _ _ _)) rfl rfl Try.isAgg43 (by first | exact cell_blk (k := 0) rfl rfl | exact cell_blk (k := 1) rfl rfl | exact cell_blk (k := 2) rfl rfl | exact cell_blk (k := 3) rfl rfl | exact cell_blk (k := 4) rfl rfl | exact cell_blk (k := 5) rfl rfl | exact cell_blk (k := 6) rfl rfl | exact cell_blk (k := 7) rfl rfl)) ?_
          refine L1g rfl rfl rfl rfl H (y_move (v := (.int .i64 _)) rfl rfl) ?_
          obtain ⟨a, ha⟩ := hP.head1 (j := fn) (by omega)
          refine L1g rfl rfl rfl rfl H (y_indexSlA ha rfl rfl rfl Try.underlying43 Try.sizeOf107 (by omega) (by omega)) ?_
          refine L1g rfl rfl rfl rfl H (y_load (v := .slice (B fn) (fs.getD fn []).length (cc fn)) rfl rfl Try.isAgg107 (hP.cellO ha (by omega) (Nat.mul_one _))) ?_
          refine L1g rfl rfl rfl rfl H (y_len_slice rfl rfl Try.underlying107) ?_
          refine L1g rfl rfl rfl rfl H (y_geq rfl rfl rfl) ?_
          refine L1 rfl rfl H (y_pick (v := (.bool _)) rfl rfl rfl) ?_
          refine e_list ?_; (repeat (first | (with_reducible first | refine e_then ?_ | refine e_block ?_ | refine e_then_ret ?_ | refine e_block_ret ?_ | refine e_then_exit ?_ | refine e_block_here ?_ | refine e_then_panic ?_ | refine e_block_panic ?_) | refine e_block_on rfl ?_))
          refine ⟨_, rfl, congrArg Value.bool (decide_eq_decide.2 (by omega)), ⟨rfl, rfl, rfl, rfl, trivial⟩, H⟩
  intro g1 w H
  refine c_if rfl (fun h0 => ?_) (fun h0 => ?_)   -- if 0
  · skip
    have he : spotN fs fn pc = sp0 := spot_out (by omega)
    rw [he]
    refine wp_seq ?_
    -- R2
    refine c_region ?_
    refine L1 rfl rfl H (y_build (v := .agg (spV sp0).toArray) rfl (vals := []) rfl (by intro w; simp [Instr.build, Instr.fill, go_sem] <;> rfl)) ?_
    (first | refine Lstore 0 rfl rfl rfl rfl (v := (.agg _)) rfl H rfl (vs := [_, _, _, _]) rfl Try.sizeOf105 rfl rfl ?_ | refine Lstore 1 rfl rfl rfl rfl (v := (.agg _)) rfl H rfl (vs := [_, _, _, _]) rfl Try.sizeOf105 rfl rfl ?_ | refine Lstore 2 rfl rfl rfl rfl (v := (.agg _)) rfl H rfl (vs := [_, _, _, _]) rfl Try.sizeOf105 rfl rfl ?_ | refine Lstore 3 rfl rfl rfl rfl (v := (.agg _)) rfl H rfl (vs := [_, _, _, _]) rfl Try.sizeOf105 rfl rfl ?_ | refine Lstore 4 rfl rfl rfl rfl (v := (.agg _)) rfl H rfl (vs := [_, _, _, _]) rfl Try.sizeOf105 rfl rfl ?_ | refine Lstore 5 rfl rfl rfl rfl (v := (.agg _)) rfl H rfl (vs := [_, _, _, _]) rfl Try.sizeOf105 rfl rfl ?_ | refine Lstore 6 rfl rfl rfl rfl (v := (.agg _)) rfl H rfl (vs := [_, _, _, _]) rfl Try.sizeOf105 rfl rfl ?_); intro w H
    refine e_list ?_; (repeat (first | (with_reducible first | refine e_then ?_ | refine e_block ?_ | refine e_then_ret ?_ | refine e_block_ret ?_ | refine e_then_exit ?_ | refine e_block_here ?_ | refine e_then_panic ?_ | refine e_block_panic ?_) | refine e_block_on rfl ?_))
    refine wp_ret ?_; (repeat (first | (with_reducible first | refine e_then ?_ | refine e_block ?_ | refine e_then_ret ?_ | refine e_block_ret ?_ | refine e_then_exit ?_ | refine e_block_here ?_ | refine e_then_panic ?_ | refine e_block_panic ?_) | refine e_block_on rfl ?_))
    refine r_c rfl rfl (run_loadAgg (vs := spV sp0) Try.isAgg105 Try.sizeOf105 (fun j u hu => cells_blk (k := 0) (off := 0) (vs := spV sp0) rfl rfl w H j u hu)) ?_
    exact ⟨rfl, H.clear⟩
  · skip
    refine wp_skip ?_; (repeat (first | (with_reducible first | refine e_then ?_ | refine e_block ?_ | refine e_then_ret ?_ | refine e_block_ret ?_ | refine e_then_exit ?_ | refine e_block_here ?_ | refine e_then_panic ?_ | refine e_block_panic ?_) | refine e_block_on rfl ?_))
    refine wp_seq ?_
    -- R3
    refine c_region ?_
    refine L1 rfl rfl H (y_fieldAddr 0 rfl rfl Try.underlying45 rfl Try.sizeOf43 rfl) ?_
    refine L1 rfl rfl H (y_load (v := (.slice _ _ _)) rfl rfl Try.isAgg43 (by first | exact cell_blk (k := 0) rfl rfl | exact cell_blk (k := 1) rfl rfl | exact cell_blk (k := 2) rfl rfl | exact cell_blk (k := 3) rfl rfl | exact cell_blk (k := 4) rfl rfl | exact cell_blk (k := 5) rfl rfl | exact cell_blk (k := 6) rfl rfl | exact cell_blk (k := 7) rfl rfl)) ?_
    refine L1 rfl rfl H (y_move (v := (.int .i64 _)) rfl rfl) ?_
    obtain ⟨a, ha⟩ := hP.head1 (j := fn) (by omega)
    refine L1 rfl rfl H (y_indexSlA ha rfl rfl rfl Try.underlying43 Try.sizeOf107 (by omega) (by omega)) ?_
    refine L1 rfl rfl H (y_load (v := .slice (B fn) (fs.getD fn []).length (cc fn)) rfl rfl Try.isAgg107 (hP.cellO ha (by omega) (Nat.mul_one _))) ?_
    refine L1 rfl rfl H (y_move (v := (.int .i64 _)) rfl rfl) ?_
    obtain ⟨a2, ha2⟩ := hP.head2 (j := fn) (i := pc) (by omega) (by omega)
    refine L1 rfl rfl H (y_indexSlA ha2 rfl rfl rfl Try.underlying107 Try.sizeOf105 (by omega) (by omega)) ?_
    refine L1 rfl rfl H (y_loadAgg (vs := spV (spotN fs fn pc)) rfl rfl Try.isAgg105 Try.sizeOf105 (hP.cellS ha2 (by omega) (by omega) rfl)) ?_
    (first | refine Lstore 0 rfl rfl rfl rfl (v := (.agg _)) rfl H rfl (vs := [_, _, _, _]) rfl Try.sizeOf105 rfl rfl ?_ | refine Lstore 1 rfl rfl rfl rfl (v := (.agg _)) rfl H rfl (vs := [_, _, _, _]) rfl Try.sizeOf105 rfl rfl ?_ | refine Lstore 2 rfl rfl rfl rfl (v := (.agg _)) rfl H rfl (vs := [_, _, _, _]) rfl Try.sizeOf105 rfl rfl ?_ | refine Lstore 3 rfl rfl rfl rfl (v := (.agg _)) rfl H rfl (vs := [_, _, _, _]) rfl Try.sizeOf105 rfl rfl ?_ | refine Lstore 4 rfl rfl rfl rfl (v := (.agg _)) rfl H rfl (vs := [_, _, _, _]) rfl Try.sizeOf105 rfl rfl ?_ | refine Lstore 5 rfl rfl rfl rfl (v := (.agg _)) rfl H rfl (vs := [_, _, _, _]) rfl Try.sizeOf105 rfl rfl ?_ | refine Lstore 6 rfl rfl rfl rfl (v := (.agg _)) rfl H rfl (vs := [_, _, _, _]) rfl Try.sizeOf105 rfl rfl ?_); intro w H
    refine e_list ?_; (repeat (first | (with_reducible first | refine e_then ?_ | refine e_block ?_ | refine e_then_ret ?_ | refine e_block_ret ?_ | refine e_then_exit ?_ | refine e_block_here ?_ | refine e_then_panic ?_ | refine e_block_panic ?_) | refine e_block_on rfl ?_))
    refine wp_ret ?_; (repeat (first | (with_reducible first | refine e_then ?_ | refine e_block ?_ | refine e_then_ret ?_ | refine e_block_ret ?_ | refine e_then_exit ?_ | refine e_block_here ?_ | refine e_then_panic ?_ | refine e_block_panic ?_) | refine e_block_on rfl ?_))
    refine r_c rfl rfl (run_loadAgg (vs := spV (spotN fs fn pc)) Try.isAgg105 Try.sizeOf105 (fun j u hu => cells_blk (k := 0) (off := 0) (vs := spV (spotN fs fn pc)) rfl rfl w H j u hu)) ?_
    exact ⟨rfl, H.clear⟩
-- »at
end
end Go.Pf
