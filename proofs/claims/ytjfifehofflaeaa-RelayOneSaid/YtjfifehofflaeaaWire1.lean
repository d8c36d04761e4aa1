/-
  The program's reader, method by method.
-/
import Derived.Test.YtjfifehofflaeaaSpec2
import Derived.Test.YtjfifehofflaeaaProg
import Derived.KernelRfl
namespace Go.Wire
open Go.RowKit Go.Eng Go.Proofs
set_option linter.unusedSimpArgs false
set_option linter.unusedVariables false
attribute [local irreducible] wpList wpQuiet wpStill

/-- a reader: its three fields, its bytes -/
abbrev rdr (w0 : World) (g : Nat) (A : Option Addr) (cap : Nat) (b : By) (at_ : Nat) (err : Int) (R : List Ent) : List Ent :=
  Ent.blk g 168 [.slice A b.length cap, .int .i64 at_, .int .i64 err] :: Ent.row w0.heap.size 5 1 (.slice A b.length cap) b.length (b.map bv) :: R
/-- what a reader panics with -/
abbrev fault (c : Int) : List PanicEntry := [{ v := .iface 172 (.agg #[.int .i64 c]), recovered := false }]

section
variable {w0 w : World} {R : List Ent} {g : Nat} {A : Option Addr} {cap : Nat} {b : By} {at_ : Nat} {err : Int}
theorem take_calls (n : Nat) (H : Heap w0 (rdr w0 g A cap b at_ err R) w) (hn2 : n ≤ 9223372036854775807) (hat : at_ ≤ b.length) (hcap : b.length ≤ cap) (hb : b.length ≤ 140737488355328) :
    Calls Try.prog 110 #[.pointer (some ⟨g, 0, none⟩), .int .i64 n] w fun e w' =>
      (at_ + n ≤ b.length ∧ e = .returned (.slice (subA A cap at_ 1) n (cap - at_)) ∧ Heap w0 (rdr w0 g A cap b (at_ + n) err R) w') ∨
      (b.length < at_ + n ∧ e = .panicked (fault 2) ∧ Heap w0 (rdr w0 g A cap b at_ err R) w') := by
  refine c_enter (xa := [(.pointer _), (.int .i64 _)]) 42 Try.func110 rfl rfl rfl ?_
  refine wp_seq ?_
  -- R0
  refine c_region ?_
  refine L1 rfl rfl H (y_assign (v := (.slice _ _ _)) rfl rfl) ?_
  refine e_list ?_; (repeat (first | (with_reducible first | refine e_then ?_ | refine e_block ?_ | refine e_then_ret ?_ | refine e_block_ret ?_ | refine e_then_exit ?_ | refine e_block_here ?_ | refine e_then_panic ?_ | refine e_block_panic ?_) | refine e_block_on rfl ?_))
  refine wp_seq ?_
  refine wp_seq ?_
  -- R1 draws
  refine c_draw H (by kernel_rfl) (by kernel_rfl) ?_
  refine Q1 rfl rfl (y_move (v := (.int .i64 _)) rfl rfl) ?_
  refine Q1 rfl rfl (y_move (v := (.pointer _)) rfl rfl) ?_
  refine Q1 rfl rfl (y_nilCheck rfl rfl) ?_
  refine Q1 rfl rfl (y_fieldAddr 0 rfl rfl Try.underlying168 rfl Try.sizeOf22 rfl) ?_
  refine Q1 rfl rfl (y_load (v := (.slice _ _ _)) rfl rfl Try.isAgg22 (by first | exact cell_blk (k := 0) rfl rfl | exact cell_blk (k := 1) rfl rfl | exact cell_blk (k := 2) rfl rfl | exact cell_blk (k := 3) rfl rfl | exact cell_blk (k := 4) rfl rfl | exact cell_blk (k := 5) rfl rfl | exact cell_blk (k := 6) rfl rfl | exact cell_blk (k := 7) rfl rfl)) ?_
  refine Q1 rfl rfl (y_len_slice rfl rfl Try.underlying22) ?_
  refine Q1 rfl rfl (y_move (v := (.pointer _)) rfl rfl) ?_
  refine Q1 rfl rfl (y_nilCheck rfl rfl) ?_
  refine Q1 rfl rfl (y_fieldAddr 1 rfl rfl Try.underlying168 rfl Try.sizeOf3 rfl) ?_
  refine Q1 rfl rfl (y_load (v := (.int .i64 _)) rfl rfl Try.isAgg3 (by first | exact cell_blk (k := 0) rfl rfl | exact cell_blk (k := 1) rfl rfl | exact cell_blk (k := 2) rfl rfl | exact cell_blk (k := 3) rfl rfl | exact cell_blk (k := 4) rfl rfl | exact cell_blk (k := 5) rfl rfl | exact cell_blk (k := 6) rfl rfl | exact cell_blk (k := 7) rfl rfl)) ?_
  refine Q1 rfl rfl (y_sub rfl rfl rfl (wr_i64 (by omega) (by omega))) ?_
  refine Q1 rfl rfl (y_gtr rfl rfl rfl) ?_
  refine Qend ?_; intro w H; (repeat (first | (with_reducible first | refine e_then ?_ | refine e_block ?_ | refine e_then_ret ?_ | refine e_block_ret ?_ | refine e_then_exit ?_ | refine e_block_here ?_ | refine e_then_panic ?_ | refine e_block_panic ?_) | refine e_block_on rfl ?_))
  refine c_if rfl (fun h => ?_) (fun h => ?_)
  · skip
    -- R2
    refine c_region ?_
    refine L1 rfl rfl H (y_build (v := (.agg _)) rfl (vals := [(_, (.int .i64 _))]) rfl (by intro w; simp [Instr.build, Instr.fill, go_sem] <;> rfl)) ?_
    refine L1 rfl rfl H (y_mkiface rfl rfl (by kernel_rfl)) ?_
    refine Lpanic rfl rfl rfl ?_
    (repeat (first | (with_reducible first | refine e_then ?_ | refine e_block ?_ | refine e_then_ret ?_ | refine e_block_ret ?_ | refine e_then_exit ?_ | refine e_block_here ?_ | refine e_then_panic ?_ | refine e_block_panic ?_) | refine e_block_on rfl ?_))
    refine r_panic ?_
    exact .inr ⟨by omega, rfl, H⟩
  · skip
    refine wp_skip ?_; (repeat (first | (with_reducible first | refine e_then ?_ | refine e_block ?_ | refine e_then_ret ?_ | refine e_block_ret ?_ | refine e_then_exit ?_ | refine e_block_here ?_ | refine e_then_panic ?_ | refine e_block_panic ?_) | refine e_block_on rfl ?_))
    refine wp_seq ?_
    -- R3
    refine c_region ?_
    refine L1 rfl rfl H (y_move (v := (.pointer _)) rfl rfl) ?_
    refine L1 rfl rfl H (y_nilCheck rfl rfl) ?_
    refine L1 rfl rfl H (y_fieldAddr 1 rfl rfl Try.underlying168 rfl Try.sizeOf3 rfl) ?_
    refine L1 rfl rfl H (y_load (v := (.int .i64 _)) rfl rfl Try.isAgg3 (by first | exact cell_blk (k := 0) rfl rfl | exact cell_blk (k := 1) rfl rfl | exact cell_blk (k := 2) rfl rfl | exact cell_blk (k := 3) rfl rfl | exact cell_blk (k := 4) rfl rfl | exact cell_blk (k := 5) rfl rfl | exact cell_blk (k := 6) rfl rfl | exact cell_blk (k := 7) rfl rfl)) ?_
    refine L1 rfl rfl H (y_move (v := (.int .i64 _)) rfl rfl) ?_
    refine L1 rfl rfl H (y_add rfl rfl rfl (wr_i64 (by omega) (by omega))) ?_
    refine L1 rfl rfl H (y_nilCheck rfl rfl) ?_
    refine L1 rfl rfl H (y_fieldAddr 1 rfl rfl Try.underlying168 rfl Try.sizeOf3 rfl) ?_
    (first | refine Lstore 0 rfl rfl rfl rfl (v := (.int .i64 _)) rfl H rfl (vs := [_]) rfl Try.sizeOf3 rfl rfl ?_ | refine Lstore 1 rfl rfl rfl rfl (v := (.int .i64 _)) rfl H rfl (vs := [_]) rfl Try.sizeOf3 rfl rfl ?_ | refine Lstore 2 rfl rfl rfl rfl (v := (.int .i64 _)) rfl H rfl (vs := [_]) rfl Try.sizeOf3 rfl rfl ?_ | refine Lstore 3 rfl rfl rfl rfl (v := (.int .i64 _)) rfl H rfl (vs := [_]) rfl Try.sizeOf3 rfl rfl ?_ | refine Lstore 4 rfl rfl rfl rfl (v := (.int .i64 _)) rfl H rfl (vs := [_]) rfl Try.sizeOf3 rfl rfl ?_ | refine Lstore 5 rfl rfl rfl rfl (v := (.int .i64 _)) rfl H rfl (vs := [_]) rfl Try.sizeOf3 rfl rfl ?_ | refine Lstore 6 rfl rfl rfl rfl (v := (.int .i64 _)) rfl H rfl (vs := [_]) rfl Try.sizeOf3 rfl rfl ?_); intro w H
    refine e_list ?_; (repeat (first | (with_reducible first | refine e_then ?_ | refine e_block ?_ | refine e_then_ret ?_ | refine e_block_ret ?_ | refine e_then_exit ?_ | refine e_block_here ?_ | refine e_then_panic ?_ | refine e_block_panic ?_) | refine e_block_on rfl ?_))
    refine wp_seq ?_
    -- R4 draws
    refine c_draw H (by kernel_rfl) (by kernel_rfl) ?_
    refine Q1 rfl rfl (y_move (v := (.pointer _)) rfl rfl) ?_
    refine Q1 rfl rfl (y_nilCheck rfl rfl) ?_
    refine Q1 rfl rfl (y_fieldAddr 0 rfl rfl Try.underlying168 rfl Try.sizeOf22 rfl) ?_
    refine Q1 rfl rfl (y_load (v := (.slice _ _ _)) rfl rfl Try.isAgg22 (by first | exact cell_blk (k := 0) rfl rfl | exact cell_blk (k := 1) rfl rfl | exact cell_blk (k := 2) rfl rfl | exact cell_blk (k := 3) rfl rfl | exact cell_blk (k := 4) rfl rfl | exact cell_blk (k := 5) rfl rfl | exact cell_blk (k := 6) rfl rfl | exact cell_blk (k := 7) rfl rfl)) ?_
    refine Q1 rfl rfl (y_move (v := (.pointer _)) rfl rfl) ?_
    refine Q1 rfl rfl (y_nilCheck rfl rfl) ?_
    refine Q1 rfl rfl (y_fieldAddr 1 rfl rfl Try.underlying168 rfl Try.sizeOf3 rfl) ?_
    refine Q1 rfl rfl (y_load (v := (.int .i64 _)) rfl rfl Try.isAgg3 (by first | exact cell_blk (k := 0) rfl rfl | exact cell_blk (k := 1) rfl rfl | exact cell_blk (k := 2) rfl rfl | exact cell_blk (k := 3) rfl rfl | exact cell_blk (k := 4) rfl rfl | exact cell_blk (k := 5) rfl rfl | exact cell_blk (k := 6) rfl rfl | exact cell_blk (k := 7) rfl rfl)) ?_
    refine Q1 rfl rfl (y_move (v := (.int .i64 _)) rfl rfl) ?_
    refine Q1 rfl rfl (y_sub rfl rfl rfl (wr_i64 (by omega) (by omega))) ?_
    refine Q1 rfl rfl (y_move (v := (.pointer _)) rfl rfl) ?_
    refine Q1 rfl rfl (y_nilCheck rfl rfl) ?_
    refine Q1 rfl rfl (y_fieldAddr 1 rfl rfl Try.underlying168 rfl Try.sizeOf3 rfl) ?_
    refine Q1 rfl rfl (y_load (v := (.int .i64 _)) rfl rfl Try.isAgg3 (by first | exact cell_blk (k := 0) rfl rfl | exact cell_blk (k := 1) rfl rfl | exact cell_blk (k := 2) rfl rfl | exact cell_blk (k := 3) rfl rfl | exact cell_blk (k := 4) rfl rfl | exact cell_blk (k := 5) rfl rfl | exact cell_blk (k := 6) rfl rfl | exact cell_blk (k := 7) rfl rfl)) ?_
    refine Q1 rfl rfl (y_slice_lh rfl rfl rfl rfl Try.underlying22 Try.sizeOf5 (by omega) (by omega) (by omega)) ?_
    refine Q1 rfl rfl (y_assign (v := (.slice _ _ _)) rfl rfl) ?_
    refine Qend ?_; intro w H; (repeat (first | (with_reducible first | refine e_then ?_ | refine e_block ?_ | refine e_then_ret ?_ | refine e_block_ret ?_ | refine e_then_exit ?_ | refine e_block_here ?_ | refine e_then_panic ?_ | refine e_block_panic ?_) | refine e_block_on rfl ?_))
    refine wp_ret ?_; (repeat (first | (with_reducible first | refine e_then ?_ | refine e_block ?_ | refine e_then_ret ?_ | refine e_block_ret ?_ | refine e_then_exit ?_ | refine e_block_here ?_ | refine e_then_panic ?_ | refine e_block_panic ?_) | refine e_block_on rfl ?_))
    refine r_1 (v := (.slice _ _ _)) rfl rfl ?_
    refine .inl ⟨by omega, ?_, H⟩
    have e1 : ((at_ : Int) + n - n).toNat = at_ := by omega
    have e2 : ((at_ : Int) + n).toNat = at_ + n := by omega
    have e3 : at_ + n - at_ = n := by omega
    rw [e1, e2, e3]
-- «next»
theorem next_calls (H : Heap w0 (rdr w0 g A cap b at_ err R) w) (hcap : b.length ≤ cap) (hb : b.length ≤ 140737488355328) (hat : at_ ≤ b.length) :
    Calls Try.prog 166 #[.pointer (some ⟨g, 0, none⟩)] w fun e w' =>
      (∃ c, b[at_]? = some c ∧ e = .returned (bv c) ∧ Heap w0 (rdr w0 g A cap b (at_ + 1) err R) w') ∨
      (b.length ≤ at_ ∧ e = .panicked (fault 2) ∧ Heap w0 (rdr w0 g A cap b at_ err R) w') := by
  refine c_enter (xa := [(.pointer _)]) 33 Try.func166 rfl rfl rfl ?_
  refine wp_seq ?_
  -- R0
  refine c_region ?_
  refine L1 rfl rfl H (y_assign (v := (.int .u8 _)) rfl rfl) ?_
  refine e_list ?_; (repeat (first | (with_reducible first | refine e_then ?_ | refine e_block ?_ | refine e_then_ret ?_ | refine e_block_ret ?_ | refine e_then_exit ?_ | refine e_block_here ?_ | refine e_then_panic ?_ | refine e_block_panic ?_) | refine e_block_on rfl ?_))
  refine wp_seq ?_
  refine wp_seq ?_
  -- R1 draws
  refine c_draw H (by kernel_rfl) (by kernel_rfl) ?_
  refine Q1 rfl rfl (y_move (v := (.pointer _)) rfl rfl) ?_
  refine Q1 rfl rfl (y_nilCheck rfl rfl) ?_
  refine Q1 rfl rfl (y_fieldAddr 1 rfl rfl Try.underlying168 rfl Try.sizeOf3 rfl) ?_
  refine Q1 rfl rfl (y_load (v := (.int .i64 _)) rfl rfl Try.isAgg3 (by first | exact cell_blk (k := 0) rfl rfl | exact cell_blk (k := 1) rfl rfl | exact cell_blk (k := 2) rfl rfl | exact cell_blk (k := 3) rfl rfl | exact cell_blk (k := 4) rfl rfl | exact cell_blk (k := 5) rfl rfl | exact cell_blk (k := 6) rfl rfl | exact cell_blk (k := 7) rfl rfl)) ?_
  refine Q1 rfl rfl (y_move (v := (.pointer _)) rfl rfl) ?_
  refine Q1 rfl rfl (y_nilCheck rfl rfl) ?_
  refine Q1 rfl rfl (y_fieldAddr 0 rfl rfl Try.underlying168 rfl Try.sizeOf22 rfl) ?_
  refine Q1 rfl rfl (y_load (v := (.slice _ _ _)) rfl rfl Try.isAgg22 (by first | exact cell_blk (k := 0) rfl rfl | exact cell_blk (k := 1) rfl rfl | exact cell_blk (k := 2) rfl rfl | exact cell_blk (k := 3) rfl rfl | exact cell_blk (k := 4) rfl rfl | exact cell_blk (k := 5) rfl rfl | exact cell_blk (k := 6) rfl rfl | exact cell_blk (k := 7) rfl rfl)) ?_
  refine Q1 rfl rfl (y_len_slice rfl rfl Try.underlying22) ?_
  refine Q1 rfl rfl (y_geq rfl rfl rfl) ?_
  refine Qend ?_; intro w H; (repeat (first | (with_reducible first | refine e_then ?_ | refine e_block ?_ | refine e_then_ret ?_ | refine e_block_ret ?_ | refine e_then_exit ?_ | refine e_block_here ?_ | refine e_then_panic ?_ | refine e_block_panic ?_) | refine e_block_on rfl ?_))
  refine c_if rfl (fun h => ?_) (fun h => ?_)
  · skip
    -- R2
    refine c_region ?_
    refine L1 rfl rfl H (y_build (v := (.agg _)) rfl (vals := [(_, (.int .i64 _))]) rfl (by intro w; simp [Instr.build, Instr.fill, go_sem] <;> rfl)) ?_
    refine L1 rfl rfl H (y_mkiface rfl rfl (by kernel_rfl)) ?_
    refine Lpanic rfl rfl rfl ?_
    (repeat (first | (with_reducible first | refine e_then ?_ | refine e_block ?_ | refine e_then_ret ?_ | refine e_block_ret ?_ | refine e_then_exit ?_ | refine e_block_here ?_ | refine e_then_panic ?_ | refine e_block_panic ?_) | refine e_block_on rfl ?_))
    refine r_panic ?_
    exact .inr ⟨by omega, rfl, H⟩   -- TODO panics
  · have hlt : at_ < b.length := by omega
    obtain ⟨a, rfl, _⟩ := (rd_row (H.get 1 rfl)).some (j := at_) (by simpa using hlt)
    obtain ⟨c, hc⟩ : ∃ c, b[at_]? = some c := ⟨b[at_], by simp⟩
    have hv : (b.map bv)[((at_ : Int) + 1 - 1).toNat * 1]? = some (bv c) := by
      rw [show ((at_ : Int) + 1 - 1).toNat * 1 = at_ from by omega]; simp [hc]
    refine wp_skip ?_; (repeat (first | (with_reducible first | refine e_then ?_ | refine e_block ?_ | refine e_then_ret ?_ | refine e_block_ret ?_ | refine e_then_exit ?_ | refine e_block_here ?_ | refine e_then_panic ?_ | refine e_block_panic ?_) | refine e_block_on rfl ?_))
    refine wp_seq ?_
    -- R3
    refine c_region ?_
    refine L1 rfl rfl H (y_move (v := (.pointer _)) rfl rfl) ?_
    refine L1 rfl rfl H (y_nilCheck rfl rfl) ?_
    refine L1 rfl rfl H (y_fieldAddr 1 rfl rfl Try.underlying168 rfl Try.sizeOf3 rfl) ?_
    refine L1 rfl rfl H (y_load (v := (.int .i64 _)) rfl rfl Try.isAgg3 (by first | exact cell_blk (k := 0) rfl rfl | exact cell_blk (k := 1) rfl rfl | exact cell_blk (k := 2) rfl rfl | exact cell_blk (k := 3) rfl rfl | exact cell_blk (k := 4) rfl rfl | exact cell_blk (k := 5) rfl rfl | exact cell_blk (k := 6) rfl rfl | exact cell_blk (k := 7) rfl rfl)) ?_
    refine L1 rfl rfl H (y_add rfl rfl rfl (by first | exact wr_i64 (by omega) (by omega) | rfl)) ?_
    refine L1 rfl rfl H (y_nilCheck rfl rfl) ?_
    refine L1 rfl rfl H (y_fieldAddr 1 rfl rfl Try.underlying168 rfl Try.sizeOf3 rfl) ?_
    (first | refine Lstore 0 rfl rfl rfl rfl (v := (.int .i64 _)) rfl H rfl (vs := [_]) rfl Try.sizeOf3 rfl rfl ?_ | refine Lstore 1 rfl rfl rfl rfl (v := (.int .i64 _)) rfl H rfl (vs := [_]) rfl Try.sizeOf3 rfl rfl ?_ | refine Lstore 2 rfl rfl rfl rfl (v := (.int .i64 _)) rfl H rfl (vs := [_]) rfl Try.sizeOf3 rfl rfl ?_ | refine Lstore 3 rfl rfl rfl rfl (v := (.int .i64 _)) rfl H rfl (vs := [_]) rfl Try.sizeOf3 rfl rfl ?_ | refine Lstore 4 rfl rfl rfl rfl (v := (.int .i64 _)) rfl H rfl (vs := [_]) rfl Try.sizeOf3 rfl rfl ?_ | refine Lstore 5 rfl rfl rfl rfl (v := (.int .i64 _)) rfl H rfl (vs := [_]) rfl Try.sizeOf3 rfl rfl ?_ | refine Lstore 6 rfl rfl rfl rfl (v := (.int .i64 _)) rfl H rfl (vs := [_]) rfl Try.sizeOf3 rfl rfl ?_); intro w H
    refine e_list ?_; (repeat (first | (with_reducible first | refine e_then ?_ | refine e_block ?_ | refine e_then_ret ?_ | refine e_block_ret ?_ | refine e_then_exit ?_ | refine e_block_here ?_ | refine e_then_panic ?_ | refine e_block_panic ?_) | refine e_block_on rfl ?_))
    refine wp_seq ?_
    -- R4 draws
    refine c_draw H (by kernel_rfl) (by kernel_rfl) ?_
    refine Q1 rfl rfl (y_move (v := (.pointer _)) rfl rfl) ?_
    refine Q1 rfl rfl (y_nilCheck rfl rfl) ?_
    refine Q1 rfl rfl (y_fieldAddr 0 rfl rfl Try.underlying168 rfl Try.sizeOf22 rfl) ?_
    refine Q1 rfl rfl (y_load (v := (.slice _ _ _)) rfl rfl Try.isAgg22 (by first | exact cell_blk (k := 0) rfl rfl | exact cell_blk (k := 1) rfl rfl | exact cell_blk (k := 2) rfl rfl | exact cell_blk (k := 3) rfl rfl | exact cell_blk (k := 4) rfl rfl | exact cell_blk (k := 5) rfl rfl | exact cell_blk (k := 6) rfl rfl | exact cell_blk (k := 7) rfl rfl)) ?_
    refine Q1 rfl rfl (y_move (v := (.pointer _)) rfl rfl) ?_
    refine Q1 rfl rfl (y_nilCheck rfl rfl) ?_
    refine Q1 rfl rfl (y_fieldAddr 1 rfl rfl Try.underlying168 rfl Try.sizeOf3 rfl) ?_
    refine Q1 rfl rfl (y_load (v := (.int .i64 _)) rfl rfl Try.isAgg3 (by first | exact cell_blk (k := 0) rfl rfl | exact cell_blk (k := 1) rfl rfl | exact cell_blk (k := 2) rfl rfl | exact cell_blk (k := 3) rfl rfl | exact cell_blk (k := 4) rfl rfl | exact cell_blk (k := 5) rfl rfl | exact cell_blk (k := 6) rfl rfl | exact cell_blk (k := 7) rfl rfl)) ?_
    refine Q1 rfl rfl (y_sub rfl rfl rfl (by first | exact wr_i64 (by omega) (by omega) | rfl)) ?_
    refine Q1 rfl rfl (y_indexSl rfl rfl rfl Try.underlying22 Try.sizeOf5 (by omega) (by omega)) ?_
    refine Q1 rfl rfl (y_load (v := (bv c)) rfl rfl Try.isAgg5 (cell_row (k := 1) rfl hv)) ?_
    refine Q1 rfl rfl (y_assign (v := (bv c)) rfl rfl) ?_
    refine Qend ?_; intro w H; (repeat (first | (with_reducible first | refine e_then ?_ | refine e_block ?_ | refine e_then_ret ?_ | refine e_block_ret ?_ | refine e_then_exit ?_ | refine e_block_here ?_ | refine e_then_panic ?_ | refine e_block_panic ?_) | refine e_block_on rfl ?_))
    refine wp_ret ?_; (repeat (first | (with_reducible first | refine e_then ?_ | refine e_block ?_ | refine e_then_ret ?_ | refine e_block_ret ?_ | refine e_then_exit ?_ | refine e_block_here ?_ | refine e_then_panic ?_ | refine e_block_panic ?_) | refine e_block_on rfl ?_))
    refine r_1 (v := (bv c)) rfl rfl ?_
    exact .inl ⟨c, hc, rfl, H⟩
-- »next
-- «number»
set_option maxHeartbeats 4000000 in
theorem number_calls (H : Heap w0 (rdr w0 g A cap b at_ err R) w) (hcap : b.length ≤ cap) (hb : b.length ≤ 140737488355328) (hat : at_ ≤ b.length) :
    Calls Try.prog 149 #[.pointer (some ⟨g, 0, none⟩)] w fun e w' =>
      (∃ x k : Nat, numS (b.drop at_) 0 0 = .ok (x, k) ∧ e = .returned (.int .u64 x) ∧ Heap w0 (rdr w0 g A cap b (at_ + k) err R) w') ∨
      (∃ c a' : Nat, numS (b.drop at_) 0 0 = .error c ∧ a' ≤ b.length ∧ e = .panicked (fault c) ∧ Heap w0 (rdr w0 g A cap b a' err R) w') := by
  refine c_enter (xa := [(.pointer _)]) 36 Try.func149 rfl rfl rfl ?_
  refine wp_seq ?_
  -- R0
  refine c_region ?_
  refine L1 rfl rfl H (y_assign (v := (.int .u64 _)) rfl rfl) ?_
  refine e_list ?_; (repeat (first | (with_reducible first | refine e_then ?_ | refine e_block ?_ | refine e_then_ret ?_ | refine e_block_ret ?_ | refine e_then_exit ?_ | refine e_block_here ?_ | refine e_then_panic ?_ | refine e_block_panic ?_) | refine e_block_on rfl ?_))
  refine wp_seq ?_
  -- R1
  refine c_region ?_
  refine L1 rfl rfl H (y_assign (v := (.int .u64 _)) rfl rfl) ?_
  refine e_list ?_; (repeat (first | (with_reducible first | refine e_then ?_ | refine e_block ?_ | refine e_then_ret ?_ | refine e_block_ret ?_ | refine e_then_exit ?_ | refine e_block_here ?_ | refine e_then_panic ?_ | refine e_block_panic ?_) | refine e_block_on rfl ?_))
  refine wp_seq ?_
  -- R2
  refine c_region ?_
  refine L1 rfl rfl H (y_assign (v := (.int .i64 _)) rfl rfl) ?_
  refine e_list ?_; (repeat (first | (with_reducible first | refine e_then ?_ | refine e_block ?_ | refine e_then_ret ?_ | refine e_block_ret ?_ | refine e_then_exit ?_ | refine e_block_here ?_ | refine e_then_panic ?_ | refine e_block_panic ?_) | refine e_block_on rfl ?_))
  refine wp_block ?_   -- block 0
  refine c_loop (ι := Nat × Nat) (fun (i, x) f w => (∃ gx, f = ov [(0, .pointer (some ⟨g, 0, none⟩)), (3, .int .u64 (x : Nat)), (4, .int .i64 ((7 * i : Nat) : Int))] gx) ∧ Heap w0 (rdr w0 g A cap b (at_ + i) err R) w ∧ i ≤ 9 ∧ at_ + i ≤ b.length ∧ x < 2 ^ (7 * i) ∧ numS (b.drop at_) 0 0 = numS (b.drop (at_ + i)) i x) (fun (i, x) => 10 - i) (0, 0) ?_ ?_
  · exact ⟨ov_ex _ ⟨rfl, rfl, rfl, trivial⟩, H, ⟨by omega, by omega, by decide, rfl⟩⟩
  rintro ⟨i, x⟩ f w ⟨⟨gg, rfl⟩, H, hi, hat2, hx, hnum⟩
  refine wp_seq ?_
  refine wp_block ?_   -- block 1
  refine wp_seq ?_
  -- R4
  refine c_region ?_
  refine L1 rfl rfl H (y_move (v := (.pointer _)) rfl rfl) ?_
  refine LfnP rfl rfl rfl (xa := [(.pointer _)]) rfl Try.call166 ?_
  refine (next_calls H hcap hb hat2).mono ?_
  rintro e w (⟨c, hc, rfl, H⟩ | ⟨hl, rfl, H⟩)
  rotate_left
  · refine .inr ⟨_, rfl, ?_⟩
    (repeat (first | (with_reducible first | refine e_then ?_ | refine e_block ?_ | refine e_then_ret ?_ | refine e_block_ret ?_ | refine e_then_exit ?_ | refine e_block_here ?_ | refine e_then_panic ?_ | refine e_block_panic ?_) | refine e_block_on rfl ?_))
    refine r_panic ?_
    refine .inr ⟨2, at_ + i, ?_, hat2, rfl, H⟩
    rw [hnum, List.drop_eq_nil_of_le hl]; rfl
  refine .inl ⟨_, rfl, ?_⟩
  have hlt := (List.getElem?_eq_some_iff.1 hc).1
  have hd : b.drop (at_ + i) = c :: b.drop (at_ + i + 1) := by
    rw [List.drop_eq_getElem_cons hlt, (List.getElem?_eq_some_iff.1 hc).2]
  rw [hd, numS] at hnum
  have hc8 := c.toNat_lt
  refine L1 rfl rfl H (y_assign (v := (.int .u8 _)) rfl rfl) ?_
  refine e_list ?_; (repeat (first | (with_reducible first | refine e_then ?_ | refine e_block ?_ | refine e_then_ret ?_ | refine e_block_ret ?_ | refine e_then_exit ?_ | refine e_block_here ?_ | refine e_then_panic ?_ | refine e_block_panic ?_) | refine e_block_on rfl ?_))
  refine wp_seq ?_
  refine c_cutR [0, 3, 4, 5] 23 (((c.toNat : Int) = 0 ∧ (0 : Int) < ((7 * i : Nat) : Int)) ∨ (((7 * i : Nat) : Int) = 63 ∧ (1 : Int) < (c.toNat : Int))) (rdr w0 g A cap b (at_ + i + 1) err R) H ?_ ?_
  · skip
    -- R5
    refine c_region ?_
    refine L1 rfl rfl H (y_move (v := (.int .u8 _)) rfl rfl) ?_
    refine L1 rfl rfl H (y_eql rfl rfl rfl) ?_
    refine L_split rfl rfl rfl rfl (fun hg5_2 => ?_) (fun hg5_2 => ?_)
    · skip
      refine L1g rfl rfl rfl rfl H (y_move (v := (.int .i64 _)) rfl rfl) ?_
      refine L1g rfl rfl rfl rfl H (y_gtr rfl rfl rfl) ?_
      refine L1 rfl rfl H (y_pick (v := (.bool _)) rfl rfl rfl) ?_
      refine L_split rfl rfl rfl rfl (fun hg5_6 => ?_) (fun hg5_6 => ?_)
      · skip
        refine Lno rfl rfl rfl rfl rfl ?_
        refine Lno rfl rfl rfl rfl rfl ?_
        refine Lno rfl rfl rfl rfl rfl ?_
        refine Lno' rfl rfl rfl rfl ?_
        refine Lno' rfl rfl rfl rfl ?_
        refine Lno rfl rfl rfl rfl rfl ?_
        refine L1 rfl rfl H (y_pick (v := (.bool _)) rfl rfl rfl) ?_
        refine e_list ?_; (repeat (first | (with_reducible first | refine e_then ?_ | refine e_block ?_ | refine e_then_ret ?_ | refine e_block_ret ?_ | refine e_then_exit ?_ | refine e_block_here ?_ | refine e_then_panic ?_ | refine e_block_panic ?_) | refine e_block_on rfl ?_))
        refine ⟨_, rfl, congrArg Value.bool (decide_eq_true (by omega)).symm, ⟨rfl, rfl, rfl, rfl, trivial⟩, H⟩
      · skip
        refine L1g rfl rfl rfl rfl H (y_move (v := (.int .i64 _)) rfl rfl) ?_
        refine L1g rfl rfl rfl rfl H (y_eql rfl rfl rfl) ?_
        refine L_splitg rfl rfl rfl rfl rfl rfl (fun hg5_9 => ?_) (fun hg5_9 => ?_)
        · skip
          refine L1g rfl rfl rfl rfl H (y_move (v := (.int .u8 _)) rfl rfl) ?_
          refine L1g rfl rfl rfl rfl H (y_gtr rfl rfl rfl) ?_
          refine L1g rfl rfl rfl rfl H (y_pick (v := (.bool _)) rfl rfl rfl) ?_
          refine L1 rfl rfl H (y_pick (v := (.bool _)) rfl rfl rfl) ?_
          refine e_list ?_; (repeat (first | (with_reducible first | refine e_then ?_ | refine e_block ?_ | refine e_then_ret ?_ | refine e_block_ret ?_ | refine e_then_exit ?_ | refine e_block_here ?_ | refine e_then_panic ?_ | refine e_block_panic ?_) | refine e_block_on rfl ?_))
          refine ⟨_, rfl, congrArg Value.bool (decide_eq_decide.2 (by omega)), ⟨rfl, rfl, rfl, rfl, trivial⟩, H⟩
        · skip
          refine Lno rfl rfl rfl rfl rfl ?_
          refine Lno rfl rfl rfl rfl rfl ?_
          refine L1g rfl rfl rfl rfl H (y_pick (v := (.bool _)) rfl rfl rfl) ?_
          refine L1 rfl rfl H (y_pick (v := (.bool _)) rfl rfl rfl) ?_
          refine e_list ?_; (repeat (first | (with_reducible first | refine e_then ?_ | refine e_block ?_ | refine e_then_ret ?_ | refine e_block_ret ?_ | refine e_then_exit ?_ | refine e_block_here ?_ | refine e_then_panic ?_ | refine e_block_panic ?_) | refine e_block_on rfl ?_))
          refine ⟨_, rfl, congrArg Value.bool (decide_eq_false (by omega)).symm, ⟨rfl, rfl, rfl, rfl, trivial⟩, H⟩
    · skip
      refine Lno rfl rfl rfl rfl rfl ?_
      refine Lno rfl rfl rfl rfl rfl ?_
      refine L1 rfl rfl H (y_pick (v := (.bool _)) rfl rfl rfl) ?_
      refine L1 rfl rfl H (y_move (v := (.bool _)) rfl rfl) ?_
      refine L1g rfl rfl rfl rfl H (y_move (v := (.int .i64 _)) rfl rfl) ?_
      refine L1g rfl rfl rfl rfl H (y_eql rfl rfl rfl) ?_
      refine L_splitg rfl rfl rfl rfl rfl rfl (fun hg5_9 => ?_) (fun hg5_9 => ?_)
      · skip
        refine L1g rfl rfl rfl rfl H (y_move (v := (.int .u8 _)) rfl rfl) ?_
        refine L1g rfl rfl rfl rfl H (y_gtr rfl rfl rfl) ?_
        refine L1g rfl rfl rfl rfl H (y_pick (v := (.bool _)) rfl rfl rfl) ?_
        refine L1 rfl rfl H (y_pick (v := (.bool _)) rfl rfl rfl) ?_
        refine e_list ?_; (repeat (first | (with_reducible first | refine e_then ?_ | refine e_block ?_ | refine e_then_ret ?_ | refine e_block_ret ?_ | refine e_then_exit ?_ | refine e_block_here ?_ | refine e_then_panic ?_ | refine e_block_panic ?_) | refine e_block_on rfl ?_))
        refine ⟨_, rfl, congrArg Value.bool (decide_eq_decide.2 (by omega)), ⟨rfl, rfl, rfl, rfl, trivial⟩, H⟩
      · skip
        refine Lno rfl rfl rfl rfl rfl ?_
        refine Lno rfl rfl rfl rfl rfl ?_
        refine L1g rfl rfl rfl rfl H (y_pick (v := (.bool _)) rfl rfl rfl) ?_
        refine L1 rfl rfl H (y_pick (v := (.bool _)) rfl rfl rfl) ?_
        refine e_list ?_; (repeat (first | (with_reducible first | refine e_then ?_ | refine e_block ?_ | refine e_then_ret ?_ | refine e_block_ret ?_ | refine e_then_exit ?_ | refine e_block_here ?_ | refine e_then_panic ?_ | refine e_block_panic ?_) | refine e_block_on rfl ?_))
        refine ⟨_, rfl, congrArg Value.bool (decide_eq_false (by omega)).symm, ⟨rfl, rfl, rfl, rfl, trivial⟩, H⟩
  intro g5 w H
  have hs : x + c.toNat % 128 * 2 ^ (7 * i) < 2 ^ (7 * (i + 1)) := by
    have h1 : 2 ^ (7 * (i + 1)) = 128 * 2 ^ (7 * i) := by rw [Nat.mul_add, Nat.pow_add, Nat.mul_comm]
    have h2 : c.toNat % 128 ≤ 127 := by omega
    have h3 := Nat.mul_le_mul_right (2 ^ (7 * i)) h2
    omega
  refine c_if rfl (fun h0 => ?_) (fun h0 => ?_)   -- if 0
  · skip
    -- R6
    refine c_region ?_
    refine L1 rfl rfl H (y_build (v := (.agg _)) rfl (vals := [(_, (.int .i64 _))]) rfl (by intro w; simp [Instr.build, Instr.fill, go_sem] <;> rfl)) ?_
    refine L1 rfl rfl H (y_mkiface rfl rfl (by kernel_rfl)) ?_
    refine Lpanic rfl rfl rfl ?_
    (repeat (first | (with_reducible first | refine e_then ?_ | refine e_block ?_ | refine e_then_ret ?_ | refine e_block_ret ?_ | refine e_then_exit ?_ | refine e_block_here ?_ | refine e_then_panic ?_ | refine e_block_panic ?_) | refine e_block_on rfl ?_))
    refine r_panic ?_
    refine .inr ⟨4, at_ + i + 1, ?_, by omega, rfl, H⟩
    rw [hnum, if_pos (by omega)]
  · skip
    rw [if_neg (by omega)] at hnum
    have h64 : x + c.toNat % 128 * 2 ^ (7 * i) < 2 ^ 64 := by
      by_cases h9 : i = 9
      · subst h9
        have h2 : c.toNat % 128 ≤ 1 := by omega
        have h3 := Nat.mul_le_mul_right (2 ^ 63) h2
        have e : 7 * 9 = 63 := rfl
        rw [e] at hx ⊢
        omega
      · have h1 : 2 ^ (7 * (i + 1)) ≤ 2 ^ 63 := Nat.pow_le_pow_right (by omega) (by omega)
        have h2 : (2 : Nat) ^ 63 < 2 ^ 64 := by decide
        omega
    have hy64 : c.toNat % 128 * 2 ^ (7 * i) < 2 ^ 64 := by omega
    refine wp_skip ?_; (repeat (first | (with_reducible first | refine e_then ?_ | refine e_block ?_ | refine e_then_ret ?_ | refine e_block_ret ?_ | refine e_then_exit ?_ | refine e_block_here ?_ | refine e_then_panic ?_ | refine e_block_panic ?_) | refine e_block_on rfl ?_))
    refine wp_seq ?_
    -- R7
    refine c_region ?_
    refine L1 rfl rfl H (y_move (v := (.int .u64 _)) rfl rfl) ?_
    refine L1 rfl rfl H (y_move (v := (.int .u8 _)) rfl rfl) ?_
    refine L1 rfl rfl H (y_and rfl rfl rfl (and127 c)) ?_
    refine L1 rfl rfl H (y_conv rfl rfl Try.underlying5 Try.underlying86 (by first | exact wr_u64 (by omega) (by omega) | rfl)) ?_
    refine L1 rfl rfl H (y_move (v := (.int .i64 _)) rfl rfl) ?_
    refine L1 rfl rfl H (y_shl rfl rfl rfl (by omega) (shl7 hy64 (by omega))) ?_
    refine L1 rfl rfl H (y_or rfl rfl rfl (or_add hx h64)) ?_
    refine L1 rfl rfl H (y_assign (v := (.int .u64 _)) rfl rfl) ?_
    refine e_list ?_; (repeat (first | (with_reducible first | refine e_then ?_ | refine e_block ?_ | refine e_then_ret ?_ | refine e_block_ret ?_ | refine e_then_exit ?_ | refine e_block_here ?_ | refine e_then_panic ?_ | refine e_block_panic ?_) | refine e_block_on rfl ?_))
    refine wp_seq ?_
    -- R8
    refine c_region ?_
    refine L1 rfl rfl H (y_move (v := (.int .u8 _)) rfl rfl) ?_
    refine L1 rfl rfl H (y_lss rfl rfl rfl) ?_
    refine e_list ?_; (repeat (first | (with_reducible first | refine e_then ?_ | refine e_block ?_ | refine e_then_ret ?_ | refine e_block_ret ?_ | refine e_then_exit ?_ | refine e_block_here ?_ | refine e_then_panic ?_ | refine e_block_panic ?_) | refine e_block_on rfl ?_))
    refine c_if rfl (fun h1 => ?_) (fun h1 => ?_)   -- if 1
    · skip
      rw [if_pos (by omega)] at hnum
      refine wp_seq ?_
      -- R9
      refine c_region ?_
      refine L1 rfl rfl H (y_move (v := (.int .u64 _)) rfl rfl) ?_
      refine L1 rfl rfl H (y_assign (v := (.int .u64 _)) rfl rfl) ?_
      refine e_list ?_; (repeat (first | (with_reducible first | refine e_then ?_ | refine e_block ?_ | refine e_then_ret ?_ | refine e_block_ret ?_ | refine e_then_exit ?_ | refine e_block_here ?_ | refine e_then_panic ?_ | refine e_block_panic ?_) | refine e_block_on rfl ?_))
      refine wp_ret ?_; (repeat (first | (with_reducible first | refine e_then ?_ | refine e_block ?_ | refine e_then_ret ?_ | refine e_block_ret ?_ | refine e_then_exit ?_ | refine e_block_here ?_ | refine e_then_panic ?_ | refine e_block_panic ?_) | refine e_block_on rfl ?_))
      refine r_1 (v := (.int .u64 _)) rfl rfl ?_
      exact .inl ⟨_, _, hnum, rfl, H⟩
    · skip
      rw [if_neg (by omega)] at hnum
      have hi9 : i ≠ 9 := by omega
      have hx2 := hs
      have he : ((7 * i : Nat) : Int) + 7 = ((7 * (i + 1) : Nat) : Int) := by omega
      refine wp_skip ?_; (repeat (first | (with_reducible first | refine e_then ?_ | refine e_block ?_ | refine e_then_ret ?_ | refine e_block_ret ?_ | refine e_then_exit ?_ | refine e_block_here ?_ | refine e_then_panic ?_ | refine e_block_panic ?_) | refine e_block_on rfl ?_))
      -- R3
      refine c_region ?_
      refine L1 rfl rfl H (y_move (v := (.int .i64 _)) rfl rfl) ?_
      refine L1 rfl rfl H (y_add (r := ((7 * (i + 1) : Nat) : Int)) rfl rfl rfl (by rw [he]; exact wr_i64 (by omega) (by omega))) ?_
      refine L1 rfl rfl H (y_assign (v := (.int .i64 _)) rfl rfl) ?_
      refine e_list ?_; (repeat (first | (with_reducible first | refine e_then ?_ | refine e_block ?_ | refine e_then_ret ?_ | refine e_block_ret ?_ | refine e_then_exit ?_ | refine e_block_here ?_ | refine e_then_panic ?_ | refine e_block_panic ?_) | refine e_block_on rfl ?_))
      exact ⟨(i + 1, x + c.toNat % 128 * 2 ^ (7 * i)), _, rfl, ⟨ov_ex _ ⟨rfl, rfl, rfl, trivial⟩, H, ⟨by omega, by omega, hx2, hnum⟩⟩, by show 10 - (i + 1) < 10 - i; omega⟩
-- »number
-- «count»
theorem count_calls (most : Nat) (hm : most ≤ 4611686018427387904) (H : Heap w0 (rdr w0 g A cap b at_ err R) w) (hcap : b.length ≤ cap) (hb : b.length ≤ 140737488355328) (hat : at_ ≤ b.length) :
    Calls Try.prog 113 #[.pointer (some ⟨g, 0, none⟩), .int .i64 most] w fun e w' =>
      (∃ x k : Nat, cntS (b.drop at_) most = .ok (x, k) ∧ e = .returned (.int .i64 x) ∧ at_ + k ≤ b.length ∧ Heap w0 (rdr w0 g A cap b (at_ + k) err R) w') ∨
      (∃ c a' : Nat, cntS (b.drop at_) most = .error c ∧ a' ≤ b.length ∧ e = .panicked (fault c) ∧ Heap w0 (rdr w0 g A cap b a' err R) w') := by
  refine c_enter (xa := [(.pointer _), (.int .i64 (most : Nat))]) 17 Try.func113 rfl rfl rfl ?_
  refine wp_seq ?_
  -- R0
  refine c_region ?_
  refine L1 rfl rfl H (y_assign (v := (.int .i64 _)) rfl rfl) ?_
  refine e_list ?_; (repeat (first | (with_reducible first | refine e_then ?_ | refine e_block ?_ | refine e_then_ret ?_ | refine e_block_ret ?_ | refine e_then_exit ?_ | refine e_block_here ?_ | refine e_then_panic ?_ | refine e_block_panic ?_) | refine e_block_on rfl ?_))
  refine wp_seq ?_
  -- R1
  refine c_region ?_
  refine L1 rfl rfl H (y_move (v := (.pointer _)) rfl rfl) ?_
  refine LfnP rfl rfl rfl (xa := [(.pointer _)]) rfl Try.call149 ?_
  refine (number_calls H hcap hb hat).mono ?_
  rintro e w (⟨x, k, hn, rfl, H⟩ | ⟨c, a', hn, ha, rfl, H⟩)
  rotate_left
  · refine .inr ⟨_, rfl, ?_⟩
    (repeat (first | (with_reducible first | refine e_then ?_ | refine e_block ?_ | refine e_then_ret ?_ | refine e_block_ret ?_ | refine e_then_exit ?_ | refine e_block_here ?_ | refine e_then_panic ?_ | refine e_block_panic ?_) | refine e_block_on rfl ?_))
    refine r_panic ?_
    exact .inr ⟨c, a', by unfold cntS; rw [hn], ha, rfl, H⟩
  refine .inl ⟨_, rfl, ?_⟩
  have hk := numS_ok _ 0 0 x k (by omega) (by simp) hn
  simp only [List.length_drop] at hk
  refine L1 rfl rfl H (y_assign (v := (.int .u64 _)) rfl rfl) ?_
  refine e_list ?_; (repeat (first | (with_reducible first | refine e_then ?_ | refine e_block ?_ | refine e_then_ret ?_ | refine e_block_ret ?_ | refine e_then_exit ?_ | refine e_block_here ?_ | refine e_then_panic ?_ | refine e_block_panic ?_) | refine e_block_on rfl ?_))
  refine wp_seq ?_
  refine wp_seq ?_
  -- R2
  refine c_region ?_
  refine L1 rfl rfl H (y_move (v := (.int .u64 _)) rfl rfl) ?_
  refine L1 rfl rfl H (y_move (v := (.int .i64 _)) rfl rfl) ?_
  refine L1 rfl rfl H (y_max2 rfl rfl rfl) ?_
  refine L1 rfl rfl H (y_conv rfl rfl Try.underlying3 Try.underlying86 (by first | exact wr_u64 (by omega) (by omega) | rfl)) ?_
  refine L1 rfl rfl H (y_gtr rfl rfl rfl) ?_
  refine e_list ?_; (repeat (first | (with_reducible first | refine e_then ?_ | refine e_block ?_ | refine e_then_ret ?_ | refine e_block_ret ?_ | refine e_then_exit ?_ | refine e_block_here ?_ | refine e_then_panic ?_ | refine e_block_panic ?_) | refine e_block_on rfl ?_))
  refine c_if rfl (fun h0 => ?_) (fun h0 => ?_)   -- if 0
  · skip
    -- R3
    refine c_region ?_
    refine L1 rfl rfl H (y_build (v := (.agg _)) rfl (vals := [(_, (.int .i64 _))]) rfl (by intro w; simp [Instr.build, Instr.fill, go_sem] <;> rfl)) ?_
    refine L1 rfl rfl H (y_mkiface rfl rfl (by kernel_rfl)) ?_
    refine Lpanic rfl rfl rfl ?_
    (repeat (first | (with_reducible first | refine e_then ?_ | refine e_block ?_ | refine e_then_ret ?_ | refine e_block_ret ?_ | refine e_then_exit ?_ | refine e_block_here ?_ | refine e_then_panic ?_ | refine e_block_panic ?_) | refine e_block_on rfl ?_))
    refine r_panic ?_
    exact .inr ⟨5, at_ + k, by unfold cntS; rw [hn]; simp only; rw [if_neg (by omega)], by omega, rfl, H⟩
  · skip
    refine wp_skip ?_; (repeat (first | (with_reducible first | refine e_then ?_ | refine e_block ?_ | refine e_then_ret ?_ | refine e_block_ret ?_ | refine e_then_exit ?_ | refine e_block_here ?_ | refine e_then_panic ?_ | refine e_block_panic ?_) | refine e_block_on rfl ?_))
    refine wp_seq ?_
    -- R4
    refine c_region ?_
    refine L1 rfl rfl H (y_move (v := (.int .u64 _)) rfl rfl) ?_
    refine L1 rfl rfl H (y_conv rfl rfl Try.underlying86 Try.underlying3 (by first | exact wr_i64 (by omega) (by omega) | rfl)) ?_
    refine L1 rfl rfl H (y_assign (v := (.int .i64 _)) rfl rfl) ?_
    refine e_list ?_; (repeat (first | (with_reducible first | refine e_then ?_ | refine e_block ?_ | refine e_then_ret ?_ | refine e_block_ret ?_ | refine e_then_exit ?_ | refine e_block_here ?_ | refine e_then_panic ?_ | refine e_block_panic ?_) | refine e_block_on rfl ?_))
    refine wp_ret ?_; (repeat (first | (with_reducible first | refine e_then ?_ | refine e_block ?_ | refine e_then_ret ?_ | refine e_block_ret ?_ | refine e_then_exit ?_ | refine e_block_here ?_ | refine e_then_panic ?_ | refine e_block_panic ?_) | refine e_block_on rfl ?_))
    refine r_1 (v := (.int .i64 _)) rfl rfl ?_
    exact .inl ⟨x, k, by unfold cntS; rw [hn]; simp only; rw [if_pos (by omega)], rfl, by omega, H⟩
-- »count
-- «clone»
theorem clone_calls {w : World} {n : Nat} {cs : List Value} (hR : Rd w A cs) (hn : cs.length = n) (h1 : ∀ u ∈ cs, u.oneCell' = true) (hb : n ≤ 140737488355328) :
    Calls Try.prog 105 #[.slice A n cap] w fun e w' => ∃ v, e = .returned v ∧ (v = .slice none 0 0 ∨ ∃ b c, v = .slice (some ⟨b, 0, none⟩) n c) ∧ Heap w [Ent.row w.heap.size 5 1 v n cs] w' := by
  refine c_enter (xa := [(.slice A n cap)]) 8 Try.func105 rfl rfl rfl ?_
  have H := Heap.init w
  refine wp_seq ?_
  -- R0
  refine c_region ?_
  refine L1 rfl rfl H (y_assign (v := (.slice _ _ _)) rfl rfl) ?_
  refine e_list ?_; (repeat (first | (with_reducible first | refine e_then ?_ | refine e_block ?_ | refine e_then_ret ?_ | refine e_block_ret ?_ | refine e_then_exit ?_ | refine e_block_here ?_ | refine e_then_panic ?_ | refine e_block_panic ?_) | refine e_block_on rfl ?_))
  refine wp_seq ?_
  refine wp_seq ?_
  -- R1
  refine c_region ?_
  refine L1 rfl rfl H (y_move (v := (.slice _ _ _)) rfl rfl) ?_
  refine L1 rfl rfl H (y_slice_eql_nil rfl rfl rfl Try.underlying22) ?_
  refine e_list ?_; (repeat (first | (with_reducible first | refine e_then ?_ | refine e_block ?_ | refine e_then_ret ?_ | refine e_block_ret ?_ | refine e_then_exit ?_ | refine e_block_here ?_ | refine e_then_panic ?_ | refine e_block_panic ?_) | refine e_block_on rfl ?_))
  refine c_ifb rfl (fun h0 => ?_) (fun h0 => ?_)   -- if 0
  · skip
    have : A = none := by simpa using h0
    subst this
    have : cs = [] := by
      cases cs with
      | nil => rfl
      | cons c l => obtain ⟨a, ha, _⟩ := hR.cell 0 c (by simp); cases ha
    subst this
    have : n = 0 := by simpa using hn.symm
    subst this
    refine wp_seq ?_
    -- R2
    refine c_region ?_
    refine L1 rfl rfl H (y_assign (v := (.slice _ _ _)) rfl rfl) ?_
    refine e_list ?_; (repeat (first | (with_reducible first | refine e_then ?_ | refine e_block ?_ | refine e_then_ret ?_ | refine e_block_ret ?_ | refine e_then_exit ?_ | refine e_block_here ?_ | refine e_then_panic ?_ | refine e_block_panic ?_) | refine e_block_on rfl ?_))
    refine wp_ret ?_; (repeat (first | (with_reducible first | refine e_then ?_ | refine e_block ?_ | refine e_then_ret ?_ | refine e_block_ret ?_ | refine e_then_exit ?_ | refine e_block_here ?_ | refine e_then_panic ?_ | refine e_block_panic ?_) | refine e_block_on rfl ?_))
    refine r_1 (v := _) rfl rfl ?_
    exact ⟨.slice none 0 0, rfl, .inl rfl, H.row0 _ 1⟩
  · skip
    have hne : A ≠ none := by intro h; subst h; simp at h0
    refine wp_skip ?_; (repeat (first | (with_reducible first | refine e_then ?_ | refine e_block ?_ | refine e_then_ret ?_ | refine e_block_ret ?_ | refine e_then_exit ?_ | refine e_block_here ?_ | refine e_then_panic ?_ | refine e_block_panic ?_) | refine e_block_on rfl ?_))
    refine wp_seq ?_
    -- R3
    refine c_region ?_
    refine LbuildSlice (cs := []) (e := 5) rfl rfl rfl H (fun w => by simp [Instr.buildSlice, Instr.fill, go_sem] <;> rfl) ?_; intro b5 w H
    replace H := H.to_row 0 rfl 1 0 0 rfl (Nat.le_refl _) (by decide)
    refine L1 rfl rfl H (y_move (v := (.slice A n cap)) rfl rfl) ?_
    have hsrc : Src Try.prog 1 22 (.slice A n cap) n cs w := by
      cases A with
      | none => exact absurd rfl hne
      | some a => exact Src.ofSlice w Try.underlying22 a n cap cs (by simpa using hn) (fun j u hu => ((hR.old H).at_ hu)) h1
    refine Lappend 0 rfl rfl rfl rfl (u := .slice A n cap) rfl H rfl Try.underlying22 (i := Try.t5) (by kernel_rfl) (z := .int .u8 0) rfl rfl rfl hsrc (by show (0 + n) * 1 ≤ _; omega) (by simp only [maxLen]; omega) ?_
    intro v' w H hv'
    simp only [Nat.zero_add, List.nil_append, List.set_cons_zero] at H hv'
    refine L1 rfl rfl H (y_assign (v := v') rfl rfl) ?_
    refine e_list ?_; (repeat (first | (with_reducible first | refine e_then ?_ | refine e_block ?_ | refine e_then_ret ?_ | refine e_block_ret ?_ | refine e_then_exit ?_ | refine e_block_here ?_ | refine e_then_panic ?_ | refine e_block_panic ?_) | refine e_block_on rfl ?_))
    refine wp_ret ?_; (repeat (first | (with_reducible first | refine e_then ?_ | refine e_block ?_ | refine e_then_ret ?_ | refine e_block_ret ?_ | refine e_then_exit ?_ | refine e_block_here ?_ | refine e_then_panic ?_ | refine e_block_panic ?_) | refine e_block_on rfl ?_))
    refine r_1 (v := _) rfl rfl ?_
    exact ⟨v', rfl, hv', H⟩
-- »clone
end
end Go.Wire
