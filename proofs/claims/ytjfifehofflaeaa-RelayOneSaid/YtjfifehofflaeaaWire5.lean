/-
  The program's writer.
-/
import Derived.Test.YtjfifehofflaeaaWire4
import Derived.Test.YtjfifehofflaeaaSpec4
namespace Go.Wire
open Go.RowKit Go.Eng Go.Proofs
set_option linter.unusedSimpArgs false
set_option linter.unusedVariables false
attribute [local irreducible] wpList wpQuiet wpStill wpMix wpMixE

abbrev rowB (w0 : World) (A : Option Addr) (c : Nat) (b : By) : Ent := Ent.row w0.heap.size 5 1 (.slice A b.length c) b.length (b.map bv)
/-- a writer: its field, its bytes -/
abbrev wtr (w0 : World) (g : Nat) (A : Option Addr) (c : Nat) (b : By) (R : List Ent) : List Ent := Ent.blk g 177 [.slice A b.length c] :: rowB w0 A c b :: R
theorem rowB_of {w0 w : World} {L : List Ent} {A : Option Addr} {c n : Nat} {b : By} (hn : n = b.length) (H : Heap w0 (Ent.row w0.heap.size 5 1 (.slice A n c) n (b.map bv) :: L) w) : Heap w0 (rowB w0 A c b :: L) w := by
  subst hn; exact H

section
variable {w0 w : World} {R : List Ent} {g : Nat} {A : Option Addr} {c : Nat} {b : By}
-- «digits»
theorem digits_calls {x : Nat} (hx : x < 2 ^ 64) (hc : b.length ≤ c) (H : Heap w0 (rowB w0 A c b :: R) w) (hbound : b.length + (digS x).length ≤ 140737488355328) :
    Calls Try.prog 116 #[.slice A b.length c, .int .u64 (x : Nat)] w fun e w' => ∃ A' c', e = .returned (.slice A' (b ++ digS x).length c') ∧ (b ++ digS x).length ≤ c' ∧ Heap w0 (rowB w0 A' c' (b ++ digS x) :: R) w' := by
  refine c_enter (xa := [.slice A b.length c, .int .u64 (x : Nat)]) 20 Try.func116 rfl rfl rfl ?_
  obtain ⟨y, hy⟩ : ∃ y, y = b ++ digS x := ⟨_, rfl⟩
  have hyb : y.length ≤ 140737488355328 := by rw [hy, List.length_append]; exact hbound
  rw [← hy]
  refine wp_seq ?_
  -- R0
  refine c_region ?_
  refine L1 rfl rfl H (y_assign (v := (.slice _ _ _)) rfl rfl) ?_
  refine e_list ?_; (repeat (first | (with_reducible first | refine e_then ?_ | refine e_block ?_ | refine e_then_ret ?_ | refine e_block_ret ?_ | refine e_then_exit ?_ | refine e_block_here ?_ | refine e_then_panic ?_ | refine e_block_panic ?_) | refine e_block_on rfl ?_))
  refine wp_seq ?_
  refine wp_block ?_   -- block 0
  refine c_loop (ι := Nat × By × Option Addr × Nat) (fun (x, b, A, c) f w => (∃ gx, f = ov [(0, .slice A b.length c), (1, .int .u64 (x : Nat))] gx) ∧ Heap w0 (rowB w0 A c b :: R) w ∧ x < 2 ^ 64 ∧ b.length ≤ c ∧ b ++ digS x = y) (fun (x, b, A, c) => x) (x, b, A, c) ?_ ?_
  · exact ⟨ov_ex _ ⟨rfl, rfl, trivial⟩, H, hx, hc, hy.symm⟩
  rintro ⟨x, b, A, c⟩ f w ⟨⟨gg, rfl⟩, H, hx, hc, hq⟩
  have hbl : b.length + (digS x).length = y.length := by rw [← hq, List.length_append]
  have hdp := digS_pos x
  refine wp_seq ?_
  refine wp_seq ?_
  -- R1
  refine c_region ?_
  refine L1 rfl rfl H (y_move (v := (.int .u64 _)) rfl rfl) ?_
  refine L1 rfl rfl H (y_geq rfl rfl rfl) ?_
  refine e_list ?_; (repeat (first | (with_reducible first | refine e_then ?_ | refine e_block ?_ | refine e_then_ret ?_ | refine e_block_ret ?_ | refine e_then_exit ?_ | refine e_block_here ?_ | refine e_then_panic ?_ | refine e_block_panic ?_) | refine e_block_on rfl ?_))
  refine c_if rfl (fun h0 => ?_) (fun h0 => ?_)   -- if 0
  · skip
    have hge : ¬ x < 128 := by omega
    have hq' : (b ++ [UInt8.ofNat (x % 128 + 128)]) ++ digS (x / 128) = y := by rw [← hq, digS_ge hge, List.append_assoc]; rfl
    refine wp_skip ?_; (repeat (first | (with_reducible first | refine e_then ?_ | refine e_block ?_ | refine e_then_ret ?_ | refine e_block_ret ?_ | refine e_then_exit ?_ | refine e_block_here ?_ | refine e_then_panic ?_ | refine e_block_panic ?_) | refine e_block_on rfl ?_))
    refine wp_block ?_   -- block 1
    refine wp_seq ?_
    -- R2
    refine c_region ?_
    refine L1 rfl rfl H (y_move (v := (.slice _ _ _)) rfl rfl) ?_
    refine L1 rfl rfl H (y_move (v := (.int .u64 _)) rfl rfl) ?_
    refine L1 rfl rfl H (y_conv rfl rfl Try.underlying86 Try.underlying5 (Dig.u8_ofNat _)) ?_
    refine L1 rfl rfl H (y_or rfl rfl rfl (or128 x)) ?_
    refine LbuildSlice1 (v := (.int .u8 _)) rfl rfl rfl rfl H Try.underlying22 Try.sizeOf5 Try.zeroValue5 rfl rfl ?_; intro b11 w H
    refine Lapp1 0 rfl rfl rfl rfl rfl H rfl Try.underlying22 Try.underlying22 (i := Try.t5) (by kernel_rfl) (z := .int .u8 0) rfl rfl rfl rfl (by show (_ + 1) * 1 ≤ _; omega) (by simp only [maxLen]; omega) ?_
    intro A c w hc H
    replace H : Heap w0 (Ent.row w0.heap.size 5 1 (.slice A (b.length + 1) c) (b.length + 1) (b.map bv ++ [bv (UInt8.ofNat (x % 128 + 128))]) :: R) w := H
    rw [show b.map bv ++ [bv (UInt8.ofNat (x % 128 + 128))] = (b ++ [UInt8.ofNat (x % 128 + 128)]).map bv from by rw [List.map_append]; rfl] at H
    replace H := rowB_of (by rw [List.length_append]; rfl) H
    refine L1 rfl rfl H (y_assign (v := (.slice _ _ _)) rfl rfl) ?_
    refine e_list ?_; (repeat (first | (with_reducible first | refine e_then ?_ | refine e_block ?_ | refine e_then_ret ?_ | refine e_block_ret ?_ | refine e_then_exit ?_ | refine e_block_here ?_ | refine e_then_panic ?_ | refine e_block_panic ?_) | refine e_block_on rfl ?_))
    -- R3
    refine c_region ?_
    refine L1 rfl rfl H (y_move (v := (.int .u64 _)) rfl rfl) ?_
    refine L1 rfl rfl H (y_shr (r := ((x / 128 : Nat) : Int)) rfl rfl rfl (by omega) (shr7 x)) ?_
    refine L1 rfl rfl H (y_assign (v := (.int .u64 _)) rfl rfl) ?_
    refine e_list ?_; (repeat (first | (with_reducible first | refine e_then ?_ | refine e_block ?_ | refine e_then_ret ?_ | refine e_block_ret ?_ | refine e_then_exit ?_ | refine e_block_here ?_ | refine e_then_panic ?_ | refine e_block_panic ?_) | refine e_block_on rfl ?_))
    exact ⟨(x / 128, b ++ [UInt8.ofNat (x % 128 + 128)], A, c), _, rfl, ⟨ov_ex _ ⟨by rw [List.length_append]; rfl, rfl, trivial⟩, H, by omega, by rw [List.length_append]; exact hc, hq'⟩, by show x / 128 < x; omega⟩
  · skip
    have hlt : x < 128 := by omega
    rw [digS_lt hlt] at hq
    refine wp_exit ?_; (repeat (first | (with_reducible first | refine e_then ?_ | refine e_block ?_ | refine e_then_ret ?_ | refine e_block_ret ?_ | refine e_then_exit ?_ | refine e_block_here ?_ | refine e_then_panic ?_ | refine e_block_panic ?_) | refine e_block_on rfl ?_))
    refine wp_seq ?_
    -- R4
    refine c_region ?_
    refine L1 rfl rfl H (y_move (v := (.slice _ _ _)) rfl rfl) ?_
    refine L1 rfl rfl H (y_move (v := (.int .u64 _)) rfl rfl) ?_
    refine L1 rfl rfl H (y_conv rfl rfl Try.underlying86 Try.underlying5 (Dig.u8_ofNat _)) ?_
    refine LbuildSlice1 (v := (.int .u8 _)) rfl rfl rfl rfl H Try.underlying22 Try.sizeOf5 Try.zeroValue5 rfl rfl ?_; intro b18 w H
    refine Lapp1 0 rfl rfl rfl rfl rfl H rfl Try.underlying22 Try.underlying22 (i := Try.t5) (by kernel_rfl) (z := .int .u8 0) rfl rfl rfl rfl (by show (_ + 1) * 1 ≤ _; omega) (by simp only [maxLen]; omega) ?_
    intro A c w hc H
    replace H : Heap w0 (Ent.row w0.heap.size 5 1 (.slice A (b.length + 1) c) (b.length + 1) (b.map bv ++ [bv (UInt8.ofNat x)]) :: R) w := H
    rw [show b.map bv ++ [bv (UInt8.ofNat x)] = (b ++ [UInt8.ofNat x]).map bv from by rw [List.map_append]; rfl] at H
    replace H := rowB_of (by rw [List.length_append]; rfl) H
    refine L1 rfl rfl H (y_assign (v := (.slice _ _ _)) rfl rfl) ?_
    refine e_list ?_; (repeat (first | (with_reducible first | refine e_then ?_ | refine e_block ?_ | refine e_then_ret ?_ | refine e_block_ret ?_ | refine e_then_exit ?_ | refine e_block_here ?_ | refine e_then_panic ?_ | refine e_block_panic ?_) | refine e_block_on rfl ?_))
    refine wp_ret ?_; (repeat (first | (with_reducible first | refine e_then ?_ | refine e_block ?_ | refine e_then_ret ?_ | refine e_block_ret ?_ | refine e_then_exit ?_ | refine e_block_here ?_ | refine e_then_panic ?_ | refine e_block_panic ?_) | refine e_block_on rfl ?_))
    refine r_1 (v := (.slice _ _ _)) rfl rfl ?_
    rw [← hq]
    refine ⟨A, c, by rw [List.length_append]; rfl, by rw [List.length_append]; exact hc, H⟩
-- »digits
-- «bytesOf»
theorem bytesOf_calls {x : Nat} (hx : x < 2 ^ 64) (hc : b.length ≤ c) (H : Heap w0 (rowB w0 A c b :: R) w) (hbound : b.length + 8 ≤ 140737488355328) :
    Calls Try.prog 120 #[.slice A b.length c, .int .u64 (x : Nat), .int .i64 8] w fun e w' => ∃ A' c', e = .returned (.slice A' (b ++ Dig.be8 x).length c') ∧ (b ++ Dig.be8 x).length ≤ c' ∧ Heap w0 (rowB w0 A' c' (b ++ Dig.be8 x) :: R) w' := by
  refine c_enter (xa := [.slice A b.length c, .int .u64 (x : Nat), .int .i64 8]) 23 Try.func120 rfl rfl rfl ?_
  refine wp_seq ?_
  -- R0
  refine c_region ?_
  refine L1 rfl rfl H (y_assign (v := (.slice _ _ _)) rfl rfl) ?_
  refine e_list ?_; (repeat (first | (with_reducible first | refine e_then ?_ | refine e_block ?_ | refine e_then_ret ?_ | refine e_block_ret ?_ | refine e_then_exit ?_ | refine e_block_here ?_ | refine e_then_panic ?_ | refine e_block_panic ?_) | refine e_block_on rfl ?_))
  refine wp_seq ?_
  refine wp_seq ?_
  -- R1
  refine c_region ?_
  refine L1 rfl rfl H (y_move (v := (.int .i64 _)) rfl rfl) ?_
  refine L1 rfl rfl H (y_sub rfl rfl rfl (by first | exact wr_i64 (by omega) (by omega) | rfl)) ?_
  refine L1 rfl rfl H (y_assign (v := (.int .i64 _)) rfl rfl) ?_
  refine e_list ?_; (repeat (first | (with_reducible first | refine e_then ?_ | refine e_block ?_ | refine e_then_ret ?_ | refine e_block_ret ?_ | refine e_then_exit ?_ | refine e_block_here ?_ | refine e_then_panic ?_ | refine e_block_panic ?_) | refine e_block_on rfl ?_))
  refine wp_block ?_   -- block 0
  refine c_loop (ι := Nat × Option Addr × Nat) (fun (j, A, c) f w => (∃ gx, f = ov [(0, .slice A (b.length + j) c), (1, .int .u64 (x : Nat)), (7, .int .i64 (7 - (j : Int)))] gx) ∧ Heap w0 (Ent.row w0.heap.size 5 1 (.slice A (b.length + j) c) (b.length + j) ((b ++ (Dig.be8 x).take j).map bv) :: R) w ∧ j ≤ 8 ∧ b.length + j ≤ c) (fun (j, A, c) => 8 - j) (0, A, c) ?_ ?_
  · exact ⟨ov_ex _ ⟨rfl, rfl, rfl, trivial⟩, (by rw [List.take_zero, List.append_nil]; exact H), by omega, by omega⟩
  rintro ⟨j, A, c⟩ f w ⟨⟨gg, rfl⟩, H, hj, hc⟩
  refine wp_seq ?_
  refine wp_seq ?_
  -- R2
  refine c_region ?_
  refine L1 rfl rfl H (y_move (v := (.int .i64 _)) rfl rfl) ?_
  refine L1 rfl rfl H (y_geq rfl rfl rfl) ?_
  refine e_list ?_; (repeat (first | (with_reducible first | refine e_then ?_ | refine e_block ?_ | refine e_then_ret ?_ | refine e_block_ret ?_ | refine e_then_exit ?_ | refine e_block_here ?_ | refine e_then_panic ?_ | refine e_block_panic ?_) | refine e_block_on rfl ?_))
  refine c_if rfl (fun h0 => ?_) (fun h0 => ?_)   -- if 0
  · skip
    have hj8 : j < 8 := by omega
    refine wp_skip ?_; (repeat (first | (with_reducible first | refine e_then ?_ | refine e_block ?_ | refine e_then_ret ?_ | refine e_block_ret ?_ | refine e_then_exit ?_ | refine e_block_here ?_ | refine e_then_panic ?_ | refine e_block_panic ?_) | refine e_block_on rfl ?_))
    refine wp_seq ?_
    refine wp_block ?_   -- block 1
    -- R4
    refine c_region ?_
    refine L1 rfl rfl H (y_move (v := (.slice _ _ _)) rfl rfl) ?_
    refine L1 rfl rfl H (y_move (v := (.int .u64 _)) rfl rfl) ?_
    refine L1 rfl rfl H (y_move (v := (.int .i64 _)) rfl rfl) ?_
    refine L1 rfl rfl H (y_mul (r := 56 - 8 * (j : Int)) rfl rfl rfl (by rw [wr_i64 (by omega) (by omega)]; omega)) ?_
    refine L1 rfl rfl H (y_shr (r := ((x / 256 ^ (7 - j) : Nat) : Int)) rfl rfl rfl (by omega) (Dig.shr_u64 x hj8)) ?_
    refine L1 rfl rfl H (y_conv rfl rfl Try.underlying86 Try.underlying5 (Dig.u8_ofNat _)) ?_
    refine LbuildSlice1 (v := (.int .u8 _)) rfl rfl rfl rfl H Try.underlying22 Try.sizeOf5 Try.zeroValue5 rfl rfl ?_; intro b20 w H
    refine Lapp1 0 rfl rfl rfl rfl rfl H rfl Try.underlying22 Try.underlying22 (i := Try.t5) (by kernel_rfl) (z := .int .u8 0) rfl rfl rfl rfl (by show (_ + 1) * 1 ≤ _; omega) (by simp only [maxLen]; omega) ?_
    intro A c w hc H
    replace H : Heap w0 (Ent.row w0.heap.size 5 1 (.slice A (b.length + j + 1) c) (b.length + j + 1) ((b ++ (Dig.be8 x).take j).map bv ++ [bv (UInt8.ofNat (x / 256 ^ (7 - j)))]) :: R) w := H
    rw [show (b ++ (Dig.be8 x).take j).map bv ++ [bv (UInt8.ofNat (x / 256 ^ (7 - j)))] = (b ++ (Dig.be8 x).take (j + 1)).map bv from by rw [Dig.be8_take hj8, ← List.append_assoc, List.map_append (l₂ := [_])]; rfl] at H
    refine L1 rfl rfl H (y_assign (v := (.slice _ _ _)) rfl rfl) ?_
    refine e_list ?_; (repeat (first | (with_reducible first | refine e_then ?_ | refine e_block ?_ | refine e_then_ret ?_ | refine e_block_ret ?_ | refine e_then_exit ?_ | refine e_block_here ?_ | refine e_then_panic ?_ | refine e_block_panic ?_) | refine e_block_on rfl ?_))
    -- R3
    refine c_region ?_
    refine L1 rfl rfl H (y_move (v := (.int .i64 _)) rfl rfl) ?_
    refine L1 rfl rfl H (y_sub (r := 7 - ((j + 1 : Nat) : Int)) rfl rfl rfl (by rw [wr_i64 (by omega) (by omega)]; omega)) ?_
    refine L1 rfl rfl H (y_assign (v := (.int .i64 _)) rfl rfl) ?_
    refine e_list ?_; (repeat (first | (with_reducible first | refine e_then ?_ | refine e_block ?_ | refine e_then_ret ?_ | refine e_block_ret ?_ | refine e_then_exit ?_ | refine e_block_here ?_ | refine e_then_panic ?_ | refine e_block_panic ?_) | refine e_block_on rfl ?_))
    exact ⟨(j + 1, A, c), _, rfl, ⟨ov_ex _ ⟨rfl, rfl, rfl, trivial⟩, H, by omega, by omega⟩, by show 8 - (j + 1) < 8 - j; omega⟩
  · skip
    have hj8 : j = 8 := by omega
    subst hj8
    rw [List.take_of_length_le (by rw [Dig.be8_length]; exact Nat.le_refl _)] at H
    refine wp_exit ?_; (repeat (first | (with_reducible first | refine e_then ?_ | refine e_block ?_ | refine e_then_ret ?_ | refine e_block_ret ?_ | refine e_then_exit ?_ | refine e_block_here ?_ | refine e_then_panic ?_ | refine e_block_panic ?_) | refine e_block_on rfl ?_))
    refine wp_seq ?_
    -- R5
    refine c_region ?_
    refine L1 rfl rfl H (y_move (v := (.slice _ _ _)) rfl rfl) ?_
    refine L1 rfl rfl H (y_assign (v := (.slice _ _ _)) rfl rfl) ?_
    refine e_list ?_; (repeat (first | (with_reducible first | refine e_then ?_ | refine e_block ?_ | refine e_then_ret ?_ | refine e_block_ret ?_ | refine e_then_exit ?_ | refine e_block_here ?_ | refine e_then_panic ?_ | refine e_block_panic ?_) | refine e_block_on rfl ?_))
    refine wp_ret ?_; (repeat (first | (with_reducible first | refine e_then ?_ | refine e_block ?_ | refine e_then_ret ?_ | refine e_block_ret ?_ | refine e_then_exit ?_ | refine e_block_here ?_ | refine e_then_panic ?_ | refine e_block_panic ?_) | refine e_block_on rfl ?_))
    refine r_1 (v := (.slice _ _ _)) rfl rfl ?_
    have hl : b.length + 8 = (b ++ Dig.be8 x).length := by rw [List.length_append, Dig.be8_length]
    rw [hl] at H hc ⊢
    exact ⟨A, c, rfl, hc, H⟩
-- »bytesOf
-- «newWriter»
theorem newWriter_calls (H : Heap w0 R w) :
    Calls Try.prog 59 #[] w fun e w' => ∃ g, e = .returned (.pointer (some ⟨g, 0, none⟩)) ∧ Heap w0 (wtr w0 g none 0 [] R) w' := by
  refine c_enter (xa := []) 3 Try.func59 rfl rfl rfl ?_
  refine wp_seq ?_
  -- R0
  refine c_region ?_
  refine L1 rfl rfl H (y_assign (v := (.pointer _)) rfl rfl) ?_
  refine e_list ?_; (repeat (first | (with_reducible first | refine e_then ?_ | refine e_block ?_ | refine e_then_ret ?_ | refine e_block_ret ?_ | refine e_then_exit ?_ | refine e_block_here ?_ | refine e_then_panic ?_ | refine e_block_panic ?_) | refine e_block_on rfl ?_))
  refine wp_seq ?_
  -- R1
  refine c_region ?_
  refine L1 rfl rfl H (y_build (v := .agg #[.slice none 0 0]) rfl (vals := []) rfl (by intro w; simp [Instr.build, Instr.fill, go_sem] <;> rfl)) ?_
  replace H := H.row0 5 1
  refine Lbox rfl rfl rfl (z := .agg #[.slice none 0 0]) rfl H (cs := [.slice none 0 0]) rfl ?_; intro g w H
  refine L1 rfl rfl H (y_assign (v := (.pointer _)) rfl rfl) ?_
  refine e_list ?_; (repeat (first | (with_reducible first | refine e_then ?_ | refine e_block ?_ | refine e_then_ret ?_ | refine e_block_ret ?_ | refine e_then_exit ?_ | refine e_block_here ?_ | refine e_then_panic ?_ | refine e_block_panic ?_) | refine e_block_on rfl ?_))
  refine wp_ret ?_; (repeat (first | (with_reducible first | refine e_then ?_ | refine e_block ?_ | refine e_then_ret ?_ | refine e_block_ret ?_ | refine e_then_exit ?_ | refine e_block_here ?_ | refine e_then_panic ?_ | refine e_block_panic ?_) | refine e_block_on rfl ?_))
  refine r_1 (v := (.pointer _)) rfl rfl ?_
  exact ⟨g, rfl, H⟩
-- »newWriter
-- «uint»
theorem uint_calls {x : Nat} (hx : x < 2 ^ 64) (hc : b.length ≤ c) (H : Heap w0 (wtr w0 g A c b R) w) (hbound : b.length + (digS x).length ≤ 140737488355328) :
    Calls Try.prog 60 #[.pointer (some ⟨g, 0, none⟩), .int .u64 (x : Nat)] w fun e w' => ∃ A' c', e = .returned (.tuple #[]) ∧ (b ++ digS x).length ≤ c' ∧ Heap w0 (wtr w0 g A' c' (b ++ digS x) R) w' := by
  refine c_enter (xa := [.pointer (some ⟨g, 0, none⟩), .int .u64 (x : Nat)]) 13 Try.func60 rfl rfl rfl ?_
  -- R0
  refine c_region ?_
  refine L1 rfl rfl H (y_move (v := (.pointer _)) rfl rfl) ?_
  refine L1 rfl rfl H (y_move (v := (.pointer _)) rfl rfl) ?_
  refine L1 rfl rfl H (y_nilCheck rfl rfl) ?_
  refine L1 rfl rfl H (y_fieldAddr 0 rfl rfl Try.underlying177 rfl Try.sizeOf22 rfl) ?_
  refine L1 rfl rfl H (y_load (v := .slice A b.length c) rfl rfl Try.isAgg22 (cell_blk (k := 0) rfl rfl)) ?_
  refine L1 rfl rfl H (y_move (v := (.int .u64 _)) rfl rfl) ?_
  refine LfnP rfl rfl rfl (xa := [.slice A b.length c, .int .u64 (x : Nat)]) rfl Try.call116 ?_
  replace H := H.perm (L' := rowB w0 A c b :: Ent.blk g 177 [.slice A b.length c] :: R) (List.Perm.swap _ _ _)
  refine (digits_calls hx hc H hbound).mono ?_
  rintro e w ⟨A', c', rfl, hc', H⟩
  refine .inl ⟨_, rfl, ?_⟩
  replace H := H.perm (L' := Ent.blk g 177 [.slice A b.length c] :: rowB w0 A' c' (b ++ digS x) :: R) (List.Perm.swap _ _ _)
  refine L1 rfl rfl H (y_nilCheck rfl rfl) ?_
  refine L1 rfl rfl H (y_fieldAddr 0 rfl rfl Try.underlying177 rfl Try.sizeOf22 rfl) ?_
  refine Lset 0 0 rfl rfl rfl rfl (v := .slice A' (b ++ digS x).length c') rfl H rfl rfl Try.sizeOf22 rfl rfl Nat.one_pos ?_; intro w H
  refine e_list ?_; (repeat (first | (with_reducible first | refine e_then ?_ | refine e_block ?_ | refine e_then_ret ?_ | refine e_block_ret ?_ | refine e_then_exit ?_ | refine e_block_here ?_ | refine e_then_panic ?_ | refine e_block_panic ?_) | refine e_block_on rfl ?_))
  refine r_0n rfl ?_
  exact ⟨A', c', rfl, hc', H⟩
-- »uint
-- «word»
theorem word_calls {x : Nat} (hx : x < 2 ^ 64) (hc : b.length ≤ c) (H : Heap w0 (wtr w0 g A c b R) w) (hbound : b.length + 8 ≤ 140737488355328) :
    Calls Try.prog 65 #[.pointer (some ⟨g, 0, none⟩), .int .u64 (x : Nat)] w fun e w' => ∃ A' c', e = .returned (.tuple #[]) ∧ (b ++ Dig.be8 x).length ≤ c' ∧ Heap w0 (wtr w0 g A' c' (b ++ Dig.be8 x) R) w' := by
  refine c_enter (xa := [.pointer (some ⟨g, 0, none⟩), .int .u64 (x : Nat)]) 13 Try.func65 rfl rfl rfl ?_
  -- R0
  refine c_region ?_
  refine L1 rfl rfl H (y_move (v := (.pointer _)) rfl rfl) ?_
  refine L1 rfl rfl H (y_move (v := (.pointer _)) rfl rfl) ?_
  refine L1 rfl rfl H (y_nilCheck rfl rfl) ?_
  refine L1 rfl rfl H (y_fieldAddr 0 rfl rfl Try.underlying177 rfl Try.sizeOf22 rfl) ?_
  refine L1 rfl rfl H (y_load (v := .slice A b.length c) rfl rfl Try.isAgg22 (cell_blk (k := 0) rfl rfl)) ?_
  refine L1 rfl rfl H (y_move (v := (.int .u64 _)) rfl rfl) ?_
  refine LfnP rfl rfl rfl (xa := [.slice A b.length c, .int .u64 (x : Nat), .int .i64 8]) rfl Try.call120 ?_
  replace H := H.perm (L' := rowB w0 A c b :: Ent.blk g 177 [.slice A b.length c] :: R) (List.Perm.swap _ _ _)
  refine (bytesOf_calls hx hc H hbound).mono ?_
  rintro e w ⟨A', c', rfl, hc', H⟩
  refine .inl ⟨_, rfl, ?_⟩
  replace H := H.perm (L' := Ent.blk g 177 [.slice A b.length c] :: rowB w0 A' c' (b ++ Dig.be8 x) :: R) (List.Perm.swap _ _ _)
  refine L1 rfl rfl H (y_nilCheck rfl rfl) ?_
  refine L1 rfl rfl H (y_fieldAddr 0 rfl rfl Try.underlying177 rfl Try.sizeOf22 rfl) ?_
  refine Lset 0 0 rfl rfl rfl rfl (v := .slice A' (b ++ Dig.be8 x).length c') rfl H rfl rfl Try.sizeOf22 rfl rfl Nat.one_pos ?_; intro w H
  refine e_list ?_; (repeat (first | (with_reducible first | refine e_then ?_ | refine e_block ?_ | refine e_then_ret ?_ | refine e_block_ret ?_ | refine e_then_exit ?_ | refine e_block_here ?_ | refine e_then_panic ?_ | refine e_block_panic ?_) | refine e_block_on rfl ?_))
  refine r_0n rfl ?_
  exact ⟨A', c', rfl, hc', H⟩
-- »word
-- «raw»
theorem rawW_calls {m : By} {A2 : Option Addr} {c2 : Nat} (hc : b.length ≤ c) (H : Heap w0 (wtr w0 g A c b R) w) (hR : Rd w A2 (m.map bv)) (hbound : b.length + m.length ≤ 140737488355328) :
    Calls Try.prog 61 #[.pointer (some ⟨g, 0, none⟩), .slice A2 m.length c2] w fun e w' => ∃ A' c', e = .returned (.tuple #[]) ∧ (b ++ m).length ≤ c' ∧ Heap w0 (wtr w0 g A' c' (b ++ m) R) w' := by
  refine c_enter (xa := [.pointer (some ⟨g, 0, none⟩), .slice A2 m.length c2]) 13 Try.func61 rfl rfl rfl ?_
  -- R0
  refine c_region ?_
  refine L1 rfl rfl H (y_move (v := (.pointer _)) rfl rfl) ?_
  refine L1 rfl rfl H (y_move (v := (.pointer _)) rfl rfl) ?_
  refine L1 rfl rfl H (y_nilCheck rfl rfl) ?_
  refine L1 rfl rfl H (y_fieldAddr 0 rfl rfl Try.underlying177 rfl Try.sizeOf22 rfl) ?_
  refine L1 rfl rfl H (y_load (v := .slice A b.length c) rfl rfl Try.isAgg22 (cell_blk (k := 0) rfl rfl)) ?_
  refine L1 rfl rfl H (y_move (v := (.slice _ _ _)) rfl rfl) ?_
  refine LappR 1 rfl rfl rfl rfl rfl H rfl Try.underlying22 Try.underlying22 (i := Try.t5) (by kernel_rfl) (z := .int .u8 0) rfl rfl rfl (bv_one m) hR (by rw [List.length_map]) (by show (_ + _) * 1 ≤ _; omega) (by simp only [maxLen]; omega) ?_
  intro A' c' w hc' H
  replace H : Heap w0 (Ent.blk g 177 [.slice A b.length c] :: Ent.row w0.heap.size 5 1 (.slice A' (b.length + m.length) c') (b.length + m.length) (b.map bv ++ m.map bv) :: R) w := H
  rw [← List.map_append, ← List.length_append] at H
  rw [← List.length_append] at hc' ⊢
  refine L1 rfl rfl H (y_nilCheck rfl rfl) ?_
  refine L1 rfl rfl H (y_fieldAddr 0 rfl rfl Try.underlying177 rfl Try.sizeOf22 rfl) ?_
  refine Lset 0 0 rfl rfl rfl rfl (v := .slice A' (b ++ m).length c') rfl H rfl rfl Try.sizeOf22 rfl rfl Nat.one_pos ?_; intro w H
  refine e_list ?_; (repeat (first | (with_reducible first | refine e_then ?_ | refine e_block ?_ | refine e_then_ret ?_ | refine e_block_ret ?_ | refine e_then_exit ?_ | refine e_block_here ?_ | refine e_then_panic ?_ | refine e_block_panic ?_) | refine e_block_on rfl ?_))
  refine r_0n rfl ?_
  exact ⟨A', c', rfl, hc', H⟩
-- »raw
-- «text»
theorem byteCells_bv (m : By) : byteCells ⟨m.toArray⟩ = m.map bv := by
  simp [byteCells]
  intro a _
  rfl
theorem LappTm {P : Program} {w0 w : World} {L : List Ent} {ops : Array Oper} {Q : Exit → Act → World → Prop} {rest : List Oper} {n : Nat} {f : Nat → Value} {ds : List Deferred} {o : Oper} {d : Nat} {s x : Operand} {t tx e : TypeId} {i : TypeInfo} {z v : Value} {c : Nat} {m : By} {xs : List Value} (j : Nat) (hg : o.guard = none) (hd : o.dst = some d)
    (ho : o.op = .call { callee := .builtin .append, args := #[s, x], argTypes := #[t, tx] }) (hs : ev n f s = v) (hx : ev n f x = .string ⟨m.toArray⟩) (H : Heap w0 L w) (hk : L[j]? = some (Ent.row w0.heap.size e 1 v c xs))
    (ht : P.underlying t = some (.slice e)) (htx : P.underlying tx = some .string) (hi : P.info? e = some i) (hz : i.zero = some z) (hzs : z.cells.size = i.size) (hsz : i.size = 1)
    (hbytes : (c + m.length) * i.bytes ≤ 140737488355328) (h63 : c + m.length ≤ maxLen)
    (k : ∀ A cap w', c + m.length ≤ cap → Heap w0 (L.set j (Ent.row w0.heap.size e 1 (.slice A (c + m.length) cap) (c + m.length) (xs ++ m.map bv))) w' → wpList P ops Q rest (AA n (up f d (.slice A (c + m.length) cap)) ds) w') : wpList P ops Q (o :: rest) (AA n f ds) w :=
  LappT j hg hd ho hs hx H hk ht htx hi hz hzs hsz hbytes h63 (fun A cap w' h H' => k A cap w' h (by rw [byteCells_bv] at H'; exact H'))
theorem textW_calls {m : By} (hc : b.length ≤ c) (H : Heap w0 (wtr w0 g A c b R) w) (hbound : b.length + (digS m.length).length + m.length ≤ 140737488355328) :
    Calls Try.prog 62 #[.pointer (some ⟨g, 0, none⟩), .string ⟨m.toArray⟩] w fun e w' => ∃ A' c', e = .returned (.tuple #[]) ∧ ((b ++ digS m.length) ++ m).length ≤ c' ∧ Heap w0 (wtr w0 g A' c' ((b ++ digS m.length) ++ m) R) w' := by
  refine c_enter (xa := [.pointer (some ⟨g, 0, none⟩), .string ⟨m.toArray⟩]) 17 Try.func62 rfl rfl rfl ?_
  -- R0
  refine c_region ?_
  refine L1 rfl rfl H (y_move (v := (.pointer _)) rfl rfl) ?_
  refine L1 rfl rfl H (y_move (v := (.pointer _)) rfl rfl) ?_
  refine L1 rfl rfl H (y_nilCheck rfl rfl) ?_
  refine L1 rfl rfl H (y_fieldAddr 0 rfl rfl Try.underlying177 rfl Try.sizeOf22 rfl) ?_
  refine L1 rfl rfl H (y_load (v := .slice A b.length c) rfl rfl Try.isAgg22 (cell_blk (k := 0) rfl rfl)) ?_
  refine L1 rfl rfl H (y_move (v := (.string _)) rfl rfl) ?_
  refine L1 rfl rfl H (y_len_string rfl rfl Try.underlying9) ?_
  refine L1 rfl rfl H (y_conv (r := (m.length : Nat)) rfl rfl Try.underlying3 Try.underlying86 (wr_u64 (by show (0 : Int) ≤ (m.length : Int); omega) (by show (m.length : Int) ≤ _; omega))) ?_
  refine LfnP rfl rfl rfl (xa := [.slice A b.length c, .int .u64 (m.length : Nat)]) rfl Try.call116 ?_
  replace H := H.perm (L' := rowB w0 A c b :: Ent.blk g 177 [.slice A b.length c] :: R) (List.Perm.swap _ _ _)
  refine (digits_calls (by omega) hc H (by omega)).mono ?_
  rintro e w ⟨A', c', rfl, hc', H⟩
  refine .inl ⟨_, rfl, ?_⟩
  refine L1 rfl rfl H (y_move (v := (.string _)) rfl rfl) ?_
  refine LappTm 0 rfl rfl rfl rfl rfl H rfl Try.underlying22 Try.underlying9 (i := Try.t5) (by kernel_rfl) (z := .int .u8 0) rfl rfl rfl (by show (_ + _) * 1 ≤ _; rw [List.length_append]; omega) (by rw [List.length_append]; simp only [maxLen]; omega) ?_
  intro A' c' w hc' H
  replace H : Heap w0 (Ent.row w0.heap.size 5 1 (.slice A' ((b ++ digS m.length).length + m.length) c') ((b ++ digS m.length).length + m.length) ((b ++ digS m.length).map bv ++ m.map bv) :: Ent.blk g 177 [.slice A b.length c] :: R) w := H
  rw [← List.map_append, ← List.length_append] at H
  rw [← List.length_append] at hc' ⊢
  replace H := H.perm (L' := Ent.blk g 177 [.slice A b.length c] :: rowB w0 A' c' ((b ++ digS m.length) ++ m) :: R) (List.Perm.swap _ _ _)
  refine L1 rfl rfl H (y_nilCheck rfl rfl) ?_
  refine L1 rfl rfl H (y_fieldAddr 0 rfl rfl Try.underlying177 rfl Try.sizeOf22 rfl) ?_
  refine Lset 0 0 rfl rfl rfl rfl (v := .slice A' ((b ++ digS m.length) ++ m).length c') rfl H rfl rfl Try.sizeOf22 rfl rfl Nat.one_pos ?_; intro w H
  refine e_list ?_; (repeat (first | (with_reducible first | refine e_then ?_ | refine e_block ?_ | refine e_then_ret ?_ | refine e_block_ret ?_ | refine e_then_exit ?_ | refine e_block_here ?_ | refine e_then_panic ?_ | refine e_block_panic ?_) | refine e_block_on rfl ?_))
  refine r_0n rfl ?_
  exact ⟨A', c', rfl, hc', H⟩
-- »text
-- «done»
theorem done_calls (H : Heap w0 (wtr w0 g A c b R) w) (hb : b.length ≤ 140737488355328) :
    Calls Try.prog 64 #[.pointer (some ⟨g, 0, none⟩)] w fun e w' => ∃ A' c', e = .returned (.slice A' b.length c') ∧ b.length ≤ c' ∧ Heap w0 (rowB w0 A' c' b :: wtr w0 g A c b R) w' := by
  refine c_enter (xa := [.pointer (some ⟨g, 0, none⟩)]) 8 Try.func64 rfl rfl rfl ?_
  refine wp_seq ?_
  -- R0
  refine c_region ?_
  refine L1 rfl rfl H (y_assign (v := (.slice _ _ _)) rfl rfl) ?_
  refine e_list ?_; (repeat (first | (with_reducible first | refine e_then ?_ | refine e_block ?_ | refine e_then_ret ?_ | refine e_block_ret ?_ | refine e_then_exit ?_ | refine e_block_here ?_ | refine e_then_panic ?_ | refine e_block_panic ?_) | refine e_block_on rfl ?_))
  refine wp_seq ?_
  -- R1
  refine c_region ?_
  refine L1 rfl rfl H (y_move (v := (.pointer _)) rfl rfl) ?_
  refine L1 rfl rfl H (y_nilCheck rfl rfl) ?_
  refine L1 rfl rfl H (y_fieldAddr 0 rfl rfl Try.underlying177 rfl Try.sizeOf22 rfl) ?_
  refine L1 rfl rfl H (y_load (v := .slice A b.length c) rfl rfl Try.isAgg22 (cell_blk (k := 0) rfl rfl)) ?_
  refine Lfn rfl rfl rfl (xa := [.slice A b.length c]) rfl Try.call105 ?_   -- slices.Clone[[]byte,byte]
  refine (clone_calls (cap := c) (rd_row (H.get 1 rfl)) (by rw [List.length_map]) (bv_one b) hb).mono ?_
  rintro e w' ⟨v, rfl, -, K⟩
  replace H := H.app_row K
  clear K
  obtain ⟨A', c', rfl, hc'⟩ := row_form (H.get 0 rfl)
  refine ⟨_, rfl, ?_⟩
  refine L1 rfl rfl H (y_assign (v := (.slice _ _ _)) rfl rfl) ?_
  refine e_list ?_; (repeat (first | (with_reducible first | refine e_then ?_ | refine e_block ?_ | refine e_then_ret ?_ | refine e_block_ret ?_ | refine e_then_exit ?_ | refine e_block_here ?_ | refine e_then_panic ?_ | refine e_block_panic ?_) | refine e_block_on rfl ?_))
  refine wp_ret ?_; (repeat (first | (with_reducible first | refine e_then ?_ | refine e_block ?_ | refine e_then_ret ?_ | refine e_block_ret ?_ | refine e_then_exit ?_ | refine e_block_here ?_ | refine e_then_panic ?_ | refine e_block_panic ?_) | refine e_block_on rfl ?_))
  refine r_1 (v := (.slice _ _ _)) rfl rfl ?_
  exact ⟨A', c', rfl, hc', H⟩
-- »done
end
end Go.Wire
