/-
  The document's answer: a parcel.
-/
import Derived.Test.YtjfifehofflaeaaRef1
namespace Go.Ref
open Go.RowKit Go.Eng Go.Proofs Go.Wire Go.Relay
set_option linter.unusedSimpArgs false
set_option linter.unusedVariables false
attribute [local irreducible] wpList wpQuiet wpStill wpMix wpMixE

theorem getD_drop {b : By} {p i : Nat} : b.getD (p + i) 0 = (b.drop p).getD i 0 := by
  rw [List.getD_eq_getElem?_getD, List.getD_eq_getElem?_getD, List.getElem?_drop]
section
variable {w0 w : World} {R : List Ent} {g : Nat} {A : Option Addr} {cap : Nat} {b : By}
-- «total»
theorem total_calls {A0 : Option Addr} {c0 p : Nat} (hR : Rd w0 A0 (b.map bv)) (hb : b.length ≤ 140737488355328) (hp : p ≤ b.length) :
    Calls Try.prog 50 #[.slice A0 b.length c0, .int .i64 (p : Nat)] w0 fun e w' => e = .returned (.int .u64 (sumN (b.drop p) : Nat)) ∧ Heap w0 [] w' := by
  refine c_enter (xa := [.slice A0 b.length c0, .int .i64 (p : Nat)]) 22 Try.func50 rfl rfl rfl ?_
  have H := Heap.init w0
  refine wp_seq ?_
  -- R0
  refine c_region ?_
  refine L1 rfl rfl H (y_assign (v := (.int .u64 _)) rfl rfl) ?_
  refine e_list ?_; (repeat (first | (with_reducible first | refine e_then ?_ | refine e_block ?_ | refine e_then_ret ?_ | refine e_block_ret ?_ | refine e_then_exit ?_ | refine e_block_here ?_ | refine e_then_panic ?_ | refine e_block_panic ?_) | refine e_block_on rfl ?_))
  refine wp_seq ?_
  -- R1
  refine c_region ?_
  refine L1 rfl rfl H (y_assign (v := (.int .u64 _)) rfl rfl) ?_
  refine e_list ?_; (repeat (first | (with_reducible first | refine e_then ?_ | refine e_block ?_ | refine e_then_ret ?_ | refine e_block_ret ?_ | refine e_then_exit ?_ | refine e_block_here ?_ | refine e_then_panic ?_ | refine e_block_panic ?_) | refine e_block_on rfl ?_))
  refine wp_seq ?_
  refine wp_seq ?_
  -- R2
  refine c_region ?_
  refine L1 rfl rfl H (y_move (v := (.int .i64 _)) rfl rfl) ?_
  refine L1 rfl rfl H (y_assign (v := (.int .i64 _)) rfl rfl) ?_
  refine e_list ?_; (repeat (first | (with_reducible first | refine e_then ?_ | refine e_block ?_ | refine e_then_ret ?_ | refine e_block_ret ?_ | refine e_then_exit ?_ | refine e_block_here ?_ | refine e_then_panic ?_ | refine e_block_panic ?_) | refine e_block_on rfl ?_))
  refine wp_block ?_   -- block 0
  refine c_loop (ι := Nat) (fun i f w => (∃ gx, f = ov [(0, .slice A0 b.length c0), (5, .int .u64 (sumN ((b.drop p).take i) : Nat)), (6, .int .i64 ((p + i : Nat) : Int))] gx) ∧ Heap w0 ([]) w ∧ p + i ≤ b.length) (fun i => b.length - i) 0 ?_ ?_
  · exact ⟨ov_ex _ ⟨rfl, rfl, rfl, trivial⟩, H, by omega⟩
  rintro i f w ⟨⟨gg, rfl⟩, H, hi⟩
  have hsl : sumN ((b.drop p).take i) ≤ 255 * i := Nat.le_trans (sumN_le _) (by rw [List.length_take]; omega)
  refine wp_seq ?_
  refine wp_seq ?_
  -- R3
  refine c_region ?_
  refine L1 rfl rfl H (y_move (v := (.int .i64 _)) rfl rfl) ?_
  refine L1 rfl rfl H (y_move (v := (.slice _ _ _)) rfl rfl) ?_
  refine L1 rfl rfl H (y_len_slice rfl rfl Try.underlying22) ?_
  refine L1 rfl rfl H (y_lss rfl rfl rfl) ?_
  refine e_list ?_; (repeat (first | (with_reducible first | refine e_then ?_ | refine e_block ?_ | refine e_then_ret ?_ | refine e_block_ret ?_ | refine e_then_exit ?_ | refine e_block_here ?_ | refine e_then_panic ?_ | refine e_block_panic ?_) | refine e_block_on rfl ?_))
  refine c_if rfl (fun h0 => ?_) (fun h0 => ?_)   -- if 0
  · skip
    have hib : p + i < b.length := by omega
    refine wp_skip ?_; (repeat (first | (with_reducible first | refine e_then ?_ | refine e_block ?_ | refine e_then_ret ?_ | refine e_block_ret ?_ | refine e_then_exit ?_ | refine e_block_here ?_ | refine e_then_panic ?_ | refine e_block_panic ?_) | refine e_block_on rfl ?_))
    refine wp_seq ?_
    refine wp_block ?_   -- block 1
    -- R5
    refine c_region ?_
    refine L1 rfl rfl H (y_move (v := (.int .u64 _)) rfl rfl) ?_
    refine L1 rfl rfl H (y_move (v := (.slice _ _ _)) rfl rfl) ?_
    refine L1 rfl rfl H (y_move (v := (.int .i64 _)) rfl rfl) ?_
    obtain ⟨a0, rfl, _⟩ := hR.some (j := p + i) (by rw [List.length_map]; omega)
    refine L1 rfl rfl H (y_indexSl rfl rfl rfl Try.underlying22 Try.sizeOf5 (by omega) (by omega)) ?_
    refine L1 rfl rfl H (y_load (v := bv ((b.drop p).getD i 0)) rfl rfl Try.isAgg5 (by rw [← getD_drop]; exact Dig.rd_get hR hib)) ?_
    refine L1 rfl rfl H (y_conv (r := (((b.drop p).getD i 0).toNat : Nat)) rfl rfl Try.underlying5 Try.underlying86 (wr_u64 (by omega) (by have := ((b.drop p).getD i 0).toNat_lt; omega))) ?_
    refine L1 rfl rfl H (y_add (r := (sumN ((b.drop p).take (i + 1)) : Nat)) rfl rfl rfl (by have := ((b.drop p).getD i 0).toNat_lt; rw [sumN_take (by rw [List.length_drop]; omega), wr_u64 (by omega) (by omega)]; omega)) ?_
    refine L1 rfl rfl H (y_assign (v := (.int .u64 _)) rfl rfl) ?_
    refine e_list ?_; (repeat (first | (with_reducible first | refine e_then ?_ | refine e_block ?_ | refine e_then_ret ?_ | refine e_block_ret ?_ | refine e_then_exit ?_ | refine e_block_here ?_ | refine e_then_panic ?_ | refine e_block_panic ?_) | refine e_block_on rfl ?_))
    -- R4
    refine c_region ?_
    refine L1 rfl rfl H (y_move (v := (.int .i64 _)) rfl rfl) ?_
    refine L1 rfl rfl H (y_add (r := ((p + (i + 1) : Nat) : Int)) rfl rfl rfl (by rw [wr_i64 (by omega) (by omega)]; omega)) ?_
    refine L1 rfl rfl H (y_assign (v := (.int .i64 _)) rfl rfl) ?_
    refine e_list ?_; (repeat (first | (with_reducible first | refine e_then ?_ | refine e_block ?_ | refine e_then_ret ?_ | refine e_block_ret ?_ | refine e_then_exit ?_ | refine e_block_here ?_ | refine e_then_panic ?_ | refine e_block_panic ?_) | refine e_block_on rfl ?_))
    exact ⟨i + 1, _, rfl, ⟨ov_ex _ ⟨rfl, rfl, rfl, trivial⟩, H, by omega⟩, by omega⟩
  · skip
    have hie : (b.drop p).take i = b.drop p := List.take_of_length_le (by rw [List.length_drop]; omega)
    refine wp_exit ?_; (repeat (first | (with_reducible first | refine e_then ?_ | refine e_block ?_ | refine e_then_ret ?_ | refine e_block_ret ?_ | refine e_then_exit ?_ | refine e_block_here ?_ | refine e_then_panic ?_ | refine e_block_panic ?_) | refine e_block_on rfl ?_))
    refine wp_seq ?_
    -- R6
    refine c_region ?_
    refine L1 rfl rfl H (y_move (v := (.int .u64 _)) rfl rfl) ?_
    refine L1 rfl rfl H (y_assign (v := (.int .u64 _)) rfl rfl) ?_
    refine e_list ?_; (repeat (first | (with_reducible first | refine e_then ?_ | refine e_block ?_ | refine e_then_ret ?_ | refine e_block_ret ?_ | refine e_then_exit ?_ | refine e_block_here ?_ | refine e_then_panic ?_ | refine e_block_panic ?_) | refine e_block_on rfl ?_))
    refine wp_ret ?_; (repeat (first | (with_reducible first | refine e_then ?_ | refine e_block ?_ | refine e_then_ret ?_ | refine e_block_ret ?_ | refine e_then_exit ?_ | refine e_block_here ?_ | refine e_then_panic ?_ | refine e_block_panic ?_) | refine e_block_on rfl ?_))
    refine r_1 (v := (.int .u64 _)) rfl rfl ?_
    rw [hie]
    exact ⟨rfl, H⟩
-- »total
-- «behind»
theorem behind_calls {A0 : Option Addr} {c0 p : Nat} (hR : Rd w0 A0 (b.map bv)) (hb : b.length ≤ 140737488355328) (hp : p ≤ b.length) :
    Calls Try.prog 97 #[.slice A0 b.length c0, .int .i64 (p : Nat)] w0 fun e w' => ∃ A c, e = .returned (.slice A (b.drop p).length c) ∧ (b.drop p).length ≤ c ∧ Heap w0 [rowB w0 A c (b.drop p)] w' := by
  refine c_enter (xa := [.slice A0 b.length c0, .int .i64 (p : Nat)]) 22 Try.func97 rfl rfl rfl ?_
  have H := (Heap.init w0).row0 5 1
  refine wp_seq ?_
  -- R0
  refine c_region ?_
  refine L1 rfl rfl H (y_assign (v := (.slice _ _ _)) rfl rfl) ?_
  refine e_list ?_; (repeat (first | (with_reducible first | refine e_then ?_ | refine e_block ?_ | refine e_then_ret ?_ | refine e_block_ret ?_ | refine e_then_exit ?_ | refine e_block_here ?_ | refine e_then_panic ?_ | refine e_block_panic ?_) | refine e_block_on rfl ?_))
  refine wp_seq ?_
  -- R1
  refine c_region ?_
  refine L1 rfl rfl H (y_assign (v := (.slice _ _ _)) rfl rfl) ?_
  refine e_list ?_; (repeat (first | (with_reducible first | refine e_then ?_ | refine e_block ?_ | refine e_then_ret ?_ | refine e_block_ret ?_ | refine e_then_exit ?_ | refine e_block_here ?_ | refine e_then_panic ?_ | refine e_block_panic ?_) | refine e_block_on rfl ?_))
  refine wp_seq ?_
  refine wp_seq ?_
  -- R2
  refine c_region ?_
  refine L1 rfl rfl H (y_move (v := (.int .i64 _)) rfl rfl) ?_
  refine L1 rfl rfl H (y_assign (v := (.int .i64 _)) rfl rfl) ?_
  refine e_list ?_; (repeat (first | (with_reducible first | refine e_then ?_ | refine e_block ?_ | refine e_then_ret ?_ | refine e_block_ret ?_ | refine e_then_exit ?_ | refine e_block_here ?_ | refine e_then_panic ?_ | refine e_block_panic ?_) | refine e_block_on rfl ?_))
  refine wp_block ?_   -- block 0
  refine c_loop (ι := Nat × Option Addr × Nat) (fun (i, A, c) f w => (∃ gx, f = ov [(0, .slice A0 b.length c0), (5, .slice A i c), (6, .int .i64 ((p + i : Nat) : Int))] gx) ∧ Heap w0 ([Ent.row w0.heap.size 5 1 (.slice A i c) i (((b.drop p).take i).map bv)]) w ∧ p + i ≤ b.length ∧ i ≤ c) (fun (i, A, c) => b.length - i) (0, none, 0) ?_ ?_
  · exact ⟨ov_ex _ ⟨rfl, rfl, rfl, trivial⟩, H, by omega, by omega⟩
  rintro ⟨i, A, c⟩ f w ⟨⟨gg, rfl⟩, H, hi, hic⟩
  refine wp_seq ?_
  refine wp_seq ?_
  -- R3
  refine c_region ?_
  refine L1 rfl rfl H (y_move (v := (.int .i64 _)) rfl rfl) ?_
  refine L1 rfl rfl H (y_move (v := (.slice _ _ _)) rfl rfl) ?_
  refine L1 rfl rfl H (y_len_slice rfl rfl Try.underlying22) ?_
  refine L1 rfl rfl H (y_lss rfl rfl rfl) ?_
  refine e_list ?_; (repeat (first | (with_reducible first | refine e_then ?_ | refine e_block ?_ | refine e_then_ret ?_ | refine e_block_ret ?_ | refine e_then_exit ?_ | refine e_block_here ?_ | refine e_then_panic ?_ | refine e_block_panic ?_) | refine e_block_on rfl ?_))
  refine c_if rfl (fun h0 => ?_) (fun h0 => ?_)   -- if 0
  · skip
    have hib : p + i < b.length := by omega
    refine wp_skip ?_; (repeat (first | (with_reducible first | refine e_then ?_ | refine e_block ?_ | refine e_then_ret ?_ | refine e_block_ret ?_ | refine e_then_exit ?_ | refine e_block_here ?_ | refine e_then_panic ?_ | refine e_block_panic ?_) | refine e_block_on rfl ?_))
    refine wp_seq ?_
    refine wp_block ?_   -- block 1
    -- R5
    refine c_region ?_
    refine L1 rfl rfl H (y_move (v := (.slice _ _ _)) rfl rfl) ?_
    refine L1 rfl rfl H (y_move (v := (.slice _ _ _)) rfl rfl) ?_
    refine L1 rfl rfl H (y_move (v := (.int .i64 _)) rfl rfl) ?_
    obtain ⟨a0, rfl, _⟩ := hR.some (j := p + i) (by rw [List.length_map]; omega)
    refine L1 rfl rfl H (y_indexSl rfl rfl rfl Try.underlying22 Try.sizeOf5 (by omega) (by omega)) ?_
    refine L1 rfl rfl H (y_load (v := bv ((b.drop p).getD i 0)) rfl rfl Try.isAgg5 (by rw [← getD_drop]; exact Dig.rd_get hR hib)) ?_
    refine LbuildSlice1 (v := (.int .u8 _)) rfl rfl rfl rfl H Try.underlying22 Try.sizeOf5 Try.zeroValue5 rfl rfl ?_; intro b19 w H
    refine Lapp1 0 rfl rfl rfl rfl rfl H rfl Try.underlying22 Try.underlying22 (i := Try.t5) (by kernel_rfl) (z := .int .u8 0) rfl rfl rfl rfl (by show (_ + 1) * 1 ≤ _; omega) (by simp only [maxLen]; omega) ?_
    intro A c w hc H
    replace H : Heap w0 [Ent.row w0.heap.size 5 1 (.slice A (i + 1) c) (i + 1) (((b.drop p).take i).map bv ++ [bv ((b.drop p).getD i 0)])] w := H
    rw [Dig.take_bv (by rw [List.length_drop]; omega)] at H
    refine L1 rfl rfl H (y_assign (v := (.slice _ _ _)) rfl rfl) ?_
    refine e_list ?_; (repeat (first | (with_reducible first | refine e_then ?_ | refine e_block ?_ | refine e_then_ret ?_ | refine e_block_ret ?_ | refine e_then_exit ?_ | refine e_block_here ?_ | refine e_then_panic ?_ | refine e_block_panic ?_) | refine e_block_on rfl ?_))
    -- R4
    refine c_region ?_
    refine L1 rfl rfl H (y_move (v := (.int .i64 _)) rfl rfl) ?_
    refine L1 rfl rfl H (y_add (r := ((p + (i + 1) : Nat) : Int)) rfl rfl rfl (by rw [wr_i64 (by omega) (by omega)]; omega)) ?_
    refine L1 rfl rfl H (y_assign (v := (.int .i64 _)) rfl rfl) ?_
    refine e_list ?_; (repeat (first | (with_reducible first | refine e_then ?_ | refine e_block ?_ | refine e_then_ret ?_ | refine e_block_ret ?_ | refine e_then_exit ?_ | refine e_block_here ?_ | refine e_then_panic ?_ | refine e_block_panic ?_) | refine e_block_on rfl ?_))
    exact ⟨(i + 1, A, c), _, rfl, ⟨ov_ex _ ⟨rfl, rfl, rfl, trivial⟩, H, by omega, by omega⟩, by show b.length - (i + 1) < b.length - i; omega⟩
  · skip
    have hie : (b.drop p).take i = b.drop p := List.take_of_length_le (by rw [List.length_drop]; omega)
    have hil : i = (b.drop p).length := by rw [List.length_drop]; omega
    refine wp_exit ?_; (repeat (first | (with_reducible first | refine e_then ?_ | refine e_block ?_ | refine e_then_ret ?_ | refine e_block_ret ?_ | refine e_then_exit ?_ | refine e_block_here ?_ | refine e_then_panic ?_ | refine e_block_panic ?_) | refine e_block_on rfl ?_))
    refine wp_seq ?_
    -- R6
    refine c_region ?_
    refine L1 rfl rfl H (y_move (v := (.slice _ _ _)) rfl rfl) ?_
    refine L1 rfl rfl H (y_assign (v := (.slice _ _ _)) rfl rfl) ?_
    refine e_list ?_; (repeat (first | (with_reducible first | refine e_then ?_ | refine e_block ?_ | refine e_then_ret ?_ | refine e_block_ret ?_ | refine e_then_exit ?_ | refine e_block_here ?_ | refine e_then_panic ?_ | refine e_block_panic ?_) | refine e_block_on rfl ?_))
    refine wp_ret ?_; (repeat (first | (with_reducible first | refine e_then ?_ | refine e_block ?_ | refine e_then_ret ?_ | refine e_block_ret ?_ | refine e_then_exit ?_ | refine e_block_here ?_ | refine e_then_panic ?_ | refine e_block_panic ?_) | refine e_block_on rfl ?_))
    refine r_1 (v := (.slice _ _ _)) rfl rfl ?_
    rw [hie] at H
    rw [hil] at H hic ⊢
    exact ⟨A, c, rfl, hic, H⟩
-- »behind
-- «putWord»
theorem putWord_calls {x c : Nat} (hx : x < 2 ^ 64) (hc : b.length ≤ c) (H : Heap w0 (rowB w0 A c b :: R) w) (hbound : b.length + 8 ≤ 140737488355328) :
    Calls Try.prog 49 #[.slice A b.length c, .int .u64 (x : Nat)] w fun e w' => ∃ A' c', e = .returned (.slice A' (b ++ Dig.be8 x).length c') ∧ (b ++ Dig.be8 x).length ≤ c' ∧ Heap w0 (rowB w0 A' c' (b ++ Dig.be8 x) :: R) w' := by
  refine c_enter (xa := [.slice A b.length c, .int .u64 (x : Nat)]) 21 Try.func49 rfl rfl rfl ?_
  refine wp_seq ?_
  -- R0
  refine c_region ?_
  refine L1 rfl rfl H (y_assign (v := (.slice _ _ _)) rfl rfl) ?_
  refine e_list ?_; (repeat (first | (with_reducible first | refine e_then ?_ | refine e_block ?_ | refine e_then_ret ?_ | refine e_block_ret ?_ | refine e_then_exit ?_ | refine e_block_here ?_ | refine e_then_panic ?_ | refine e_block_panic ?_) | refine e_block_on rfl ?_))
  refine wp_seq ?_
  refine wp_seq ?_
  -- R1
  refine c_region ?_
  refine L1 rfl rfl H (y_assign (v := (.int .i64 _)) rfl rfl) ?_
  refine e_list ?_; (repeat (first | (with_reducible first | refine e_then ?_ | refine e_block ?_ | refine e_then_ret ?_ | refine e_block_ret ?_ | refine e_then_exit ?_ | refine e_block_here ?_ | refine e_then_panic ?_ | refine e_block_panic ?_) | refine e_block_on rfl ?_))
  refine wp_block ?_   -- block 0
  refine c_loop (ι := Nat × Option Addr × Nat) (fun (j, A, c) f w => (∃ gx, f = ov [(0, .slice A (b.length + j) c), (1, .int .u64 (x : Nat)), (5, .int .i64 (j : Nat))] gx) ∧ Heap w0 (Ent.row w0.heap.size 5 1 (.slice A (b.length + j) c) (b.length + j) ((b ++ (Dig.be8 x).take j).map bv) :: R) w ∧ j ≤ 8 ∧ b.length + j ≤ c) (fun (j, A, c) => 8 - j) (0, A, c) ?_ ?_
  · exact ⟨ov_ex _ ⟨rfl, rfl, rfl, trivial⟩, (by rw [List.take_zero, List.append_nil]; exact H), by omega, by omega⟩
  rintro ⟨j, A, c⟩ f w ⟨⟨gg, rfl⟩, H, hj, hc⟩
  refine wp_seq ?_
  refine wp_seq ?_
  -- R2
  refine c_region ?_
  refine L1 rfl rfl H (y_move (v := (.int .i64 _)) rfl rfl) ?_
  refine L1 rfl rfl H (y_lss rfl rfl rfl) ?_
  refine e_list ?_; (repeat (first | (with_reducible first | refine e_then ?_ | refine e_block ?_ | refine e_then_ret ?_ | refine e_block_ret ?_ | refine e_then_exit ?_ | refine e_block_here ?_ | refine e_then_panic ?_ | refine e_block_panic ?_) | refine e_block_on rfl ?_))
  refine c_if rfl (fun h0 => ?_) (fun h0 => ?_)   -- if 0
  · skip
    have hj8 : j < 8 := by omega
    refine wp_skip ?_; (repeat (first | (with_reducible first | refine e_then ?_ | refine e_block ?_ | refine e_then_ret ?_ | refine e_block_ret ?_ | refine e_then_exit ?_ | refine e_block_here ?_ | refine e_then_panic ?_ | refine e_block_panic ?_) | refine e_block_on rfl ?_))
    refine wp_seq ?_
    refine wp_block ?_   -- block 1
    -- R4
    refine c_region ?_
    refine L1 rfl rfl H (y_move (v := (.slice _ _ _)) rfl rfl) ?_
    refine L1 rfl rfl H (y_move (v := (.int .u64 _)) rfl rfl) ?_
    refine L1 rfl rfl H (y_move (v := (.int .i64 _)) rfl rfl) ?_
    refine L1 rfl rfl H (y_mul (r := 8 * (j : Int)) rfl rfl rfl (wr_i64 (by omega) (by omega))) ?_
    refine L1 rfl rfl H (y_sub (r := 56 - 8 * (j : Int)) rfl rfl rfl (wr_i64 (by omega) (by omega))) ?_
    refine L1 rfl rfl H (y_conv rfl rfl Try.underlying3 Try.underlying162 (by first | exact wr_u64 (by omega) (by omega) | rfl)) ?_
    refine L1 rfl rfl H (y_shr (r := ((x / 256 ^ (7 - j) : Nat) : Int)) rfl rfl rfl (by omega) (Dig.shr_u64 x hj8)) ?_
    refine L1 rfl rfl H (y_conv rfl rfl Try.underlying86 Try.underlying5 (Dig.u8_ofNat _)) ?_
    refine LbuildSlice1 (v := (.int .u8 _)) rfl rfl rfl rfl H Try.underlying22 Try.sizeOf5 Try.zeroValue5 rfl rfl ?_; intro b18 w H
    refine Lapp1 0 rfl rfl rfl rfl rfl H rfl Try.underlying22 Try.underlying22 (i := Try.t5) (by kernel_rfl) (z := .int .u8 0) rfl rfl rfl rfl (by show (_ + 1) * 1 ≤ _; omega) (by simp only [maxLen]; omega) ?_
    intro A c w hc H
    replace H : Heap w0 (Ent.row w0.heap.size 5 1 (.slice A (b.length + j + 1) c) (b.length + j + 1) ((b ++ (Dig.be8 x).take j).map bv ++ [bv (UInt8.ofNat (x / 256 ^ (7 - j)))]) :: R) w := H
    rw [show (b ++ (Dig.be8 x).take j).map bv ++ [bv (UInt8.ofNat (x / 256 ^ (7 - j)))] = (b ++ (Dig.be8 x).take (j + 1)).map bv from by rw [Dig.be8_take hj8, ← List.append_assoc, List.map_append (l₂ := [_])]; rfl] at H
    refine L1 rfl rfl H (y_assign (v := (.slice _ _ _)) rfl rfl) ?_
    refine e_list ?_; (repeat (first | (with_reducible first | refine e_then ?_ | refine e_block ?_ | refine e_then_ret ?_ | refine e_block_ret ?_ | refine e_then_exit ?_ | refine e_block_here ?_ | refine e_then_panic ?_ | refine e_block_panic ?_) | refine e_block_on rfl ?_))
    -- R3
    refine c_region ?_
    refine L1 rfl rfl H (y_move (v := (.int .i64 _)) rfl rfl) ?_
    refine L1 rfl rfl H (y_add (r := ((j + 1 : Nat) : Int)) rfl rfl rfl (by rw [wr_i64 (by omega) (by omega)]; omega)) ?_
    refine L1 rfl rfl H (y_assign (v := (.int .i64 _)) rfl rfl) ?_
    refine e_list ?_; (repeat (first | (with_reducible first | refine e_then ?_ | refine e_block ?_ | refine e_then_ret ?_ | refine e_block_ret ?_ | refine e_then_exit ?_ | refine e_block_here ?_ | refine e_then_panic ?_ | refine e_block_panic ?_) | refine e_block_on rfl ?_))
    exact ⟨(j + 1, A, c), _, rfl, ⟨ov_ex _ ⟨rfl, rfl, rfl, trivial⟩, H, by omega, by omega⟩, by show 8 - (j + 1) < 8 - j; omega⟩
  · skip
    have hj8 : j = 8 := by omega
    subst hj8
    rw [List.take_of_length_le (by rw [Dig.be8_length]; exact Nat.le_refl _)] at H
    refine wp_exit ?_; (repeat (first | (with_reducible first | refine e_then ?_ | refine e_block ?_ | refine e_then_ret ?_ | refine e_block_ret ?_ | refine e_then_exit ?_ | refine e_block_here ?_ | refine e_then_panic ?_ | refine e_block_panic ?_) | refine e_block_on rfl ?_))
    refine wp_seq ?_
    -- R5
    refine c_region ?_
    refine L1 rfl rfl H (y_move (v := (.slice _ _ _)) rfl rfl) ?_
    refine L1 rfl rfl H (y_assign (v := (.slice _ _ _)) rfl rfl) ?_
    refine e_list ?_; (repeat (first | (with_reducible first | refine e_then ?_ | refine e_block ?_ | refine e_then_ret ?_ | refine e_block_ret ?_ | refine e_then_exit ?_ | refine e_block_here ?_ | refine e_then_panic ?_ | refine e_block_panic ?_) | refine e_block_on rfl ?_))
    refine wp_ret ?_; (repeat (first | (with_reducible first | refine e_then ?_ | refine e_block ?_ | refine e_then_ret ?_ | refine e_block_ret ?_ | refine e_then_exit ?_ | refine e_block_here ?_ | refine e_then_panic ?_ | refine e_block_panic ?_) | refine e_block_on rfl ?_))
    refine r_1 (v := (.slice _ _ _)) rfl rfl ?_
    have hl : b.length + 8 = (b ++ Dig.be8 x).length := by rw [List.length_append, Dig.be8_length]
    rw [hl] at H hc ⊢
    exact ⟨A, c, rfl, hc, H⟩
-- »putWord
-- «putUint»
theorem putUint_calls {x c : Nat} (hx : x < 2 ^ 64) (hc : b.length ≤ c) (H : Heap w0 (rowB w0 A c b :: R) w) (hbound : b.length + (digS x).length ≤ 140737488355328) :
    Calls Try.prog 84 #[.slice A b.length c, .int .u64 (x : Nat)] w fun e w' => ∃ A' c', e = .returned (.slice A' (b ++ digS x).length c') ∧ (b ++ digS x).length ≤ c' ∧ Heap w0 (rowB w0 A' c' (b ++ digS x) :: R) w' := by
  refine c_enter (xa := [.slice A b.length c, .int .u64 (x : Nat)]) 22 Try.func84 rfl rfl rfl ?_
  obtain ⟨y, hy⟩ : ∃ y, y = b ++ digS x := ⟨_, rfl⟩
  have hyb : y.length ≤ 140737488355328 := by rw [hy, List.length_append]; exact hbound
  rw [← hy]
  refine wp_seq ?_
  -- R0
  refine c_region ?_
  refine L1 rfl rfl H (y_assign (v := (.slice _ _ _)) rfl rfl) ?_
  refine e_list ?_; (repeat (first | (with_reducible first | refine e_then ?_ | refine e_block ?_ | refine e_then_ret ?_ | refine e_block_ret ?_ | refine e_then_exit ?_ | refine e_block_here ?_ | refine e_then_panic ?_ | refine e_block_panic ?_) | refine e_block_on rfl ?_))
  refine wp_seq ?_
  refine wp_block ?_   -- block 0
  refine c_loop (ι := Nat × By × Option Addr × Nat) (fun (x, b, A, c) f w => (∃ gx, f = ov [(0, .slice A b.length c), (1, .int .u64 (x : Nat))] gx) ∧ Heap w0 (rowB w0 A c b :: R) w ∧ x < 2 ^ 64 ∧ b.length ≤ c ∧ b ++ digS x = y) (fun (x, b, A, c) => x) (x, b, A, c) ?_ ?_
  · exact ⟨ov_ex _ ⟨rfl, rfl, trivial⟩, H, hx, hc, hy.symm⟩
  rintro ⟨x, b, A, c⟩ f w ⟨⟨gg, rfl⟩, H, hx, hc, hq⟩
  have hbl : b.length + (digS x).length = y.length := by rw [← hq, List.length_append]
  have hdp := digS_pos x
  refine wp_seq ?_
  refine wp_seq ?_
  -- R1
  refine c_region ?_
  refine L1 rfl rfl H (y_move (v := (.int .u64 _)) rfl rfl) ?_
  refine L1 rfl rfl H (y_geq rfl rfl rfl) ?_
  refine e_list ?_; (repeat (first | (with_reducible first | refine e_then ?_ | refine e_block ?_ | refine e_then_ret ?_ | refine e_block_ret ?_ | refine e_then_exit ?_ | refine e_block_here ?_ | refine e_then_panic ?_ | refine e_block_panic ?_) | refine e_block_on rfl ?_))
  refine c_if rfl (fun h0 => ?_) (fun h0 => ?_)   -- if 0
  · skip
    have hge : ¬ x < 128 := by omega
    have hq' : (b ++ [UInt8.ofNat (x % 128 + 128)]) ++ digS (x / 128) = y := by rw [← hq, digS_ge hge, List.append_assoc]; rfl
    refine wp_skip ?_; (repeat (first | (with_reducible first | refine e_then ?_ | refine e_block ?_ | refine e_then_ret ?_ | refine e_block_ret ?_ | refine e_then_exit ?_ | refine e_block_here ?_ | refine e_then_panic ?_ | refine e_block_panic ?_) | refine e_block_on rfl ?_))
    refine wp_block ?_   -- block 1
    refine wp_seq ?_
    -- R2
    refine c_region ?_
    refine L1 rfl rfl H (y_move (v := (.slice _ _ _)) rfl rfl) ?_
    refine L1 rfl rfl H (y_move (v := (.int .u64 _)) rfl rfl) ?_
    refine L1 rfl rfl H (y_rem (r := ((x % 128 : Nat) : Int)) rfl rfl rfl (by omega) (Int.ofNat_tmod _ 128).symm) ?_
    refine L1 rfl rfl H (y_add (r := ((x % 128 + 128 : Nat) : Int)) rfl rfl rfl (by rw [wr_u64 (by omega) (by omega)]; omega)) ?_
    refine L1 rfl rfl H (y_conv rfl rfl Try.underlying86 Try.underlying5 (Dig.u8_ofNat _)) ?_
    refine LbuildSlice1 (v := (.int .u8 _)) rfl rfl rfl rfl H Try.underlying22 Try.sizeOf5 Try.zeroValue5 rfl rfl ?_; intro b12 w H
    refine Lapp1 0 rfl rfl rfl rfl rfl H rfl Try.underlying22 Try.underlying22 (i := Try.t5) (by kernel_rfl) (z := .int .u8 0) rfl rfl rfl rfl (by show (_ + 1) * 1 ≤ _; omega) (by simp only [maxLen]; omega) ?_
    intro A c w hc H
    replace H : Heap w0 (Ent.row w0.heap.size 5 1 (.slice A (b.length + 1) c) (b.length + 1) (b.map bv ++ [bv (UInt8.ofNat (x % 128 + 128))]) :: R) w := H
    rw [show b.map bv ++ [bv (UInt8.ofNat (x % 128 + 128))] = (b ++ [UInt8.ofNat (x % 128 + 128)]).map bv from by rw [List.map_append]; rfl] at H
    replace H := rowB_of (by rw [List.length_append]; rfl) H
    refine L1 rfl rfl H (y_assign (v := (.slice _ _ _)) rfl rfl) ?_
    refine e_list ?_; (repeat (first | (with_reducible first | refine e_then ?_ | refine e_block ?_ | refine e_then_ret ?_ | refine e_block_ret ?_ | refine e_then_exit ?_ | refine e_block_here ?_ | refine e_then_panic ?_ | refine e_block_panic ?_) | refine e_block_on rfl ?_))
    -- R3
    refine c_region ?_
    refine L1 rfl rfl H (y_move (v := (.int .u64 _)) rfl rfl) ?_
    refine L1 rfl rfl H (y_quo (r := ((x / 128 : Nat) : Int)) rfl rfl rfl (by omega) (by rw [show (x : Int).tdiv 128 = ((x / 128 : Nat) : Int) from (Int.ofNat_tdiv x 128).symm]; exact wr_u64 (by omega) (by omega))) ?_
    refine L1 rfl rfl H (y_assign (v := (.int .u64 _)) rfl rfl) ?_
    refine e_list ?_; (repeat (first | (with_reducible first | refine e_then ?_ | refine e_block ?_ | refine e_then_ret ?_ | refine e_block_ret ?_ | refine e_then_exit ?_ | refine e_block_here ?_ | refine e_then_panic ?_ | refine e_block_panic ?_) | refine e_block_on rfl ?_))
    exact ⟨(x / 128, b ++ [UInt8.ofNat (x % 128 + 128)], A, c), _, rfl, ⟨ov_ex _ ⟨by rw [List.length_append]; rfl, rfl, trivial⟩, H, by omega, by rw [List.length_append]; exact hc, hq'⟩, by show x / 128 < x; omega⟩
  · skip
    have hlt : x < 128 := by omega
    rw [digS_lt hlt] at hq
    refine wp_exit ?_; (repeat (first | (with_reducible first | refine e_then ?_ | refine e_block ?_ | refine e_then_ret ?_ | refine e_block_ret ?_ | refine e_then_exit ?_ | refine e_block_here ?_ | refine e_then_panic ?_ | refine e_block_panic ?_) | refine e_block_on rfl ?_))
    refine wp_seq ?_
    -- R4
    refine c_region ?_
    refine L1 rfl rfl H (y_move (v := (.slice _ _ _)) rfl rfl) ?_
    refine L1 rfl rfl H (y_move (v := (.int .u64 _)) rfl rfl) ?_
    refine L1 rfl rfl H (y_conv rfl rfl Try.underlying86 Try.underlying5 (Dig.u8_ofNat _)) ?_
    refine LbuildSlice1 (v := (.int .u8 _)) rfl rfl rfl rfl H Try.underlying22 Try.sizeOf5 Try.zeroValue5 rfl rfl ?_; intro b19 w H
    refine Lapp1 0 rfl rfl rfl rfl rfl H rfl Try.underlying22 Try.underlying22 (i := Try.t5) (by kernel_rfl) (z := .int .u8 0) rfl rfl rfl rfl (by show (_ + 1) * 1 ≤ _; omega) (by simp only [maxLen]; omega) ?_
    intro A c w hc H
    replace H : Heap w0 (Ent.row w0.heap.size 5 1 (.slice A (b.length + 1) c) (b.length + 1) (b.map bv ++ [bv (UInt8.ofNat x)]) :: R) w := H
    rw [show b.map bv ++ [bv (UInt8.ofNat x)] = (b ++ [UInt8.ofNat x]).map bv from by rw [List.map_append]; rfl] at H
    replace H := rowB_of (by rw [List.length_append]; rfl) H
    refine L1 rfl rfl H (y_assign (v := (.slice _ _ _)) rfl rfl) ?_
    refine e_list ?_; (repeat (first | (with_reducible first | refine e_then ?_ | refine e_block ?_ | refine e_then_ret ?_ | refine e_block_ret ?_ | refine e_then_exit ?_ | refine e_block_here ?_ | refine e_then_panic ?_ | refine e_block_panic ?_) | refine e_block_on rfl ?_))
    refine wp_seq ?_
    -- R5
    refine c_region ?_
    refine L1 rfl rfl H (y_move (v := (.slice _ _ _)) rfl rfl) ?_
    refine L1 rfl rfl H (y_assign (v := (.slice _ _ _)) rfl rfl) ?_
    refine e_list ?_; (repeat (first | (with_reducible first | refine e_then ?_ | refine e_block ?_ | refine e_then_ret ?_ | refine e_block_ret ?_ | refine e_then_exit ?_ | refine e_block_here ?_ | refine e_then_panic ?_ | refine e_block_panic ?_) | refine e_block_on rfl ?_))
    refine wp_ret ?_; (repeat (first | (with_reducible first | refine e_then ?_ | refine e_block ?_ | refine e_then_ret ?_ | refine e_block_ret ?_ | refine e_then_exit ?_ | refine e_block_here ?_ | refine e_then_panic ?_ | refine e_block_panic ?_) | refine e_block_on rfl ?_))
    refine r_1 (v := (.slice _ _ _)) rfl rfl ?_
    rw [← hq]
    refine ⟨A, c, by rw [List.length_append]; rfl, by rw [List.length_append]; exact hc, H⟩
-- »putUint
-- «putBytes»
theorem rd_now {w : World} {a : Addr} {bs : By} {i : Nat} (hR : Rd w (some a) (bs.map bv)) (h : i < bs.length) : w.cell? (a.add (i * 1)) = some (bv (bs.getD i 0)) := by
  rw [Nat.mul_one]
  refine hR.at_ (j := i) ?_
  rw [List.getElem?_map, List.getD_eq_getElem?_getD, List.getElem?_eq_getElem h]
  rfl
theorem putBytes_calls {c c2 : Nat} {m : By} {A2 : Option Addr} (hc : b.length ≤ c) (H : Heap w0 (rowB w0 A c b :: R) w) (hR : ∀ A n c xs w', Heap w0 (Ent.row w0.heap.size 5 1 (.slice A n c) n xs :: R) w' → Rd w' A2 (m.map bv)) (hbound : b.length + m.length ≤ 140737488355328) :
    Calls Try.prog 48 #[.slice A b.length c, .slice A2 m.length c2] w fun e w' => ∃ A' c', e = .returned (.slice A' (b ++ m).length c') ∧ (b ++ m).length ≤ c' ∧ Heap w0 (rowB w0 A' c' (b ++ m) :: R) w' := by
  refine c_enter (xa := [.slice A b.length c, .slice A2 m.length c2]) 20 Try.func48 rfl rfl rfl ?_
  refine wp_seq ?_
  -- R0
  refine c_region ?_
  refine L1 rfl rfl H (y_assign (v := (.slice _ _ _)) rfl rfl) ?_
  refine e_list ?_; (repeat (first | (with_reducible first | refine e_then ?_ | refine e_block ?_ | refine e_then_ret ?_ | refine e_block_ret ?_ | refine e_then_exit ?_ | refine e_block_here ?_ | refine e_then_panic ?_ | refine e_block_panic ?_) | refine e_block_on rfl ?_))
  refine wp_seq ?_
  refine wp_seq ?_
  -- R1
  refine c_region ?_
  refine L1 rfl rfl H (y_assign (v := (.int .i64 _)) rfl rfl) ?_
  refine e_list ?_; (repeat (first | (with_reducible first | refine e_then ?_ | refine e_block ?_ | refine e_then_ret ?_ | refine e_block_ret ?_ | refine e_then_exit ?_ | refine e_block_here ?_ | refine e_then_panic ?_ | refine e_block_panic ?_) | refine e_block_on rfl ?_))
  refine wp_block ?_   -- block 0
  refine c_loop (ι := Nat × Option Addr × Nat) (fun (i, A, c) f w => (∃ gx, f = ov [(0, .slice A (b.length + i) c), (1, .slice A2 m.length c2), (5, .int .i64 (i : Nat))] gx) ∧ Heap w0 (Ent.row w0.heap.size 5 1 (.slice A (b.length + i) c) (b.length + i) ((b ++ m.take i).map bv) :: R) w ∧ i ≤ m.length ∧ b.length + i ≤ c) (fun (i, A, c) => m.length - i) (0, A, c) ?_ ?_
  · exact ⟨ov_ex _ ⟨rfl, rfl, rfl, trivial⟩, (by rw [List.take_zero, List.append_nil]; exact H), by omega, by omega⟩
  rintro ⟨i, A, c⟩ f w ⟨⟨gg, rfl⟩, H, hi, hc⟩
  refine wp_seq ?_
  refine wp_seq ?_
  -- R2
  refine c_region ?_
  refine L1 rfl rfl H (y_move (v := (.int .i64 _)) rfl rfl) ?_
  refine L1 rfl rfl H (y_move (v := (.slice _ _ _)) rfl rfl) ?_
  refine L1 rfl rfl H (y_len_slice rfl rfl Try.underlying22) ?_
  refine L1 rfl rfl H (y_lss rfl rfl rfl) ?_
  refine e_list ?_; (repeat (first | (with_reducible first | refine e_then ?_ | refine e_block ?_ | refine e_then_ret ?_ | refine e_block_ret ?_ | refine e_then_exit ?_ | refine e_block_here ?_ | refine e_then_panic ?_ | refine e_block_panic ?_) | refine e_block_on rfl ?_))
  refine c_if rfl (fun h0 => ?_) (fun h0 => ?_)   -- if 0
  · skip
    have him : i < m.length := by omega
    refine wp_skip ?_; (repeat (first | (with_reducible first | refine e_then ?_ | refine e_block ?_ | refine e_then_ret ?_ | refine e_block_ret ?_ | refine e_then_exit ?_ | refine e_block_here ?_ | refine e_then_panic ?_ | refine e_block_panic ?_) | refine e_block_on rfl ?_))
    refine wp_seq ?_
    refine wp_block ?_   -- block 1
    -- R4
    refine c_region ?_
    refine L1 rfl rfl H (y_move (v := (.slice _ _ _)) rfl rfl) ?_
    refine L1 rfl rfl H (y_move (v := (.slice _ _ _)) rfl rfl) ?_
    refine L1 rfl rfl H (y_move (v := (.int .i64 _)) rfl rfl) ?_
    obtain ⟨a0, rfl, _⟩ := (hR _ _ _ _ _ H).some (j := i) (by rw [List.length_map]; omega)
    refine L1 rfl rfl H (y_indexSl rfl rfl rfl Try.underlying22 Try.sizeOf5 (by omega) (by omega)) ?_
    refine L1 rfl rfl H (y_load (v := bv (m.getD i 0)) rfl rfl Try.isAgg5 (fun w H => rd_now (hR _ _ _ _ _ H) him)) ?_
    refine LbuildSlice1 (v := (.int .u8 _)) rfl rfl rfl rfl H Try.underlying22 Try.sizeOf5 Try.zeroValue5 rfl rfl ?_; intro b17 w H
    refine Lapp1 0 rfl rfl rfl rfl rfl H rfl Try.underlying22 Try.underlying22 (i := Try.t5) (by kernel_rfl) (z := .int .u8 0) rfl rfl rfl rfl (by show (_ + 1) * 1 ≤ _; omega) (by simp only [maxLen]; omega) ?_
    intro A c w hc H
    replace H : Heap w0 (Ent.row w0.heap.size 5 1 (.slice A (b.length + i + 1) c) (b.length + i + 1) ((b ++ m.take i).map bv ++ [bv (m.getD i 0)]) :: R) w := H
    rw [show (b ++ m.take i).map bv ++ [bv (m.getD i 0)] = (b ++ m.take (i + 1)).map bv from by rw [List.map_append, List.append_assoc, Dig.take_bv him, ← List.map_append]] at H
    refine L1 rfl rfl H (y_assign (v := (.slice _ _ _)) rfl rfl) ?_
    refine e_list ?_; (repeat (first | (with_reducible first | refine e_then ?_ | refine e_block ?_ | refine e_then_ret ?_ | refine e_block_ret ?_ | refine e_then_exit ?_ | refine e_block_here ?_ | refine e_then_panic ?_ | refine e_block_panic ?_) | refine e_block_on rfl ?_))
    -- R3
    refine c_region ?_
    refine L1 rfl rfl H (y_move (v := (.int .i64 _)) rfl rfl) ?_
    refine L1 rfl rfl H (y_add (r := ((i + 1 : Nat) : Int)) rfl rfl rfl (by rw [wr_i64 (by omega) (by omega)]; omega)) ?_
    refine L1 rfl rfl H (y_assign (v := (.int .i64 _)) rfl rfl) ?_
    refine e_list ?_; (repeat (first | (with_reducible first | refine e_then ?_ | refine e_block ?_ | refine e_then_ret ?_ | refine e_block_ret ?_ | refine e_then_exit ?_ | refine e_block_here ?_ | refine e_then_panic ?_ | refine e_block_panic ?_) | refine e_block_on rfl ?_))
    exact ⟨(i + 1, A, c), _, rfl, ⟨ov_ex _ ⟨rfl, rfl, rfl, trivial⟩, H, by omega, by omega⟩, by show m.length - (i + 1) < m.length - i; omega⟩
  · skip
    have hie : i = m.length := by omega
    subst hie
    rw [List.take_length] at H
    refine wp_exit ?_; (repeat (first | (with_reducible first | refine e_then ?_ | refine e_block ?_ | refine e_then_ret ?_ | refine e_block_ret ?_ | refine e_then_exit ?_ | refine e_block_here ?_ | refine e_then_panic ?_ | refine e_block_panic ?_) | refine e_block_on rfl ?_))
    refine wp_seq ?_
    -- R5
    refine c_region ?_
    refine L1 rfl rfl H (y_move (v := (.slice _ _ _)) rfl rfl) ?_
    refine L1 rfl rfl H (y_assign (v := (.slice _ _ _)) rfl rfl) ?_
    refine e_list ?_; (repeat (first | (with_reducible first | refine e_then ?_ | refine e_block ?_ | refine e_then_ret ?_ | refine e_block_ret ?_ | refine e_then_exit ?_ | refine e_block_here ?_ | refine e_then_panic ?_ | refine e_block_panic ?_) | refine e_block_on rfl ?_))
    refine wp_ret ?_; (repeat (first | (with_reducible first | refine e_then ?_ | refine e_block ?_ | refine e_then_ret ?_ | refine e_block_ret ?_ | refine e_then_exit ?_ | refine e_block_here ?_ | refine e_then_panic ?_ | refine e_block_panic ?_) | refine e_block_on rfl ?_))
    refine r_1 (v := (.slice _ _ _)) rfl rfl ?_
    rw [← List.length_append] at H hc ⊢
    exact ⟨A, c, rfl, hc, H⟩
-- »putBytes
end
end Go.Ref
