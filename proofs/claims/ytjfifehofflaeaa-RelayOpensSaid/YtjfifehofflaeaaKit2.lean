/-
  The laws' own tools: lists that are lent, and looked at behind the call; a number out of a range.
-/
import Derived.Test.YtjfifehofflaeaaLaw1
import Derived.Test.YtjfifehofflaeaaEng13
namespace Go.Ref
open Go.RowKit Go.Eng Go.Proofs Go.Wire Go.Relay
set_option linter.unusedSimpArgs false
set_option linter.unusedVariables false
attribute [local irreducible] wpList wpQuiet wpStill wpMix wpMixE

def tail64 (i : Nat) : By := (List.range i).map fun j => UInt8.ofNat (201 + j % 40)
def lentB (b : By) : By := b ++ tail64 64
theorem tail64_succ {i : Nat} : tail64 (i + 1) = tail64 i ++ [UInt8.ofNat (201 + i % 40)] := by simp [tail64, List.range_succ]
theorem tail64_length {i : Nat} : (tail64 i).length = i := by simp [tail64]
theorem lentB_length {b : By} : (lentB b).length = b.length + 64 := by simp [lentB, tail64_length]
theorem lentB_lo {b : By} {i : Nat} (h : i < b.length) : (lentB b).getD i 0 = b.getD i 0 := by
  unfold lentB
  rw [List.getD_eq_getElem?_getD, List.getElem?_append_left h, ← List.getD_eq_getElem?_getD]
theorem lentB_hi {b : By} {i : Nat} (h : b.length ≤ i) (h2 : i < b.length + 64) : (lentB b).getD i 0 = UInt8.ofNat (201 + (i - b.length) % 40) := by
  unfold lentB tail64
  rw [List.getD_eq_getElem?_getD, List.getElem?_append_right h, List.getElem?_map, List.getElem?_range (by omega)]
  rfl
theorem tmod_lo (a : Int) : -40 < a.tmod 40 ∧ a.tmod 40 < 40 := by
  rcases Int.le_total 0 a with h | h
  · have h1 := Int.tmod_nonneg 40 h
    have h2 := Int.tmod_lt_of_pos a (b := 40) (by omega)
    omega
  · have e : a.tmod 40 = -((-a).tmod 40) := by rw [Int.neg_tmod, Int.neg_neg]
    have h1 := Int.tmod_nonneg 40 (a := -a) (by omega)
    have h2 := Int.tmod_lt_of_pos (-a) (b := 40) (by omega)
    omega
theorem y_neqE {P : Program} {C : World → Prop} {o : Oper} {ρ : Operand → Value} {t t2 : TypeId} {x y : Operand} {k : IntKind} {a b : Int} (h : a = b) (ho : o.op = .binOp .neq t x y t2) (hx : ρ x = .int k a) (hy : ρ y = .int k b) : Gives P C o ρ (.bool false) := by
  subst h; exact y_neqF ho hx hy
section
variable {w0 w : World} {R : List Ent} {g : Nat} {A : Option Addr} {cap : Nat} {b : By}
-- «lent»
theorem lent_calls {A0 : Option Addr} {c0 : Nat} (hR : Rd w0 A0 (b.map bv)) (hb : b.length ≤ 140737488353000) :
    Calls Try.prog 10 #[.slice A0 b.length c0] w0 fun e w' => ∃ A c, e = .returned (.slice A (lentB b).length c) ∧ (lentB b).length ≤ c ∧ Heap w0 [rowB w0 A c (lentB b)] w' := by
  refine c_enter (xa := [.slice A0 b.length c0]) 31 Try.func10 rfl rfl rfl ?_
  have H := (Heap.init w0).row0 5 1
  refine wp_seq ?_
  -- R0
  refine c_region ?_
  refine L1 rfl rfl H (y_assign (v := (.slice _ _ _)) rfl rfl) ?_
  refine e_list ?_; (repeat (first | (with_reducible first | refine e_then ?_ | refine e_block ?_ | refine e_then_ret ?_ | refine e_block_ret ?_ | refine e_then_exit ?_ | refine e_block_here ?_ | refine e_then_panic ?_ | refine e_block_panic ?_) | refine e_block_on rfl ?_))
  refine wp_seq ?_
  -- R1
  refine c_region ?_
  refine L1 rfl rfl H (y_assign (v := (.slice _ _ _)) rfl rfl) ?_
  refine e_list ?_; (repeat (first | (with_reducible first | refine e_then ?_ | refine e_block ?_ | refine e_then_ret ?_ | refine e_block_ret ?_ | refine e_then_exit ?_ | refine e_block_here ?_ | refine e_then_panic ?_ | refine e_block_panic ?_) | refine e_block_on rfl ?_))
  refine wp_seq ?_
  refine wp_seq ?_
  -- R2
  refine c_region ?_
  refine L1 rfl rfl H (y_assign (v := (.int .i64 _)) rfl rfl) ?_
  refine e_list ?_; (repeat (first | (with_reducible first | refine e_then ?_ | refine e_block ?_ | refine e_then_ret ?_ | refine e_block_ret ?_ | refine e_then_exit ?_ | refine e_block_here ?_ | refine e_then_panic ?_ | refine e_block_panic ?_) | refine e_block_on rfl ?_))
  refine wp_block ?_   -- block 0
  refine c_loop (ι := Nat × Option Addr × Nat) (fun (i, A, c) f w => (∃ gx, f = ov [(0, .slice A0 b.length c0), (3, .slice A i c), (4, .int .i64 (i : Nat))] gx) ∧ Heap w0 ([Ent.row w0.heap.size 5 1 (.slice A (i) c) (i) ((b.take i).map bv)]) w ∧ i ≤ b.length ∧ i ≤ c) (fun (i, A, c) => b.length - i) (0, none, 0) ?_ ?_
  · exact ⟨ov_ex _ ⟨rfl, rfl, rfl, trivial⟩, H, by omega, by omega⟩
  rintro ⟨i, A, c⟩ f w ⟨⟨gg, rfl⟩, H, hi, hic⟩
  refine wp_seq ?_
  refine wp_seq ?_
  -- R3
  refine c_region ?_
  refine L1 rfl rfl H (y_move (v := (.int .i64 _)) rfl rfl) ?_
  refine L1 rfl rfl H (y_move (v := (.slice _ _ _)) rfl rfl) ?_
  refine L1 rfl rfl H (y_len_slice rfl rfl Try.underlying22) ?_
  refine L1 rfl rfl H (y_lss rfl rfl rfl) ?_
  refine e_list ?_; (repeat (first | (with_reducible first | refine e_then ?_ | refine e_block ?_ | refine e_then_ret ?_ | refine e_block_ret ?_ | refine e_then_exit ?_ | refine e_block_here ?_ | refine e_then_panic ?_ | refine e_block_panic ?_) | refine e_block_on rfl ?_))
  refine c_if rfl (fun h0 => ?_) (fun h0 => ?_)   -- if 0
  · skip
    have hib : i < b.length := by omega
    refine wp_skip ?_; (repeat (first | (with_reducible first | refine e_then ?_ | refine e_block ?_ | refine e_then_ret ?_ | refine e_block_ret ?_ | refine e_then_exit ?_ | refine e_block_here ?_ | refine e_then_panic ?_ | refine e_block_panic ?_) | refine e_block_on rfl ?_))
    refine wp_seq ?_
    refine wp_block ?_   -- block 1
    -- R5
    refine c_region ?_
    refine L1 rfl rfl H (y_move (v := (.slice _ _ _)) rfl rfl) ?_
    refine L1 rfl rfl H (y_move (v := (.slice _ _ _)) rfl rfl) ?_
    refine L1 rfl rfl H (y_move (v := (.int .i64 _)) rfl rfl) ?_
    obtain ⟨a0, rfl, _⟩ := hR.some (j := i) (by rw [List.length_map]; omega)
    refine L1 rfl rfl H (y_indexSl rfl rfl rfl Try.underlying22 Try.sizeOf5 (by omega) (by omega)) ?_
    refine L1 rfl rfl H (y_load (v := bv (b.getD i 0)) rfl rfl Try.isAgg5 (Dig.rd_get hR hib)) ?_
    refine LbuildSlice1 (v := (.int .u8 _)) rfl rfl rfl rfl H Try.underlying22 Try.sizeOf5 Try.zeroValue5 rfl rfl ?_; intro b17 w H
    refine Lapp1 0 rfl rfl rfl rfl rfl H rfl Try.underlying22 Try.underlying22 (i := Try.t5) (by kernel_rfl) (z := .int .u8 0) rfl rfl rfl rfl (by show (_ + 1) * 1 ≤ _; omega) (by simp only [maxLen]; omega) ?_
    intro A c w hc H
    replace H : Heap w0 ([Ent.row w0.heap.size 5 1 (.slice A (i + 1) c) (i + 1) ((b.take i).map bv ++ [bv (b.getD i 0)])]) w := H
    rw [Dig.take_bv hib] at H
    refine L1 rfl rfl H (y_assign (v := (.slice _ _ _)) rfl rfl) ?_
    refine e_list ?_; (repeat (first | (with_reducible first | refine e_then ?_ | refine e_block ?_ | refine e_then_ret ?_ | refine e_block_ret ?_ | refine e_then_exit ?_ | refine e_block_here ?_ | refine e_then_panic ?_ | refine e_block_panic ?_) | refine e_block_on rfl ?_))
    -- R4
    refine c_region ?_
    refine L1 rfl rfl H (y_move (v := (.int .i64 _)) rfl rfl) ?_
    refine L1 rfl rfl H (y_add (r := ((i + 1 : Nat) : Int)) rfl rfl rfl (by rw [wr_i64 (by omega) (by omega)]; omega)) ?_
    refine L1 rfl rfl H (y_assign (v := (.int .i64 _)) rfl rfl) ?_
    refine e_list ?_; (repeat (first | (with_reducible first | refine e_then ?_ | refine e_block ?_ | refine e_then_ret ?_ | refine e_block_ret ?_ | refine e_then_exit ?_ | refine e_block_here ?_ | refine e_then_panic ?_ | refine e_block_panic ?_) | refine e_block_on rfl ?_))
    exact ⟨(i + 1, A, c), _, rfl, ⟨ov_ex _ ⟨rfl, rfl, rfl, trivial⟩, H, by omega, by omega⟩, by show b.length - (i + 1) < b.length - i; omega⟩
  · skip
    have hie : i = b.length := by omega
    subst hie
    rw [List.take_length] at H
    refine wp_exit ?_; (repeat (first | (with_reducible first | refine e_then ?_ | refine e_block ?_ | refine e_then_ret ?_ | refine e_block_ret ?_ | refine e_then_exit ?_ | refine e_block_here ?_ | refine e_then_panic ?_ | refine e_block_panic ?_) | refine e_block_on rfl ?_))
    refine wp_seq ?_
    refine wp_seq ?_
    -- R6
    refine c_region ?_
    refine L1 rfl rfl H (y_assign (v := (.int .i64 _)) rfl rfl) ?_
    refine e_list ?_; (repeat (first | (with_reducible first | refine e_then ?_ | refine e_block ?_ | refine e_then_ret ?_ | refine e_block_ret ?_ | refine e_then_exit ?_ | refine e_block_here ?_ | refine e_then_panic ?_ | refine e_block_panic ?_) | refine e_block_on rfl ?_))
    refine wp_block ?_   -- block 2
    refine c_loop (ι := Nat × Option Addr × Nat) (fun (i, A, c) f w => (∃ gx, f = ov [(3, .slice A (b.length + i) c), (5, .int .i64 (i : Nat))] gx) ∧ Heap w0 ([Ent.row w0.heap.size 5 1 (.slice A (b.length + i) c) (b.length + i) ((b ++ tail64 i).map bv)]) w ∧ i ≤ 64 ∧ b.length + i ≤ c) (fun (i, A, c) => 64 - i) (0, A, c) ?_ ?_
    · exact ⟨ov_ex _ ⟨rfl, rfl, trivial⟩, (by show Heap w0 [Ent.row _ _ 1 (.slice A (b.length + 0) c) (b.length + 0) ((b ++ tail64 0).map bv)] _; rw [show b ++ tail64 0 = b from List.append_nil b]; exact H), by omega, by omega⟩
    rintro ⟨i, A, c⟩ f w ⟨⟨gg, rfl⟩, H, hi, hic⟩
    refine wp_seq ?_
    refine wp_seq ?_
    -- R7
    refine c_region ?_
    refine L1 rfl rfl H (y_move (v := (.int .i64 _)) rfl rfl) ?_
    refine L1 rfl rfl H (y_lss rfl rfl rfl) ?_
    refine e_list ?_; (repeat (first | (with_reducible first | refine e_then ?_ | refine e_block ?_ | refine e_then_ret ?_ | refine e_block_ret ?_ | refine e_then_exit ?_ | refine e_block_here ?_ | refine e_then_panic ?_ | refine e_block_panic ?_) | refine e_block_on rfl ?_))
    refine c_if rfl (fun h1 => ?_) (fun h1 => ?_)   -- if 1
    · skip
      refine wp_skip ?_; (repeat (first | (with_reducible first | refine e_then ?_ | refine e_block ?_ | refine e_then_ret ?_ | refine e_block_ret ?_ | refine e_then_exit ?_ | refine e_block_here ?_ | refine e_then_panic ?_ | refine e_block_panic ?_) | refine e_block_on rfl ?_))
      refine wp_seq ?_
      refine wp_block ?_   -- block 3
      -- R9
      refine c_region ?_
      refine L1 rfl rfl H (y_move (v := (.slice _ _ _)) rfl rfl) ?_
      refine L1 rfl rfl H (y_move (v := (.int .i64 _)) rfl rfl) ?_
      refine L1 rfl rfl H (y_rem (r := ((i % 40 : Nat) : Int)) rfl rfl rfl (by omega) (Int.ofNat_tmod _ 40).symm) ?_
      refine L1 rfl rfl H (y_add (r := ((201 + i % 40 : Nat) : Int)) rfl rfl rfl (by rw [wr_i64 (by omega) (by omega)]; omega)) ?_
      refine L1 rfl rfl H (y_conv rfl rfl Try.underlying3 Try.underlying5 (Dig.u8_ofNat _)) ?_
      refine LbuildSlice1 (v := (.int .u8 _)) rfl rfl rfl rfl H Try.underlying22 Try.sizeOf5 Try.zeroValue5 rfl rfl ?_; intro b28 w H
      refine Lapp1 0 rfl rfl rfl rfl rfl H rfl Try.underlying22 Try.underlying22 (i := Try.t5) (by kernel_rfl) (z := .int .u8 0) rfl rfl rfl rfl (by show (_ + 1) * 1 ≤ _; omega) (by simp only [maxLen]; omega) ?_
      intro A c w hc H
      replace H : Heap w0 ([Ent.row w0.heap.size 5 1 (.slice A (b.length + i + 1) c) (b.length + i + 1) ((b ++ tail64 i).map bv ++ [bv (UInt8.ofNat (201 + i % 40))])]) w := H
      rw [show (b ++ tail64 i).map bv ++ [bv (UInt8.ofNat (201 + i % 40))] = (b ++ tail64 (i + 1)).map bv from by rw [tail64_succ, ← List.append_assoc, List.map_append (l₁ := b ++ tail64 i)]; rfl] at H
      refine L1 rfl rfl H (y_assign (v := (.slice _ _ _)) rfl rfl) ?_
      refine e_list ?_; (repeat (first | (with_reducible first | refine e_then ?_ | refine e_block ?_ | refine e_then_ret ?_ | refine e_block_ret ?_ | refine e_then_exit ?_ | refine e_block_here ?_ | refine e_then_panic ?_ | refine e_block_panic ?_) | refine e_block_on rfl ?_))
      -- R8
      refine c_region ?_
      refine L1 rfl rfl H (y_move (v := (.int .i64 _)) rfl rfl) ?_
      refine L1 rfl rfl H (y_add (r := ((i + 1 : Nat) : Int)) rfl rfl rfl (by rw [wr_i64 (by omega) (by omega)]; omega)) ?_
      refine L1 rfl rfl H (y_assign (v := (.int .i64 _)) rfl rfl) ?_
      refine e_list ?_; (repeat (first | (with_reducible first | refine e_then ?_ | refine e_block ?_ | refine e_then_ret ?_ | refine e_block_ret ?_ | refine e_then_exit ?_ | refine e_block_here ?_ | refine e_then_panic ?_ | refine e_block_panic ?_) | refine e_block_on rfl ?_))
      exact ⟨(i + 1, A, c), _, rfl, ⟨ov_ex _ ⟨rfl, rfl, trivial⟩, H, by omega, by omega⟩, by show 64 - (i + 1) < 64 - i; omega⟩
    · skip
      have hie : i = 64 := by omega
      subst hie
      refine wp_exit ?_; (repeat (first | (with_reducible first | refine e_then ?_ | refine e_block ?_ | refine e_then_ret ?_ | refine e_block_ret ?_ | refine e_then_exit ?_ | refine e_block_here ?_ | refine e_then_panic ?_ | refine e_block_panic ?_) | refine e_block_on rfl ?_))
      refine wp_seq ?_
      -- R10
      refine c_region ?_
      refine L1 rfl rfl H (y_move (v := (.slice _ _ _)) rfl rfl) ?_
      refine L1 rfl rfl H (y_assign (v := (.slice _ _ _)) rfl rfl) ?_
      refine e_list ?_; (repeat (first | (with_reducible first | refine e_then ?_ | refine e_block ?_ | refine e_then_ret ?_ | refine e_block_ret ?_ | refine e_then_exit ?_ | refine e_block_here ?_ | refine e_then_panic ?_ | refine e_block_panic ?_) | refine e_block_on rfl ?_))
      refine wp_ret ?_; (repeat (first | (with_reducible first | refine e_then ?_ | refine e_block ?_ | refine e_then_ret ?_ | refine e_block_ret ?_ | refine e_then_exit ?_ | refine e_block_here ?_ | refine e_then_panic ?_ | refine e_block_panic ?_) | refine e_block_on rfl ?_))
      refine r_1 (v := (.slice _ _ _)) rfl rfl ?_
      rw [← lentB_length]
      rw [← lentB_length] at H hic
      exact ⟨A, c, rfl, hic, H⟩
-- »lent
-- «kept»
theorem kept_calls {A1 A2 : Option Addr} {c1 c2 : Nat} (hL : Rd w0 A1 ((lentB b).map bv)) (hM : Rd w0 A2 (b.map bv)) (hb : b.length ≤ 140737488355328) :
    Calls Try.prog 12 #[.slice A1 (lentB b).length c1, .slice A2 b.length c2] w0 fun e w' => e = .returned (.bool true) ∧ Heap w0 [] w' := by
  refine c_enter (xa := [.slice A1 (lentB b).length c1, .slice A2 b.length c2]) 40 Try.func12 rfl rfl rfl ?_
  have H := Heap.init w0
  have hll := lentB_length (b := b)
  refine wp_seq ?_
  -- R0
  refine c_region ?_
  refine L1 rfl rfl H (y_assign (v := (.bool _)) rfl rfl) ?_
  refine e_list ?_; (repeat (first | (with_reducible first | refine e_then ?_ | refine e_block ?_ | refine e_then_ret ?_ | refine e_block_ret ?_ | refine e_then_exit ?_ | refine e_block_here ?_ | refine e_then_panic ?_ | refine e_block_panic ?_) | refine e_block_on rfl ?_))
  refine wp_seq ?_
  refine wp_seq ?_
  -- R1
  refine c_region ?_
  refine L1 rfl rfl H (y_move (v := (.slice _ _ _)) rfl rfl) ?_
  refine L1 rfl rfl H (y_len_slice rfl rfl Try.underlying22) ?_
  refine L1 rfl rfl H (y_move (v := (.slice _ _ _)) rfl rfl) ?_
  refine L1 rfl rfl H (y_len_slice rfl rfl Try.underlying22) ?_
  refine L1 rfl rfl H (y_add (r := ((b.length + 64 : Nat) : Int)) rfl rfl rfl (by rw [wr_i64 (by omega) (by omega)]; omega)) ?_
  refine L1 rfl rfl H (y_neqE (by omega) rfl rfl rfl) ?_
  refine e_list ?_; (repeat (first | (with_reducible first | refine e_then ?_ | refine e_block ?_ | refine e_then_ret ?_ | refine e_block_ret ?_ | refine e_then_exit ?_ | refine e_block_here ?_ | refine e_then_panic ?_ | refine e_block_panic ?_) | refine e_block_on rfl ?_))
  refine c_f rfl ?_   -- if 0
  refine wp_skip ?_; (repeat (first | (with_reducible first | refine e_then ?_ | refine e_block ?_ | refine e_then_ret ?_ | refine e_block_ret ?_ | refine e_then_exit ?_ | refine e_block_here ?_ | refine e_then_panic ?_ | refine e_block_panic ?_) | refine e_block_on rfl ?_))
  refine wp_seq ?_
  refine wp_seq ?_
  -- R3
  refine c_region ?_
  refine L1 rfl rfl H (y_assign (v := (.int .i64 _)) rfl rfl) ?_
  refine e_list ?_; (repeat (first | (with_reducible first | refine e_then ?_ | refine e_block ?_ | refine e_then_ret ?_ | refine e_block_ret ?_ | refine e_then_exit ?_ | refine e_block_here ?_ | refine e_then_panic ?_ | refine e_block_panic ?_) | refine e_block_on rfl ?_))
  refine wp_block ?_   -- block 0
  refine c_loop (ι := Nat) (fun i f w => (∃ gx, f = ov [(0, .slice A1 (lentB b).length c1), (1, .slice A2 b.length c2), (5, .int .i64 (i : Nat))] gx) ∧ Heap w0 ([]) w ∧ i ≤ b.length + 64) (fun i => b.length + 64 - i) 0 ?_ ?_
  · exact ⟨ov_ex _ ⟨rfl, rfl, rfl, trivial⟩, H, by omega⟩
  rintro i f w ⟨⟨gg, rfl⟩, H, hi⟩
  refine wp_seq ?_
  refine wp_seq ?_
  -- R4
  refine c_region ?_
  refine L1 rfl rfl H (y_move (v := (.int .i64 _)) rfl rfl) ?_
  refine L1 rfl rfl H (y_move (v := (.slice _ _ _)) rfl rfl) ?_
  refine L1 rfl rfl H (y_len_slice rfl rfl Try.underlying22) ?_
  refine L1 rfl rfl H (y_lss rfl rfl rfl) ?_
  refine e_list ?_; (repeat (first | (with_reducible first | refine e_then ?_ | refine e_block ?_ | refine e_then_ret ?_ | refine e_block_ret ?_ | refine e_then_exit ?_ | refine e_block_here ?_ | refine e_then_panic ?_ | refine e_block_panic ?_) | refine e_block_on rfl ?_))
  refine c_if rfl (fun h1 => ?_) (fun h1 => ?_)   -- if 1
  · skip
    refine wp_skip ?_; (repeat (first | (with_reducible first | refine e_then ?_ | refine e_block ?_ | refine e_then_ret ?_ | refine e_block_ret ?_ | refine e_then_exit ?_ | refine e_block_here ?_ | refine e_then_panic ?_ | refine e_block_panic ?_) | refine e_block_on rfl ?_))
    refine wp_seq ?_
    refine wp_block ?_   -- block 1
    refine wp_seq ?_
    -- R6
    refine c_region ?_
    refine L1 rfl rfl H (y_move (v := (.int .i64 _)) rfl rfl) ?_
    refine L1 rfl rfl H (y_move (v := (.slice _ _ _)) rfl rfl) ?_
    refine L1 rfl rfl H (y_len_slice rfl rfl Try.underlying22) ?_
    refine L1 rfl rfl H (y_sub (r := (i : Int) - (b.length : Int)) rfl rfl rfl (by rw [wr_i64 (by omega) (by omega)])) ?_
    have htm := tmod_lo ((i : Int) - (b.length : Int))
    refine L1 rfl rfl H (y_rem (r := ((i : Int) - (b.length : Int)).tmod 40) rfl rfl rfl (by omega) rfl) ?_
    refine L1 rfl rfl H (y_add (r := 201 + ((i : Int) - (b.length : Int)).tmod 40) rfl rfl rfl (wr_i64 (by omega) (by omega))) ?_
    refine L1 rfl rfl H (y_conv (r := IntKind.u8.wrap (201 + ((i : Int) - (b.length : Int)).tmod 40)) rfl rfl Try.underlying3 Try.underlying5 rfl) ?_
    refine L1 rfl rfl H (y_assign (v := (.int .u8 _)) rfl rfl) ?_
    refine e_list ?_; (repeat (first | (with_reducible first | refine e_then ?_ | refine e_block ?_ | refine e_then_ret ?_ | refine e_block_ret ?_ | refine e_then_exit ?_ | refine e_block_here ?_ | refine e_then_panic ?_ | refine e_block_panic ?_) | refine e_block_on rfl ?_))
    refine wp_seq ?_
    refine wp_seq ?_
    -- R7
    refine c_region ?_
    refine L1 rfl rfl H (y_move (v := (.int .i64 _)) rfl rfl) ?_
    refine L1 rfl rfl H (y_move (v := (.slice _ _ _)) rfl rfl) ?_
    refine L1 rfl rfl H (y_len_slice rfl rfl Try.underlying22) ?_
    refine L1 rfl rfl H (y_lss rfl rfl rfl) ?_
    refine e_list ?_; (repeat (first | (with_reducible first | refine e_then ?_ | refine e_block ?_ | refine e_then_ret ?_ | refine e_block_ret ?_ | refine e_then_exit ?_ | refine e_block_here ?_ | refine e_then_panic ?_ | refine e_block_panic ?_) | refine e_block_on rfl ?_))
    refine c_if rfl (fun h2 => ?_) (fun h2 => ?_)   -- if 2
    · skip
      have hq : (((lentB b).getD i 0).toNat : Int) = ((b.getD i 0).toNat : Int) := by rw [lentB_lo (by omega)]
      -- R8
      refine c_region ?_
      refine L1 rfl rfl H (y_move (v := (.slice _ _ _)) rfl rfl) ?_
      refine L1 rfl rfl H (y_move (v := (.int .i64 _)) rfl rfl) ?_
      obtain ⟨a2, rfl, _⟩ := hM.some (j := i) (by rw [List.length_map]; omega)
      refine L1 rfl rfl H (y_indexSl rfl rfl rfl Try.underlying22 Try.sizeOf5 (by omega) (by omega)) ?_
      refine L1 rfl rfl H (y_load (v := bv (b.getD i 0)) rfl rfl Try.isAgg5 (Dig.rd_get hM (by omega))) ?_
      refine L1 rfl rfl H (y_assign (v := (.int .u8 _)) rfl rfl) ?_
      refine e_list ?_; (repeat (first | (with_reducible first | refine e_then ?_ | refine e_block ?_ | refine e_then_ret ?_ | refine e_block_ret ?_ | refine e_then_exit ?_ | refine e_block_here ?_ | refine e_then_panic ?_ | refine e_block_panic ?_) | refine e_block_on rfl ?_))
      refine wp_seq ?_
      -- R9
      refine c_region ?_
      refine L1 rfl rfl H (y_move (v := (.slice _ _ _)) rfl rfl) ?_
      refine L1 rfl rfl H (y_move (v := (.int .i64 _)) rfl rfl) ?_
      obtain ⟨a1, rfl, _⟩ := hL.some (j := i) (by rw [List.length_map]; omega)
      refine L1 rfl rfl H (y_indexSl rfl rfl rfl Try.underlying22 Try.sizeOf5 (by omega) (by omega)) ?_
      refine L1 rfl rfl H (y_load (v := bv ((lentB b).getD i 0)) rfl rfl Try.isAgg5 (Dig.rd_get hL (by omega))) ?_
      refine L1 rfl rfl H (y_move (v := (.int .u8 _)) rfl rfl) ?_
      refine L1 rfl rfl H (y_neqE hq rfl rfl rfl) ?_
      refine e_list ?_; (repeat (first | (with_reducible first | refine e_then ?_ | refine e_block ?_ | refine e_then_ret ?_ | refine e_block_ret ?_ | refine e_then_exit ?_ | refine e_block_here ?_ | refine e_then_panic ?_ | refine e_block_panic ?_) | refine e_block_on rfl ?_))
      refine c_f rfl ?_   -- if 3
      refine wp_skip ?_; (repeat (first | (with_reducible first | refine e_then ?_ | refine e_block ?_ | refine e_then_ret ?_ | refine e_block_ret ?_ | refine e_then_exit ?_ | refine e_block_here ?_ | refine e_then_panic ?_ | refine e_block_panic ?_) | refine e_block_on rfl ?_))
      -- R5
      refine c_region ?_
      refine L1 rfl rfl H (y_move (v := (.int .i64 _)) rfl rfl) ?_
      refine L1 rfl rfl H (y_add (r := ((i + 1 : Nat) : Int)) rfl rfl rfl (by rw [wr_i64 (by omega) (by omega)]; omega)) ?_
      refine L1 rfl rfl H (y_assign (v := (.int .i64 _)) rfl rfl) ?_
      refine e_list ?_; (repeat (first | (with_reducible first | refine e_then ?_ | refine e_block ?_ | refine e_then_ret ?_ | refine e_block_ret ?_ | refine e_then_exit ?_ | refine e_block_here ?_ | refine e_then_panic ?_ | refine e_block_panic ?_) | refine e_block_on rfl ?_))
      exact ⟨i + 1, _, rfl, ⟨ov_ex _ ⟨rfl, rfl, rfl, trivial⟩, H, by omega⟩, by omega⟩
    · skip
      have hq : (((lentB b).getD i 0).toNat : Int) = IntKind.u8.wrap (201 + ((i : Int) - (b.length : Int)).tmod 40) := by
        have h1 : b.length ≤ i := by omega
        rw [lentB_hi h1 (by omega), show (i : Int) - (b.length : Int) = ((i - b.length : Nat) : Int) by omega, show ((i - b.length : Nat) : Int).tmod 40 = (((i - b.length) % 40 : Nat) : Int) from (Int.ofNat_tmod _ 40).symm, show (201 : Int) + (((i - b.length) % 40 : Nat) : Int) = ((201 + (i - b.length) % 40 : Nat) : Int) by omega, Dig.u8_ofNat]
      refine wp_skip ?_; (repeat (first | (with_reducible first | refine e_then ?_ | refine e_block ?_ | refine e_then_ret ?_ | refine e_block_ret ?_ | refine e_then_exit ?_ | refine e_block_here ?_ | refine e_then_panic ?_ | refine e_block_panic ?_) | refine e_block_on rfl ?_))
      refine wp_seq ?_
      -- R9
      refine c_region ?_
      refine L1 rfl rfl H (y_move (v := (.slice _ _ _)) rfl rfl) ?_
      refine L1 rfl rfl H (y_move (v := (.int .i64 _)) rfl rfl) ?_
      obtain ⟨a1, rfl, _⟩ := hL.some (j := i) (by rw [List.length_map]; omega)
      refine L1 rfl rfl H (y_indexSl rfl rfl rfl Try.underlying22 Try.sizeOf5 (by omega) (by omega)) ?_
      refine L1 rfl rfl H (y_load (v := bv ((lentB b).getD i 0)) rfl rfl Try.isAgg5 (Dig.rd_get hL (by omega))) ?_
      refine L1 rfl rfl H (y_move (v := (.int .u8 _)) rfl rfl) ?_
      refine L1 rfl rfl H (y_neqE hq rfl rfl rfl) ?_
      refine e_list ?_; (repeat (first | (with_reducible first | refine e_then ?_ | refine e_block ?_ | refine e_then_ret ?_ | refine e_block_ret ?_ | refine e_then_exit ?_ | refine e_block_here ?_ | refine e_then_panic ?_ | refine e_block_panic ?_) | refine e_block_on rfl ?_))
      refine c_f rfl ?_   -- if 4
      refine wp_skip ?_; (repeat (first | (with_reducible first | refine e_then ?_ | refine e_block ?_ | refine e_then_ret ?_ | refine e_block_ret ?_ | refine e_then_exit ?_ | refine e_block_here ?_ | refine e_then_panic ?_ | refine e_block_panic ?_) | refine e_block_on rfl ?_))
      -- R5
      refine c_region ?_
      refine L1 rfl rfl H (y_move (v := (.int .i64 _)) rfl rfl) ?_
      refine L1 rfl rfl H (y_add (r := ((i + 1 : Nat) : Int)) rfl rfl rfl (by rw [wr_i64 (by omega) (by omega)]; omega)) ?_
      refine L1 rfl rfl H (y_assign (v := (.int .i64 _)) rfl rfl) ?_
      refine e_list ?_; (repeat (first | (with_reducible first | refine e_then ?_ | refine e_block ?_ | refine e_then_ret ?_ | refine e_block_ret ?_ | refine e_then_exit ?_ | refine e_block_here ?_ | refine e_then_panic ?_ | refine e_block_panic ?_) | refine e_block_on rfl ?_))
      exact ⟨i + 1, _, rfl, ⟨ov_ex _ ⟨rfl, rfl, rfl, trivial⟩, H, by omega⟩, by omega⟩
  · skip
    refine wp_exit ?_; (repeat (first | (with_reducible first | refine e_then ?_ | refine e_block ?_ | refine e_then_ret ?_ | refine e_block_ret ?_ | refine e_then_exit ?_ | refine e_block_here ?_ | refine e_then_panic ?_ | refine e_block_panic ?_) | refine e_block_on rfl ?_))
    refine wp_seq ?_
    -- R11
    refine c_region ?_
    refine L1 rfl rfl H (y_assign (v := (.bool _)) rfl rfl) ?_
    refine e_list ?_; (repeat (first | (with_reducible first | refine e_then ?_ | refine e_block ?_ | refine e_then_ret ?_ | refine e_block_ret ?_ | refine e_then_exit ?_ | refine e_block_here ?_ | refine e_then_panic ?_ | refine e_block_panic ?_) | refine e_block_on rfl ?_))
    refine wp_ret ?_; (repeat (first | (with_reducible first | refine e_then ?_ | refine e_block ?_ | refine e_then_ret ?_ | refine e_block_ret ?_ | refine e_then_exit ?_ | refine e_block_here ?_ | refine e_then_panic ?_ | refine e_block_panic ?_) | refine e_block_on rfl ?_))
    refine r_1 (v := (.bool _)) rfl rfl ?_
    exact ⟨rfl, H⟩
-- »kept
-- «pick»
theorem tmod_bd {k : Int} {n : Nat} (hn : 0 < n) : -(n : Int) < k.tmod n ∧ k.tmod n < n := by
  rcases Int.le_total 0 k with h | h
  · have h1 := Int.tmod_nonneg n h
    have h2 := Int.tmod_lt_of_pos k (b := n) (by omega)
    omega
  · have e : k.tmod n = -((-k).tmod n) := by rw [Int.neg_tmod, Int.neg_neg]
    have h1 := Int.tmod_nonneg n (a := -k) (by omega)
    have h2 := Int.tmod_lt_of_pos (-k) (b := n) (by omega)
    omega
theorem pick_calls {k : Int} {n : Nat} (hn : 0 < n) (hb : n ≤ 140737488355328) :
    Calls Try.prog 13 #[.int .i64 k, .int .i64 (n : Nat)] w0 fun e w' => ∃ r : Nat, r < n ∧ e = .returned (.int .i64 (r : Nat)) ∧ Heap w0 [] w' := by
  refine c_enter (xa := [.int .i64 k, .int .i64 (n : Nat)]) 16 Try.func13 rfl rfl rfl ?_
  have H := Heap.init w0
  have htm : -(n : Int) < k.tmod n ∧ k.tmod n < n := tmod_bd hn
  refine wp_seq ?_
  -- R0
  refine c_region ?_
  refine L1 rfl rfl H (y_assign (v := (.int .i64 _)) rfl rfl) ?_
  refine e_list ?_; (repeat (first | (with_reducible first | refine e_then ?_ | refine e_block ?_ | refine e_then_ret ?_ | refine e_block_ret ?_ | refine e_then_exit ?_ | refine e_block_here ?_ | refine e_then_panic ?_ | refine e_block_panic ?_) | refine e_block_on rfl ?_))
  refine wp_seq ?_
  refine wp_seq ?_
  -- R1
  refine c_region ?_
  refine L1 rfl rfl H (y_move (v := (.int .i64 _)) rfl rfl) ?_
  refine L1 rfl rfl H (y_lss rfl rfl rfl) ?_
  refine e_list ?_; (repeat (first | (with_reducible first | refine e_then ?_ | refine e_block ?_ | refine e_then_ret ?_ | refine e_block_ret ?_ | refine e_then_exit ?_ | refine e_block_here ?_ | refine e_then_panic ?_ | refine e_block_panic ?_) | refine e_block_on rfl ?_))
  refine c_if rfl (fun h0 => absurd h0 (by omega)) (fun h0 => ?_)   -- if 0
  · skip
    refine wp_skip ?_; (repeat (first | (with_reducible first | refine e_then ?_ | refine e_block ?_ | refine e_then_ret ?_ | refine e_block_ret ?_ | refine e_then_exit ?_ | refine e_block_here ?_ | refine e_then_panic ?_ | refine e_block_panic ?_) | refine e_block_on rfl ?_))
    refine wp_seq ?_
    -- R3
    refine c_region ?_
    refine L1 rfl rfl H (y_move (v := (.int .i64 _)) rfl rfl) ?_
    refine L1 rfl rfl H (y_move (v := (.int .i64 _)) rfl rfl) ?_
    refine L1 rfl rfl H (y_rem (r := k.tmod n) rfl rfl rfl (by omega) rfl) ?_
    refine L1 rfl rfl H (y_assign (v := (.int .i64 _)) rfl rfl) ?_
    refine e_list ?_; (repeat (first | (with_reducible first | refine e_then ?_ | refine e_block ?_ | refine e_then_ret ?_ | refine e_block_ret ?_ | refine e_then_exit ?_ | refine e_block_here ?_ | refine e_then_panic ?_ | refine e_block_panic ?_) | refine e_block_on rfl ?_))
    refine wp_seq ?_
    refine wp_seq ?_
    -- R4
    refine c_region ?_
    refine L1 rfl rfl H (y_move (v := (.int .i64 _)) rfl rfl) ?_
    refine L1 rfl rfl H (y_lss rfl rfl rfl) ?_
    refine e_list ?_; (repeat (first | (with_reducible first | refine e_then ?_ | refine e_block ?_ | refine e_then_ret ?_ | refine e_block_ret ?_ | refine e_then_exit ?_ | refine e_block_here ?_ | refine e_then_panic ?_ | refine e_block_panic ?_) | refine e_block_on rfl ?_))
    refine c_if rfl (fun h1 => ?_) (fun h1 => ?_)   -- if 1
    · skip
      -- R5
      refine c_region ?_
      refine L1 rfl rfl H (y_move (v := (.int .i64 _)) rfl rfl) ?_
      refine L1 rfl rfl H (y_move (v := (.int .i64 _)) rfl rfl) ?_
      refine L1 rfl rfl H (y_add (r := k.tmod n + n) rfl rfl rfl (wr_i64 (by omega) (by omega))) ?_
      refine L1 rfl rfl H (y_assign (v := (.int .i64 _)) rfl rfl) ?_
      refine e_list ?_; (repeat (first | (with_reducible first | refine e_then ?_ | refine e_block ?_ | refine e_then_ret ?_ | refine e_block_ret ?_ | refine e_then_exit ?_ | refine e_block_here ?_ | refine e_then_panic ?_ | refine e_block_panic ?_) | refine e_block_on rfl ?_))
      refine wp_seq ?_
      -- R6
      refine c_region ?_
      refine L1 rfl rfl H (y_move (v := (.int .i64 _)) rfl rfl) ?_
      refine L1 rfl rfl H (y_assign (v := (.int .i64 _)) rfl rfl) ?_
      refine e_list ?_; (repeat (first | (with_reducible first | refine e_then ?_ | refine e_block ?_ | refine e_then_ret ?_ | refine e_block_ret ?_ | refine e_then_exit ?_ | refine e_block_here ?_ | refine e_then_panic ?_ | refine e_block_panic ?_) | refine e_block_on rfl ?_))
      refine wp_ret ?_; (repeat (first | (with_reducible first | refine e_then ?_ | refine e_block ?_ | refine e_then_ret ?_ | refine e_block_ret ?_ | refine e_then_exit ?_ | refine e_block_here ?_ | refine e_then_panic ?_ | refine e_block_panic ?_) | refine e_block_on rfl ?_))
      refine r_1 (v := (.int .i64 _)) rfl rfl ?_
      exact ⟨(k.tmod n + n).toNat, by omega, by rw [Int.toNat_of_nonneg (by omega)], H⟩
    · skip
      refine wp_skip ?_; (repeat (first | (with_reducible first | refine e_then ?_ | refine e_block ?_ | refine e_then_ret ?_ | refine e_block_ret ?_ | refine e_then_exit ?_ | refine e_block_here ?_ | refine e_then_panic ?_ | refine e_block_panic ?_) | refine e_block_on rfl ?_))
      refine wp_seq ?_
      -- R6
      refine c_region ?_
      refine L1 rfl rfl H (y_move (v := (.int .i64 _)) rfl rfl) ?_
      refine L1 rfl rfl H (y_assign (v := (.int .i64 _)) rfl rfl) ?_
      refine e_list ?_; (repeat (first | (with_reducible first | refine e_then ?_ | refine e_block ?_ | refine e_then_ret ?_ | refine e_block_ret ?_ | refine e_then_exit ?_ | refine e_block_here ?_ | refine e_then_panic ?_ | refine e_block_panic ?_) | refine e_block_on rfl ?_))
      refine wp_ret ?_; (repeat (first | (with_reducible first | refine e_then ?_ | refine e_block ?_ | refine e_then_ret ?_ | refine e_block_ret ?_ | refine e_then_exit ?_ | refine e_block_here ?_ | refine e_then_panic ?_ | refine e_block_panic ?_) | refine e_block_on rfl ?_))
      refine r_1 (v := (.int .i64 _)) rfl rfl ?_
      exact ⟨(k.tmod n).toNat, by omega, by rw [Int.toNat_of_nonneg (by omega)], H⟩
-- »pick
end
end Go.Ref
