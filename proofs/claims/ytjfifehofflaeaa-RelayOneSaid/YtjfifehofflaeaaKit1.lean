/-
  The laws' own tools: alike.
-/
import Derived.Test.YtjfifehofflaeaaRef2
namespace Go.Ref
open Go.RowKit Go.Eng Go.Proofs Go.Wire Go.Relay
set_option linter.unusedSimpArgs false
set_option linter.unusedVariables false
attribute [local irreducible] wpList wpQuiet wpStill wpMix wpMixE

theorem take_step {l m : By} {i : Nat} (h1 : i < l.length) (h2 : i < m.length) (ht : l.take i = m.take i) (hg : l.getD i 0 = m.getD i 0) : l.take (i + 1) = m.take (i + 1) := by
  rw [List.getD_eq_getElem?_getD, List.getD_eq_getElem?_getD, List.getElem?_eq_getElem h1, List.getElem?_eq_getElem h2] at hg
  rw [List.take_add_one, List.take_add_one, ht, List.getElem?_eq_getElem h1, List.getElem?_eq_getElem h2]
  simp only [Option.getD_some] at hg
  rw [hg]
section
variable {w0 w : World} {R : List Ent} {g : Nat} {A : Option Addr} {cap : Nat} {l m : By}
-- «sameBytes»
theorem sameBytes_calls {A1 A2 : Option Addr} {c1 c2 : Nat} (h1 : Rd w0 A1 (l.map bv)) (h2 : Rd w0 A2 (m.map bv)) (hb : l.length ≤ 140737488355328) :
    Calls Try.prog 14 #[.slice A1 l.length c1, .slice A2 m.length c2] w0 fun e w' => e = .returned (.bool (decide (l = m))) ∧ Heap w0 [] w' := by
  refine c_enter (xa := [.slice A1 l.length c1, .slice A2 m.length c2]) 26 Try.func14 rfl rfl rfl ?_
  have H := Heap.init w0
  refine wp_seq ?_
  -- R0
  refine c_region ?_
  refine L1 rfl rfl H (y_assign (v := (.bool _)) rfl rfl) ?_
  refine e_list ?_; (repeat (first | (with_reducible first | refine e_then ?_ | refine e_block ?_ | refine e_then_ret ?_ | refine e_block_ret ?_ | refine e_then_exit ?_ | refine e_block_here ?_ | refine e_then_panic ?_ | refine e_block_panic ?_) | refine e_block_on rfl ?_))
  refine wp_seq ?_
  refine wp_seq ?_
  -- R1
  refine c_region ?_
  refine L1 rfl rfl H (y_move (v := (.slice _ _ _)) rfl rfl) ?_
  refine L1 rfl rfl H (y_len_slice rfl rfl Try.underlying22) ?_
  refine L1 rfl rfl H (y_move (v := (.slice _ _ _)) rfl rfl) ?_
  refine L1 rfl rfl H (y_len_slice rfl rfl Try.underlying22) ?_
  refine L1 rfl rfl H (y_neq rfl rfl rfl) ?_
  refine e_list ?_; (repeat (first | (with_reducible first | refine e_then ?_ | refine e_block ?_ | refine e_then_ret ?_ | refine e_block_ret ?_ | refine e_then_exit ?_ | refine e_block_here ?_ | refine e_then_panic ?_ | refine e_block_panic ?_) | refine e_block_on rfl ?_))
  refine c_if rfl (fun hd => ?_) (fun hd => ?_)   -- if 0
  · skip
    have hne : ¬ l = m := fun h => by subst h; exact hd rfl
    refine wp_seq ?_
    -- R2
    refine c_region ?_
    refine L1 rfl rfl H (y_assign (v := (.bool _)) rfl rfl) ?_
    refine e_list ?_; (repeat (first | (with_reducible first | refine e_then ?_ | refine e_block ?_ | refine e_then_ret ?_ | refine e_block_ret ?_ | refine e_then_exit ?_ | refine e_block_here ?_ | refine e_then_panic ?_ | refine e_block_panic ?_) | refine e_block_on rfl ?_))
    refine wp_ret ?_; (repeat (first | (with_reducible first | refine e_then ?_ | refine e_block ?_ | refine e_then_ret ?_ | refine e_block_ret ?_ | refine e_then_exit ?_ | refine e_block_here ?_ | refine e_then_panic ?_ | refine e_block_panic ?_) | refine e_block_on rfl ?_))
    refine r_1 (v := (.bool _)) rfl rfl ?_
    rw [decide_eq_false hne]
    exact ⟨rfl, H⟩
  · skip
    have hlm : l.length = m.length := by omega
    refine wp_skip ?_; (repeat (first | (with_reducible first | refine e_then ?_ | refine e_block ?_ | refine e_then_ret ?_ | refine e_block_ret ?_ | refine e_then_exit ?_ | refine e_block_here ?_ | refine e_then_panic ?_ | refine e_block_panic ?_) | refine e_block_on rfl ?_))
    refine wp_seq ?_
    refine wp_seq ?_
    -- R3
    refine c_region ?_
    refine L1 rfl rfl H (y_assign (v := (.int .i64 _)) rfl rfl) ?_
    refine e_list ?_; (repeat (first | (with_reducible first | refine e_then ?_ | refine e_block ?_ | refine e_then_ret ?_ | refine e_block_ret ?_ | refine e_then_exit ?_ | refine e_block_here ?_ | refine e_then_panic ?_ | refine e_block_panic ?_) | refine e_block_on rfl ?_))
    refine wp_block ?_   -- block 0
    refine c_loop (ι := Nat) (fun i f w => (∃ gx, f = ov [(0, .slice A1 l.length c1), (1, .slice A2 m.length c2), (5, .int .i64 (i : Nat))] gx) ∧ Heap w0 ([]) w ∧ i ≤ l.length ∧ l.take i = m.take i) (fun i => l.length - i) 0 ?_ ?_
    · exact ⟨ov_ex _ ⟨rfl, rfl, rfl, trivial⟩, H, by omega, rfl⟩
    rintro i f w ⟨⟨gg, rfl⟩, H, hi, ht⟩
    refine wp_seq ?_
    refine wp_seq ?_
    -- R4
    refine c_region ?_
    refine L1 rfl rfl H (y_move (v := (.int .i64 _)) rfl rfl) ?_
    refine L1 rfl rfl H (y_move (v := (.slice _ _ _)) rfl rfl) ?_
    refine L1 rfl rfl H (y_len_slice rfl rfl Try.underlying22) ?_
    refine L1 rfl rfl H (y_lss rfl rfl rfl) ?_
    refine e_list ?_; (repeat (first | (with_reducible first | refine e_then ?_ | refine e_block ?_ | refine e_then_ret ?_ | refine e_block_ret ?_ | refine e_then_exit ?_ | refine e_block_here ?_ | refine e_then_panic ?_ | refine e_block_panic ?_) | refine e_block_on rfl ?_))
    refine c_if rfl (fun hd1 => ?_) (fun hd1 => ?_)   -- if 1
    · skip
      have hil : i < l.length := by omega
      refine wp_skip ?_; (repeat (first | (with_reducible first | refine e_then ?_ | refine e_block ?_ | refine e_then_ret ?_ | refine e_block_ret ?_ | refine e_then_exit ?_ | refine e_block_here ?_ | refine e_then_panic ?_ | refine e_block_panic ?_) | refine e_block_on rfl ?_))
      refine wp_seq ?_
      refine wp_block ?_   -- block 1
      refine wp_seq ?_
      -- R6 draws
      refine c_draw H (by kernel_rfl) (by kernel_rfl) ?_
      refine Q1 rfl rfl (y_move (v := (.slice _ _ _)) rfl rfl) ?_
      refine Q1 rfl rfl (y_move (v := (.int .i64 _)) rfl rfl) ?_
      obtain ⟨a1, rfl, _⟩ := h1.some (j := i) (by rw [List.length_map]; omega)
      obtain ⟨a2, rfl, _⟩ := h2.some (j := i) (by rw [List.length_map]; omega)
      refine Q1 rfl rfl (y_indexSl rfl rfl rfl Try.underlying22 Try.sizeOf5 (by omega) (by omega)) ?_
      refine Q1 rfl rfl (y_load (v := bv (l.getD i 0)) rfl rfl Try.isAgg5 (Dig.rd_get h1 hil)) ?_
      refine Q1 rfl rfl (y_move (v := (.slice _ _ _)) rfl rfl) ?_
      refine Q1 rfl rfl (y_move (v := (.int .i64 _)) rfl rfl) ?_
      refine Q1 rfl rfl (y_indexSl rfl rfl rfl Try.underlying22 Try.sizeOf5 (by omega) (by omega)) ?_
      refine Q1 rfl rfl (y_load (v := bv (m.getD i 0)) rfl rfl Try.isAgg5 (Dig.rd_get h2 (by omega))) ?_
      refine Q1 rfl rfl (y_neq rfl rfl rfl) ?_
      refine Qend ?_; intro w H; (repeat (first | (with_reducible first | refine e_then ?_ | refine e_block ?_ | refine e_then_ret ?_ | refine e_block_ret ?_ | refine e_then_exit ?_ | refine e_block_here ?_ | refine e_then_panic ?_ | refine e_block_panic ?_) | refine e_block_on rfl ?_))
      refine c_if rfl (fun hd2 => ?_) (fun hd2 => ?_)   -- if 2
      · skip
        have hne : ¬ l = m := fun h => by subst h; exact hd2 rfl
        refine wp_seq ?_
        -- R7
        refine c_region ?_
        refine L1 rfl rfl H (y_assign (v := (.bool _)) rfl rfl) ?_
        refine e_list ?_; (repeat (first | (with_reducible first | refine e_then ?_ | refine e_block ?_ | refine e_then_ret ?_ | refine e_block_ret ?_ | refine e_then_exit ?_ | refine e_block_here ?_ | refine e_then_panic ?_ | refine e_block_panic ?_) | refine e_block_on rfl ?_))
        refine wp_ret ?_; (repeat (first | (with_reducible first | refine e_then ?_ | refine e_block ?_ | refine e_then_ret ?_ | refine e_block_ret ?_ | refine e_then_exit ?_ | refine e_block_here ?_ | refine e_then_panic ?_ | refine e_block_panic ?_) | refine e_block_on rfl ?_))
        refine r_1 (v := (.bool _)) rfl rfl ?_
        rw [decide_eq_false hne]
        exact ⟨rfl, H⟩
      · skip
        have hq : l.getD i 0 = m.getD i 0 := UInt8.toNat_inj.1 (by omega)
        refine wp_skip ?_; (repeat (first | (with_reducible first | refine e_then ?_ | refine e_block ?_ | refine e_then_ret ?_ | refine e_block_ret ?_ | refine e_then_exit ?_ | refine e_block_here ?_ | refine e_then_panic ?_ | refine e_block_panic ?_) | refine e_block_on rfl ?_))
        -- R5
        refine c_region ?_
        refine L1 rfl rfl H (y_move (v := (.int .i64 _)) rfl rfl) ?_
        refine L1 rfl rfl H (y_add (r := ((i + 1 : Nat) : Int)) rfl rfl rfl (by rw [wr_i64 (by omega) (by omega)]; omega)) ?_
        refine L1 rfl rfl H (y_assign (v := (.int .i64 _)) rfl rfl) ?_
        refine e_list ?_; (repeat (first | (with_reducible first | refine e_then ?_ | refine e_block ?_ | refine e_then_ret ?_ | refine e_block_ret ?_ | refine e_then_exit ?_ | refine e_block_here ?_ | refine e_then_panic ?_ | refine e_block_panic ?_) | refine e_block_on rfl ?_))
        exact ⟨i + 1, _, rfl, ⟨ov_ex _ ⟨rfl, rfl, rfl, trivial⟩, H, by omega, take_step hil (by omega) ht hq⟩, by omega⟩
    · skip
      have hlm2 : l = m := by rw [← List.take_of_length_le (show l.length ≤ i by omega), ht, List.take_of_length_le (by omega)]
      refine wp_exit ?_; (repeat (first | (with_reducible first | refine e_then ?_ | refine e_block ?_ | refine e_then_ret ?_ | refine e_block_ret ?_ | refine e_then_exit ?_ | refine e_block_here ?_ | refine e_then_panic ?_ | refine e_block_panic ?_) | refine e_block_on rfl ?_))
      refine wp_seq ?_
      -- R8
      refine c_region ?_
      refine L1 rfl rfl H (y_assign (v := (.bool _)) rfl rfl) ?_
      refine e_list ?_; (repeat (first | (with_reducible first | refine e_then ?_ | refine e_block ?_ | refine e_then_ret ?_ | refine e_block_ret ?_ | refine e_then_exit ?_ | refine e_block_here ?_ | refine e_then_panic ?_ | refine e_block_panic ?_) | refine e_block_on rfl ?_))
      refine wp_ret ?_; (repeat (first | (with_reducible first | refine e_then ?_ | refine e_block ?_ | refine e_then_ret ?_ | refine e_block_ret ?_ | refine e_then_exit ?_ | refine e_block_here ?_ | refine e_then_panic ?_ | refine e_block_panic ?_) | refine e_block_on rfl ?_))
      refine r_1 (v := (.bool _)) rfl rfl ?_
      rw [decide_eq_true hlm2]
      exact ⟨rfl, H⟩
-- »sameBytes
-- «sameTexts»
theorem take_stepT {l m : List By} {i : Nat} (h1 : i < l.length) (h2 : i < m.length) (ht : l.take i = m.take i) (hg : l.getD i [] = m.getD i []) : l.take (i + 1) = m.take (i + 1) := by
  rw [List.getD_eq_getElem?_getD, List.getD_eq_getElem?_getD, List.getElem?_eq_getElem h1, List.getElem?_eq_getElem h2] at hg
  rw [List.take_add_one, List.take_add_one, ht, List.getElem?_eq_getElem h1, List.getElem?_eq_getElem h2]
  simp only [Option.getD_some] at hg
  rw [hg]
theorem rd_getT {w0 : World} {L : List Ent} {a : Addr} {ts : List By} {i : Nat} (hR : Rd w0 (some a) (ts.map tv)) (h : i < ts.length) : ∀ w, Heap w0 L w → w.cell? (a.add (i * 1)) = some (tv (ts.getD i [])) := fun w H => by
  rw [Nat.mul_one]
  refine cell_old (hR.at_ (j := i) ?_) w H
  rw [List.getElem?_map, List.getD_eq_getElem?_getD, List.getElem?_eq_getElem h]
  rfl
theorem sameTexts_calls {l m : List By} {A1 A2 : Option Addr} {c1 c2 : Nat} (h1 : Rd w0 A1 (l.map tv)) (h2 : Rd w0 A2 (m.map tv)) (hb : l.length ≤ 140737488355328) :
    Calls Try.prog 15 #[.slice A1 l.length c1, .slice A2 m.length c2] w0 fun e w' => e = .returned (.bool (decide (l = m))) ∧ Heap w0 [] w' := by
  refine c_enter (xa := [.slice A1 l.length c1, .slice A2 m.length c2]) 26 Try.func15 rfl rfl rfl ?_
  have H := Heap.init w0
  refine wp_seq ?_
  -- R0
  refine c_region ?_
  refine L1 rfl rfl H (y_assign (v := (.bool _)) rfl rfl) ?_
  refine e_list ?_; (repeat (first | (with_reducible first | refine e_then ?_ | refine e_block ?_ | refine e_then_ret ?_ | refine e_block_ret ?_ | refine e_then_exit ?_ | refine e_block_here ?_ | refine e_then_panic ?_ | refine e_block_panic ?_) | refine e_block_on rfl ?_))
  refine wp_seq ?_
  refine wp_seq ?_
  -- R1
  refine c_region ?_
  refine L1 rfl rfl H (y_move (v := (.slice _ _ _)) rfl rfl) ?_
  refine L1 rfl rfl H (y_len_slice rfl rfl Try.underlying24) ?_
  refine L1 rfl rfl H (y_move (v := (.slice _ _ _)) rfl rfl) ?_
  refine L1 rfl rfl H (y_len_slice rfl rfl Try.underlying24) ?_
  refine L1 rfl rfl H (y_neq rfl rfl rfl) ?_
  refine e_list ?_; (repeat (first | (with_reducible first | refine e_then ?_ | refine e_block ?_ | refine e_then_ret ?_ | refine e_block_ret ?_ | refine e_then_exit ?_ | refine e_block_here ?_ | refine e_then_panic ?_ | refine e_block_panic ?_) | refine e_block_on rfl ?_))
  refine c_if rfl (fun hd => ?_) (fun hd => ?_)   -- if 0
  · skip
    have hne : ¬ l = m := fun h => by subst h; exact hd rfl
    refine wp_seq ?_
    -- R2
    refine c_region ?_
    refine L1 rfl rfl H (y_assign (v := (.bool _)) rfl rfl) ?_
    refine e_list ?_; (repeat (first | (with_reducible first | refine e_then ?_ | refine e_block ?_ | refine e_then_ret ?_ | refine e_block_ret ?_ | refine e_then_exit ?_ | refine e_block_here ?_ | refine e_then_panic ?_ | refine e_block_panic ?_) | refine e_block_on rfl ?_))
    refine wp_ret ?_; (repeat (first | (with_reducible first | refine e_then ?_ | refine e_block ?_ | refine e_then_ret ?_ | refine e_block_ret ?_ | refine e_then_exit ?_ | refine e_block_here ?_ | refine e_then_panic ?_ | refine e_block_panic ?_) | refine e_block_on rfl ?_))
    refine r_1 (v := (.bool _)) rfl rfl ?_
    rw [decide_eq_false hne]
    exact ⟨rfl, H⟩
  · skip
    have hlm : l.length = m.length := by omega
    refine wp_skip ?_; (repeat (first | (with_reducible first | refine e_then ?_ | refine e_block ?_ | refine e_then_ret ?_ | refine e_block_ret ?_ | refine e_then_exit ?_ | refine e_block_here ?_ | refine e_then_panic ?_ | refine e_block_panic ?_) | refine e_block_on rfl ?_))
    refine wp_seq ?_
    refine wp_seq ?_
    -- R3
    refine c_region ?_
    refine L1 rfl rfl H (y_assign (v := (.int .i64 _)) rfl rfl) ?_
    refine e_list ?_; (repeat (first | (with_reducible first | refine e_then ?_ | refine e_block ?_ | refine e_then_ret ?_ | refine e_block_ret ?_ | refine e_then_exit ?_ | refine e_block_here ?_ | refine e_then_panic ?_ | refine e_block_panic ?_) | refine e_block_on rfl ?_))
    refine wp_block ?_   -- block 0
    refine c_loop (ι := Nat) (fun i f w => (∃ gx, f = ov [(0, .slice A1 l.length c1), (1, .slice A2 m.length c2), (5, .int .i64 (i : Nat))] gx) ∧ Heap w0 ([]) w ∧ i ≤ l.length ∧ l.take i = m.take i) (fun i => l.length - i) 0 ?_ ?_
    · exact ⟨ov_ex _ ⟨rfl, rfl, rfl, trivial⟩, H, by omega, rfl⟩
    rintro i f w ⟨⟨gg, rfl⟩, H, hi, ht⟩
    refine wp_seq ?_
    refine wp_seq ?_
    -- R4
    refine c_region ?_
    refine L1 rfl rfl H (y_move (v := (.int .i64 _)) rfl rfl) ?_
    refine L1 rfl rfl H (y_move (v := (.slice _ _ _)) rfl rfl) ?_
    refine L1 rfl rfl H (y_len_slice rfl rfl Try.underlying24) ?_
    refine L1 rfl rfl H (y_lss rfl rfl rfl) ?_
    refine e_list ?_; (repeat (first | (with_reducible first | refine e_then ?_ | refine e_block ?_ | refine e_then_ret ?_ | refine e_block_ret ?_ | refine e_then_exit ?_ | refine e_block_here ?_ | refine e_then_panic ?_ | refine e_block_panic ?_) | refine e_block_on rfl ?_))
    refine c_if rfl (fun hd1 => ?_) (fun hd1 => ?_)   -- if 1
    · skip
      have hil : i < l.length := by omega
      refine wp_skip ?_; (repeat (first | (with_reducible first | refine e_then ?_ | refine e_block ?_ | refine e_then_ret ?_ | refine e_block_ret ?_ | refine e_then_exit ?_ | refine e_block_here ?_ | refine e_then_panic ?_ | refine e_block_panic ?_) | refine e_block_on rfl ?_))
      refine wp_seq ?_
      refine wp_block ?_   -- block 1
      refine wp_seq ?_
      -- R6 draws
      refine c_draw H (by kernel_rfl) (by kernel_rfl) ?_
      refine Q1 rfl rfl (y_move (v := (.slice _ _ _)) rfl rfl) ?_
      refine Q1 rfl rfl (y_move (v := (.int .i64 _)) rfl rfl) ?_
      obtain ⟨a1, rfl, _⟩ := h1.some (j := i) (by rw [List.length_map]; omega)
      obtain ⟨a2, rfl, _⟩ := h2.some (j := i) (by rw [List.length_map]; omega)
      refine Q1 rfl rfl (y_indexSl rfl rfl rfl Try.underlying24 Try.sizeOf9 (by omega) (by omega)) ?_
      refine Q1 rfl rfl (y_load (v := tv (l.getD i [])) rfl rfl Try.isAgg9 (rd_getT h1 hil)) ?_
      refine Q1 rfl rfl (y_move (v := (.slice _ _ _)) rfl rfl) ?_
      refine Q1 rfl rfl (y_move (v := (.int .i64 _)) rfl rfl) ?_
      refine Q1 rfl rfl (y_indexSl rfl rfl rfl Try.underlying24 Try.sizeOf9 (by omega) (by omega)) ?_
      refine Q1 rfl rfl (y_load (v := tv (m.getD i [])) rfl rfl Try.isAgg9 (rd_getT h2 (by omega))) ?_
      refine Q1 rfl rfl (y_str_neq rfl rfl rfl) ?_
      refine Qend ?_; intro w H; (repeat (first | (with_reducible first | refine e_then ?_ | refine e_block ?_ | refine e_then_ret ?_ | refine e_block_ret ?_ | refine e_then_exit ?_ | refine e_block_here ?_ | refine e_then_panic ?_ | refine e_block_panic ?_) | refine e_block_on rfl ?_))
      refine c_if rfl (fun hd2 => ?_) (fun hd2 => ?_)   -- if 2
      · skip
        have hne : ¬ l = m := fun h => by subst h; exact hd2 rfl
        refine wp_seq ?_
        -- R7
        refine c_region ?_
        refine L1 rfl rfl H (y_assign (v := (.bool _)) rfl rfl) ?_
        refine e_list ?_; (repeat (first | (with_reducible first | refine e_then ?_ | refine e_block ?_ | refine e_then_ret ?_ | refine e_block_ret ?_ | refine e_then_exit ?_ | refine e_block_here ?_ | refine e_then_panic ?_ | refine e_block_panic ?_) | refine e_block_on rfl ?_))
        refine wp_ret ?_; (repeat (first | (with_reducible first | refine e_then ?_ | refine e_block ?_ | refine e_then_ret ?_ | refine e_block_ret ?_ | refine e_then_exit ?_ | refine e_block_here ?_ | refine e_then_panic ?_ | refine e_block_panic ?_) | refine e_block_on rfl ?_))
        refine r_1 (v := (.bool _)) rfl rfl ?_
        rw [decide_eq_false hne]
        exact ⟨rfl, H⟩
      · skip
        have hq : l.getD i [] = m.getD i [] := Classical.byContradiction fun h => hd2 (bytes_ne.2 h)
        refine wp_skip ?_; (repeat (first | (with_reducible first | refine e_then ?_ | refine e_block ?_ | refine e_then_ret ?_ | refine e_block_ret ?_ | refine e_then_exit ?_ | refine e_block_here ?_ | refine e_then_panic ?_ | refine e_block_panic ?_) | refine e_block_on rfl ?_))
        -- R5
        refine c_region ?_
        refine L1 rfl rfl H (y_move (v := (.int .i64 _)) rfl rfl) ?_
        refine L1 rfl rfl H (y_add (r := ((i + 1 : Nat) : Int)) rfl rfl rfl (by rw [wr_i64 (by omega) (by omega)]; omega)) ?_
        refine L1 rfl rfl H (y_assign (v := (.int .i64 _)) rfl rfl) ?_
        refine e_list ?_; (repeat (first | (with_reducible first | refine e_then ?_ | refine e_block ?_ | refine e_then_ret ?_ | refine e_block_ret ?_ | refine e_then_exit ?_ | refine e_block_here ?_ | refine e_then_panic ?_ | refine e_block_panic ?_) | refine e_block_on rfl ?_))
        exact ⟨i + 1, _, rfl, ⟨ov_ex _ ⟨rfl, rfl, rfl, trivial⟩, H, by omega, take_stepT hil (by omega) ht hq⟩, by omega⟩
    · skip
      have hlm2 : l = m := by rw [← List.take_of_length_le (show l.length ≤ i by omega), ht, List.take_of_length_le (by omega)]
      refine wp_exit ?_; (repeat (first | (with_reducible first | refine e_then ?_ | refine e_block ?_ | refine e_then_ret ?_ | refine e_block_ret ?_ | refine e_then_exit ?_ | refine e_block_here ?_ | refine e_then_panic ?_ | refine e_block_panic ?_) | refine e_block_on rfl ?_))
      refine wp_seq ?_
      -- R8
      refine c_region ?_
      refine L1 rfl rfl H (y_assign (v := (.bool _)) rfl rfl) ?_
      refine e_list ?_; (repeat (first | (with_reducible first | refine e_then ?_ | refine e_block ?_ | refine e_then_ret ?_ | refine e_block_ret ?_ | refine e_then_exit ?_ | refine e_block_here ?_ | refine e_then_panic ?_ | refine e_block_panic ?_) | refine e_block_on rfl ?_))
      refine wp_ret ?_; (repeat (first | (with_reducible first | refine e_then ?_ | refine e_block ?_ | refine e_then_ret ?_ | refine e_block_ret ?_ | refine e_then_exit ?_ | refine e_block_here ?_ | refine e_then_panic ?_ | refine e_block_panic ?_) | refine e_block_on rfl ?_))
      refine r_1 (v := (.bool _)) rfl rfl ?_
      rw [decide_eq_true hlm2]
      exact ⟨rfl, H⟩
-- »sameTexts
end
end Go.Ref
