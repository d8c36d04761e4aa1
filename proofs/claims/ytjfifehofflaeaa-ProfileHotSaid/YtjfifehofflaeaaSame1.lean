/-
  The profile laws' own tools: alike; kept.
-/
import Derived.Test.YtjfifehofflaeaaLent1
import Derived.Laws.StructEq
namespace Go.Pf
open Go.RowKit Go.Eng Go.Proofs
set_option linter.unusedSimpArgs false
set_option linter.unusedVariables false
attribute [local irreducible] wpList wpQuiet wpStill wpMix wpMixE

theorem structSpot : Try.prog.underlying 105 = some (.struct (Try.prog.fieldsOf 105)) := by kernel_rfl
theorem heldSpot : Try.prog.stoodInHeld 105 = false := by kernel_rfl
theorem guardSpot : Try.prog.eqGuardType Try.prog.depth 105 = false := by kernel_rfl
theorem eq_spot (s t : Sp) (w : World) : (Op.equalIn 10000 105 (.agg (spV s).toArray) (.agg (spV t).toArray)).run Try.prog w = .ok (decide (s = t)) w := by
  have u1 := Try.underlying2
  have a1 := Try.isAgg2
  have z1 := Try.sizeOf2
  have u2 := Try.underlying103
  have a2 := Try.isAgg103
  have z2 := Try.sizeOf103
  have u3 := Try.underlying3
  have a3 := Try.isAgg3
  have z3 := Try.sizeOf3
  rw [show (10000 : Nat) = 9999 + 1 from rfl, run_equalIn_agg w 9999 105 _ _ structSpot heldSpot]
  simp only [Program.fieldsOf, Try.underlying105, spV]
  obtain ⟨c, a, b, k⟩ := s
  obtain ⟨c', a', b', k'⟩ := t
  go_simp
  by_cases h1 : c = c' <;> by_cases h2 : a = a' <;> by_cases h3 : b = b' <;> by_cases h4 : k = k' <;> simp [h1, h2, h3, h4]
theorem y_neq_spot {C : World → Prop} {o : Oper} {ρ : Operand → Value} {x y : Operand} {s t : Sp} {t2 : TypeId} (ho : o.op = .binOp .neq 105 x y t2) (hx : ρ x = .agg (spV s).toArray) (hy : ρ y = .agg (spV t).toArray) : Gives Try.prog C o ρ (.bool (decide (s ≠ t))) := fun w _ => by
  have e : (!decide (s = t)) = decide (s ≠ t) := by by_cases h : s = t <;> simp [h]
  simp only [execOp, ho, hx, hy, Sem.run_bind, run_eqGuard_agg w .neq 105 x y _ _ guardSpot, Result.andThen_ok, run_neq_struct, eq_spot s t w, e, Sem.run_pure]
theorem y_neq_spotF {C : World → Prop} {o : Oper} {ρ : Operand → Value} {x y : Operand} {s : Sp} {t2 : TypeId} (ho : o.op = .binOp .neq 105 x y t2) (hx : ρ x = .agg (spV s).toArray) (hy : ρ y = .agg (spV s).toArray) : Gives Try.prog C o ρ (.bool false) := by
  have := y_neq_spot (C := C) ho hx hy
  rw [decide_eq_false (by simp)] at this
  exact this
theorem take_stepG {α : Type} {l m : List α} {d : α} {i : Nat} (h1 : i < l.length) (h2 : i < m.length) (ht : l.take i = m.take i) (hg : l.getD i d = m.getD i d) : l.take (i + 1) = m.take (i + 1) := by
  rw [List.getD_eq_getElem?_getD, List.getD_eq_getElem?_getD, List.getElem?_eq_getElem h1, List.getElem?_eq_getElem h2] at hg
  rw [List.take_add_one, List.take_add_one, ht, List.getElem?_eq_getElem h1, List.getElem?_eq_getElem h2]
  simp only [Option.getD_some] at hg
  rw [hg]
theorem lentL_hi {l : List Sp} {k : Nat} (h : k < 64) : (lentL l).getD (l.length + k) sp0 = ⟨-9, 0, 0, (k : Int)⟩ := by
  unfold lentL tailS
  rw [List.getD_eq_getElem?_getD, List.getElem?_append_right (by omega), List.getElem?_map, show l.length + k - l.length = k by omega, List.getElem?_range h]
  rfl
theorem lentL_length {l : List Sp} : (lentL l).length = l.length + 64 := by simp [lentL, tailS_length]
section
variable {w0 w : World} {R : List Ent} {A1 A2 : Option Addr} {fs gs : Fs} {B1 B2 : Nat → Option Addr} {cc1 cc2 : Nat → Nat} {cap1 cap2 : Nat}
-- «same»
theorem sameProfile_calls (hP : PfRd w0 A1 fs B1 cc1) (hQ : PfRd w0 A2 gs B2 cc2) (hb : fs.length ≤ 5864062014634) (hn : ∀ j, j < fs.length → (fs.getD j []).length ≤ 5864062014634) :
    Calls Try.prog 35 #[.agg #[.slice A1 fs.length cap1], .agg #[.slice A2 gs.length cap2]] w0 fun e w' => e = .returned (.bool (decide (fs = gs))) ∧ Heap w0 [] w' := by
  refine c_enter (xa := [.agg #[.slice A1 fs.length cap1], .agg #[.slice A2 gs.length cap2]]) 61 Try.func35 rfl rfl rfl ?_
  have H := Heap.init w0
  refine wp_seq ?_
  -- R0
  refine c_region ?_
  refine Lbox rfl rfl rfl (z := .agg #[.slice A1 fs.length cap1]) rfl H (cs := [.slice A1 fs.length cap1]) rfl ?_; intro b2 w H
  refine Lbox rfl rfl rfl (z := .agg #[.slice A2 gs.length cap2]) rfl H (cs := [.slice A2 gs.length cap2]) rfl ?_; intro b3 w H
  refine L1 rfl rfl H (y_assign (v := (.bool _)) rfl rfl) ?_
  refine e_list ?_; (repeat (first | (with_reducible first | refine e_then ?_ | refine e_block ?_ | refine e_then_ret ?_ | refine e_block_ret ?_ | refine e_then_exit ?_ | refine e_block_here ?_ | refine e_then_panic ?_ | refine e_block_panic ?_) | refine e_block_on rfl ?_))
  refine wp_seq ?_
  refine wp_seq ?_
  -- R1
  refine c_region ?_
  refine L1 rfl rfl H (y_fieldAddr 0 rfl rfl Try.underlying45 rfl Try.sizeOf43 rfl) ?_
  refine L1 rfl rfl H (y_load (v := (.slice _ _ _)) rfl rfl Try.isAgg43 (by first | exact cell_blk (k := 0) rfl rfl | exact cell_blk (k := 1) rfl rfl | exact cell_blk (k := 2) rfl rfl | exact cell_blk (k := 3) rfl rfl | exact cell_blk (k := 4) rfl rfl | exact cell_blk (k := 5) rfl rfl | exact cell_blk (k := 6) rfl rfl | exact cell_blk (k := 7) rfl rfl)) ?_
  refine L1 rfl rfl H (y_len_slice rfl rfl Try.underlying43) ?_
  refine L1 rfl rfl H (y_fieldAddr 0 rfl rfl Try.underlying45 rfl Try.sizeOf43 rfl) ?_
  refine L1 rfl rfl H (y_load (v := (.slice _ _ _)) rfl rfl Try.isAgg43 (by first | exact cell_blk (k := 0) rfl rfl | exact cell_blk (k := 1) rfl rfl | exact cell_blk (k := 2) rfl rfl | exact cell_blk (k := 3) rfl rfl | exact cell_blk (k := 4) rfl rfl | exact cell_blk (k := 5) rfl rfl | exact cell_blk (k := 6) rfl rfl | exact cell_blk (k := 7) rfl rfl)) ?_
  refine L1 rfl rfl H (y_len_slice rfl rfl Try.underlying43) ?_
  refine L1 rfl rfl H (y_neq rfl rfl rfl) ?_
  refine e_list ?_; (repeat (first | (with_reducible first | refine e_then ?_ | refine e_block ?_ | refine e_then_ret ?_ | refine e_block_ret ?_ | refine e_then_exit ?_ | refine e_block_here ?_ | refine e_then_panic ?_ | refine e_block_panic ?_) | refine e_block_on rfl ?_))
  refine c_if rfl (fun hd => ?_) (fun hd => ?_)   -- if 0
  · skip
    have hne : ¬ fs = gs := fun h => by subst h; exact hd rfl
    refine wp_seq ?_
    -- R2
    refine c_region ?_
    refine L1 rfl rfl H (y_assign (v := (.bool _)) rfl rfl) ?_
    refine e_list ?_; (repeat (first | (with_reducible first | refine e_then ?_ | refine e_block ?_ | refine e_then_ret ?_ | refine e_block_ret ?_ | refine e_then_exit ?_ | refine e_block_here ?_ | refine e_then_panic ?_ | refine e_block_panic ?_) | refine e_block_on rfl ?_))
    refine wp_ret ?_; (repeat (first | (with_reducible first | refine e_then ?_ | refine e_block ?_ | refine e_then_ret ?_ | refine e_block_ret ?_ | refine e_then_exit ?_ | refine e_block_here ?_ | refine e_then_panic ?_ | refine e_block_panic ?_) | refine e_block_on rfl ?_))
    refine r_1 (v := (.bool _)) rfl rfl ?_
    rw [decide_eq_false hne]
    exact ⟨rfl, H.clear⟩
  · skip
    have hlm : fs.length = gs.length := by omega
    refine wp_skip ?_; (repeat (first | (with_reducible first | refine e_then ?_ | refine e_block ?_ | refine e_then_ret ?_ | refine e_block_ret ?_ | refine e_then_exit ?_ | refine e_block_here ?_ | refine e_then_panic ?_ | refine e_block_panic ?_) | refine e_block_on rfl ?_))
    refine wp_seq ?_
    refine wp_seq ?_
    -- R3
    refine c_region ?_
    refine L1 rfl rfl H (y_assign (v := (.int .i64 _)) rfl rfl) ?_
    refine e_list ?_; (repeat (first | (with_reducible first | refine e_then ?_ | refine e_block ?_ | refine e_then_ret ?_ | refine e_block_ret ?_ | refine e_then_exit ?_ | refine e_block_here ?_ | refine e_then_panic ?_ | refine e_block_panic ?_) | refine e_block_on rfl ?_))
    refine wp_block ?_   -- block 0
    refine c_loop (ι := Nat) (fun i f w => (∃ gx, f = ov [(2, .pointer (some ⟨b2, 0, none⟩)), (3, .pointer (some ⟨b3, 0, none⟩)), (5, .int .i64 (i : Nat))] gx) ∧ Heap w0 ([Ent.blk b3 45 [.slice A2 gs.length cap2], Ent.blk b2 45 [.slice A1 fs.length cap1]]) w ∧ i ≤ fs.length ∧ fs.take i = gs.take i) (fun i => fs.length - i) 0 ?_ ?_
    · exact ⟨ov_ex _ ⟨rfl, rfl, rfl, trivial⟩, H, by omega, rfl⟩
    rintro i f w ⟨⟨gg, rfl⟩, H, hi, ht⟩
    refine wp_seq ?_
    refine wp_seq ?_
    -- R4
    refine c_region ?_
    refine L1 rfl rfl H (y_move (v := (.int .i64 _)) rfl rfl) ?_
    refine L1 rfl rfl H (y_fieldAddr 0 rfl rfl Try.underlying45 rfl Try.sizeOf43 rfl) ?_
    refine L1 rfl rfl H (y_load (v := (.slice _ _ _)) rfl rfl Try.isAgg43 (by first | exact cell_blk (k := 0) rfl rfl | exact cell_blk (k := 1) rfl rfl | exact cell_blk (k := 2) rfl rfl | exact cell_blk (k := 3) rfl rfl | exact cell_blk (k := 4) rfl rfl | exact cell_blk (k := 5) rfl rfl | exact cell_blk (k := 6) rfl rfl | exact cell_blk (k := 7) rfl rfl)) ?_
    refine L1 rfl rfl H (y_len_slice rfl rfl Try.underlying43) ?_
    refine L1 rfl rfl H (y_lss rfl rfl rfl) ?_
    refine e_list ?_; (repeat (first | (with_reducible first | refine e_then ?_ | refine e_block ?_ | refine e_then_ret ?_ | refine e_block_ret ?_ | refine e_then_exit ?_ | refine e_block_here ?_ | refine e_then_panic ?_ | refine e_block_panic ?_) | refine e_block_on rfl ?_))
    refine c_if rfl (fun hd1 => ?_) (fun hd1 => ?_)   -- if 1
    · skip
      have hil : i < fs.length := by omega
      have hNi := hn i hil
      refine wp_skip ?_; (repeat (first | (with_reducible first | refine e_then ?_ | refine e_block ?_ | refine e_then_ret ?_ | refine e_block_ret ?_ | refine e_then_exit ?_ | refine e_block_here ?_ | refine e_then_panic ?_ | refine e_block_panic ?_) | refine e_block_on rfl ?_))
      refine wp_seq ?_
      refine wp_block ?_   -- block 1
      refine wp_seq ?_
      refine wp_seq ?_
      -- R6 draws
      refine c_draw H (by kernel_rfl) (by kernel_rfl) ?_
      refine Q1 rfl rfl (y_fieldAddr 0 rfl rfl Try.underlying45 rfl Try.sizeOf43 rfl) ?_
      refine Q1 rfl rfl (y_load (v := (.slice _ _ _)) rfl rfl Try.isAgg43 (by first | exact cell_blk (k := 0) rfl rfl | exact cell_blk (k := 1) rfl rfl | exact cell_blk (k := 2) rfl rfl | exact cell_blk (k := 3) rfl rfl | exact cell_blk (k := 4) rfl rfl | exact cell_blk (k := 5) rfl rfl | exact cell_blk (k := 6) rfl rfl | exact cell_blk (k := 7) rfl rfl)) ?_
      refine Q1 rfl rfl (y_move (v := (.int .i64 _)) rfl rfl) ?_
      obtain ⟨a1, ha1⟩ := hP.head1 (j := i) (by omega)
      obtain ⟨a2, ha2⟩ := hQ.head1 (j := i) (by omega)
      refine Q1 rfl rfl (y_indexSlA ha1 rfl rfl rfl Try.underlying43 Try.sizeOf107 (by omega) (by omega)) ?_
      refine Q1 rfl rfl (y_load (v := .slice (B1 i) (fs.getD i []).length (cc1 i)) rfl rfl Try.isAgg107 (hP.cellO ha1 (by omega) (Nat.mul_one _))) ?_
      refine Q1 rfl rfl (y_len_slice rfl rfl Try.underlying107) ?_
      refine Q1 rfl rfl (y_fieldAddr 0 rfl rfl Try.underlying45 rfl Try.sizeOf43 rfl) ?_
      refine Q1 rfl rfl (y_load (v := (.slice _ _ _)) rfl rfl Try.isAgg43 (by first | exact cell_blk (k := 0) rfl rfl | exact cell_blk (k := 1) rfl rfl | exact cell_blk (k := 2) rfl rfl | exact cell_blk (k := 3) rfl rfl | exact cell_blk (k := 4) rfl rfl | exact cell_blk (k := 5) rfl rfl | exact cell_blk (k := 6) rfl rfl | exact cell_blk (k := 7) rfl rfl)) ?_
      refine Q1 rfl rfl (y_move (v := (.int .i64 _)) rfl rfl) ?_
      refine Q1 rfl rfl (y_indexSlA ha2 rfl rfl rfl Try.underlying43 Try.sizeOf107 (by omega) (by omega)) ?_
      refine Q1 rfl rfl (y_load (v := .slice (B2 i) (gs.getD i []).length (cc2 i)) rfl rfl Try.isAgg107 (hQ.cellO ha2 (by omega) (Nat.mul_one _))) ?_
      refine Q1 rfl rfl (y_len_slice rfl rfl Try.underlying107) ?_
      refine Q1 rfl rfl (y_neq rfl rfl rfl) ?_
      refine Qend ?_; intro w H; (repeat (first | (with_reducible first | refine e_then ?_ | refine e_block ?_ | refine e_then_ret ?_ | refine e_block_ret ?_ | refine e_then_exit ?_ | refine e_block_here ?_ | refine e_then_panic ?_ | refine e_block_panic ?_) | refine e_block_on rfl ?_))
      refine c_if rfl (fun hd2 => ?_) (fun hd2 => ?_)   -- if 2
      · skip
        have hne : ¬ fs = gs := fun h => by subst h; exact hd2 rfl
        refine wp_seq ?_
        -- R7
        refine c_region ?_
        refine L1 rfl rfl H (y_assign (v := (.bool _)) rfl rfl) ?_
        refine e_list ?_; (repeat (first | (with_reducible first | refine e_then ?_ | refine e_block ?_ | refine e_then_ret ?_ | refine e_block_ret ?_ | refine e_then_exit ?_ | refine e_block_here ?_ | refine e_then_panic ?_ | refine e_block_panic ?_) | refine e_block_on rfl ?_))
        refine wp_ret ?_; (repeat (first | (with_reducible first | refine e_then ?_ | refine e_block ?_ | refine e_then_ret ?_ | refine e_block_ret ?_ | refine e_then_exit ?_ | refine e_block_here ?_ | refine e_then_panic ?_ | refine e_block_panic ?_) | refine e_block_on rfl ?_))
        refine r_1 (v := (.bool _)) rfl rfl ?_
        rw [decide_eq_false hne]
        exact ⟨rfl, H.clear⟩
      · skip
        have hln : (fs.getD i []).length = (gs.getD i []).length := by omega
        refine wp_skip ?_; (repeat (first | (with_reducible first | refine e_then ?_ | refine e_block ?_ | refine e_then_ret ?_ | refine e_block_ret ?_ | refine e_then_exit ?_ | refine e_block_here ?_ | refine e_then_panic ?_ | refine e_block_panic ?_) | refine e_block_on rfl ?_))
        refine wp_seq ?_
        -- R8
        refine c_region ?_
        refine L1 rfl rfl H (y_assign (v := (.int .i64 _)) rfl rfl) ?_
        refine e_list ?_; (repeat (first | (with_reducible first | refine e_then ?_ | refine e_block ?_ | refine e_then_ret ?_ | refine e_block_ret ?_ | refine e_then_exit ?_ | refine e_block_here ?_ | refine e_then_panic ?_ | refine e_block_panic ?_) | refine e_block_on rfl ?_))
        refine wp_block ?_   -- block 2
        refine c_loop (ι := Nat) (fun j f w => (∃ gx, f = ov [(2, .pointer (some ⟨b2, 0, none⟩)), (3, .pointer (some ⟨b3, 0, none⟩)), (5, .int .i64 (i : Nat)), (6, .int .i64 (j : Nat))] gx) ∧ Heap w0 ([Ent.blk b3 45 [.slice A2 gs.length cap2], Ent.blk b2 45 [.slice A1 fs.length cap1]]) w ∧ j ≤ (fs.getD i []).length ∧ (fs.getD i []).take j = (gs.getD i []).take j) (fun j => (fs.getD i []).length - j) 0 ?_ ?_
        · exact ⟨ov_ex _ ⟨rfl, rfl, rfl, rfl, trivial⟩, H, by omega, rfl⟩
        rintro j f w ⟨⟨gg, rfl⟩, H, hj, hu⟩
        refine wp_seq ?_
        refine wp_seq ?_
        -- R9
        refine c_region ?_
        refine L1 rfl rfl H (y_move (v := (.int .i64 _)) rfl rfl) ?_
        refine L1 rfl rfl H (y_fieldAddr 0 rfl rfl Try.underlying45 rfl Try.sizeOf43 rfl) ?_
        refine L1 rfl rfl H (y_load (v := (.slice _ _ _)) rfl rfl Try.isAgg43 (by first | exact cell_blk (k := 0) rfl rfl | exact cell_blk (k := 1) rfl rfl | exact cell_blk (k := 2) rfl rfl | exact cell_blk (k := 3) rfl rfl | exact cell_blk (k := 4) rfl rfl | exact cell_blk (k := 5) rfl rfl | exact cell_blk (k := 6) rfl rfl | exact cell_blk (k := 7) rfl rfl)) ?_
        refine L1 rfl rfl H (y_move (v := (.int .i64 _)) rfl rfl) ?_
        obtain ⟨a1, ha1⟩ := hP.head1 (j := i) (by omega)
        obtain ⟨a2, ha2⟩ := hQ.head1 (j := i) (by omega)
        refine L1 rfl rfl H (y_indexSlA ha1 rfl rfl rfl Try.underlying43 Try.sizeOf107 (by omega) (by omega)) ?_
        refine L1 rfl rfl H (y_load (v := .slice (B1 i) (fs.getD i []).length (cc1 i)) rfl rfl Try.isAgg107 (hP.cellO ha1 (by omega) (Nat.mul_one _))) ?_
        refine L1 rfl rfl H (y_len_slice rfl rfl Try.underlying107) ?_
        refine L1 rfl rfl H (y_lss rfl rfl rfl) ?_
        refine e_list ?_; (repeat (first | (with_reducible first | refine e_then ?_ | refine e_block ?_ | refine e_then_ret ?_ | refine e_block_ret ?_ | refine e_then_exit ?_ | refine e_block_here ?_ | refine e_then_panic ?_ | refine e_block_panic ?_) | refine e_block_on rfl ?_))
        refine c_if rfl (fun hd3 => ?_) (fun hd3 => ?_)   -- if 3
        · skip
          have hjl : j < (fs.getD i []).length := by omega
          refine wp_skip ?_; (repeat (first | (with_reducible first | refine e_then ?_ | refine e_block ?_ | refine e_then_ret ?_ | refine e_block_ret ?_ | refine e_then_exit ?_ | refine e_block_here ?_ | refine e_then_panic ?_ | refine e_block_panic ?_) | refine e_block_on rfl ?_))
          refine wp_seq ?_
          refine wp_block ?_   -- block 3
          refine wp_seq ?_
          -- R11 draws
          refine c_draw H (by kernel_rfl) (by kernel_rfl) ?_
          refine Q1 rfl rfl (y_fieldAddr 0 rfl rfl Try.underlying45 rfl Try.sizeOf43 rfl) ?_
          refine Q1 rfl rfl (y_load (v := (.slice _ _ _)) rfl rfl Try.isAgg43 (by first | exact cell_blk (k := 0) rfl rfl | exact cell_blk (k := 1) rfl rfl | exact cell_blk (k := 2) rfl rfl | exact cell_blk (k := 3) rfl rfl | exact cell_blk (k := 4) rfl rfl | exact cell_blk (k := 5) rfl rfl | exact cell_blk (k := 6) rfl rfl | exact cell_blk (k := 7) rfl rfl)) ?_
          refine Q1 rfl rfl (y_move (v := (.int .i64 _)) rfl rfl) ?_
          obtain ⟨a1, ha1⟩ := hP.head1 (j := i) (by omega)
          obtain ⟨a2, ha2⟩ := hQ.head1 (j := i) (by omega)
          obtain ⟨s1, hs1⟩ := hP.head2 (j := i) (i := j) (by omega) (by omega)
          obtain ⟨s2, hs2⟩ := hQ.head2 (j := i) (i := j) (by omega) (by omega)
          refine Q1 rfl rfl (y_indexSlA ha1 rfl rfl rfl Try.underlying43 Try.sizeOf107 (by omega) (by omega)) ?_
          refine Q1 rfl rfl (y_load (v := .slice (B1 i) (fs.getD i []).length (cc1 i)) rfl rfl Try.isAgg107 (hP.cellO ha1 (by omega) (Nat.mul_one _))) ?_
          refine Q1 rfl rfl (y_move (v := (.int .i64 _)) rfl rfl) ?_
          refine Q1 rfl rfl (y_indexSlA hs1 rfl rfl rfl Try.underlying107 Try.sizeOf105 (by omega) (by omega)) ?_
          refine Q1 rfl rfl (y_loadAgg (vs := spV (spotN fs i j)) rfl rfl Try.isAgg105 Try.sizeOf105 (hP.cellS hs1 (by omega) (by omega) rfl)) ?_
          refine Q1 rfl rfl (y_fieldAddr 0 rfl rfl Try.underlying45 rfl Try.sizeOf43 rfl) ?_
          refine Q1 rfl rfl (y_load (v := (.slice _ _ _)) rfl rfl Try.isAgg43 (by first | exact cell_blk (k := 0) rfl rfl | exact cell_blk (k := 1) rfl rfl | exact cell_blk (k := 2) rfl rfl | exact cell_blk (k := 3) rfl rfl | exact cell_blk (k := 4) rfl rfl | exact cell_blk (k := 5) rfl rfl | exact cell_blk (k := 6) rfl rfl | exact cell_blk (k := 7) rfl rfl)) ?_
          refine Q1 rfl rfl (y_move (v := (.int .i64 _)) rfl rfl) ?_
          refine Q1 rfl rfl (y_indexSlA ha2 rfl rfl rfl Try.underlying43 Try.sizeOf107 (by omega) (by omega)) ?_
          refine Q1 rfl rfl (y_load (v := .slice (B2 i) (gs.getD i []).length (cc2 i)) rfl rfl Try.isAgg107 (hQ.cellO ha2 (by omega) (Nat.mul_one _))) ?_
          refine Q1 rfl rfl (y_move (v := (.int .i64 _)) rfl rfl) ?_
          refine Q1 rfl rfl (y_indexSlA hs2 rfl rfl rfl Try.underlying107 Try.sizeOf105 (by omega) (by omega)) ?_
          refine Q1 rfl rfl (y_loadAgg (vs := spV (spotN gs i j)) rfl rfl Try.isAgg105 Try.sizeOf105 (hQ.cellS hs2 (by omega) (by omega) rfl)) ?_
          refine Q1 rfl rfl (y_neq_spot rfl rfl rfl) ?_
          refine Qend ?_; intro w H; (repeat (first | (with_reducible first | refine e_then ?_ | refine e_block ?_ | refine e_then_ret ?_ | refine e_block_ret ?_ | refine e_then_exit ?_ | refine e_block_here ?_ | refine e_then_panic ?_ | refine e_block_panic ?_) | refine e_block_on rfl ?_))
          refine c_if rfl (fun hd4 => ?_) (fun hd4 => ?_)   -- if 4
          · skip
            have hne : ¬ fs = gs := fun h => by subst h; exact hd4 rfl
            refine wp_seq ?_
            -- R12
            refine c_region ?_
            refine L1 rfl rfl H (y_assign (v := (.bool _)) rfl rfl) ?_
            refine e_list ?_; (repeat (first | (with_reducible first | refine e_then ?_ | refine e_block ?_ | refine e_then_ret ?_ | refine e_block_ret ?_ | refine e_then_exit ?_ | refine e_block_here ?_ | refine e_then_panic ?_ | refine e_block_panic ?_) | refine e_block_on rfl ?_))
            refine wp_ret ?_; (repeat (first | (with_reducible first | refine e_then ?_ | refine e_block ?_ | refine e_then_ret ?_ | refine e_block_ret ?_ | refine e_then_exit ?_ | refine e_block_here ?_ | refine e_then_panic ?_ | refine e_block_panic ?_) | refine e_block_on rfl ?_))
            refine r_1 (v := (.bool _)) rfl rfl ?_
            rw [decide_eq_false hne]
            exact ⟨rfl, H.clear⟩
          · skip
            have hq2 : (fs.getD i []).getD j sp0 = (gs.getD i []).getD j sp0 := Classical.byContradiction hd4
            refine wp_skip ?_; (repeat (first | (with_reducible first | refine e_then ?_ | refine e_block ?_ | refine e_then_ret ?_ | refine e_block_ret ?_ | refine e_then_exit ?_ | refine e_block_here ?_ | refine e_then_panic ?_ | refine e_block_panic ?_) | refine e_block_on rfl ?_))
            -- R10
            refine c_region ?_
            refine L1 rfl rfl H (y_move (v := (.int .i64 _)) rfl rfl) ?_
            refine L1 rfl rfl H (y_add (r := ((j + 1 : Nat) : Int)) rfl rfl rfl (by rw [wr_i64 (by omega) (by omega)]; omega)) ?_
            refine L1 rfl rfl H (y_assign (v := (.int .i64 _)) rfl rfl) ?_
            refine e_list ?_; (repeat (first | (with_reducible first | refine e_then ?_ | refine e_block ?_ | refine e_then_ret ?_ | refine e_block_ret ?_ | refine e_then_exit ?_ | refine e_block_here ?_ | refine e_then_panic ?_ | refine e_block_panic ?_) | refine e_block_on rfl ?_))
            exact ⟨j + 1, _, rfl, ⟨ov_ex _ ⟨rfl, rfl, rfl, rfl, trivial⟩, H, by omega, take_stepG (d := sp0) (by omega) (by omega) hu hq2⟩, by omega⟩
        · skip
          have hq : fs.getD i [] = gs.getD i [] := by rw [← List.take_of_length_le (show (fs.getD i []).length ≤ j by omega), hu, List.take_of_length_le (by omega)]
          refine wp_exit ?_; (repeat (first | (with_reducible first | refine e_then ?_ | refine e_block ?_ | refine e_then_ret ?_ | refine e_block_ret ?_ | refine e_then_exit ?_ | refine e_block_here ?_ | refine e_then_panic ?_ | refine e_block_panic ?_) | refine e_block_on rfl ?_))
          -- R5
          refine c_region ?_
          refine L1 rfl rfl H (y_move (v := (.int .i64 _)) rfl rfl) ?_
          refine L1 rfl rfl H (y_add (r := ((i + 1 : Nat) : Int)) rfl rfl rfl (by rw [wr_i64 (by omega) (by omega)]; omega)) ?_
          refine L1 rfl rfl H (y_assign (v := (.int .i64 _)) rfl rfl) ?_
          refine e_list ?_; (repeat (first | (with_reducible first | refine e_then ?_ | refine e_block ?_ | refine e_then_ret ?_ | refine e_block_ret ?_ | refine e_then_exit ?_ | refine e_block_here ?_ | refine e_then_panic ?_ | refine e_block_panic ?_) | refine e_block_on rfl ?_))
          exact ⟨i + 1, _, rfl, ⟨ov_ex _ ⟨rfl, rfl, rfl, trivial⟩, H, by omega, take_stepG (d := []) (by omega) (by omega) ht hq⟩, by omega⟩
    · skip
      have heq : fs = gs := by rw [← List.take_of_length_le (show fs.length ≤ i by omega), ht, List.take_of_length_le (by omega)]
      refine wp_exit ?_; (repeat (first | (with_reducible first | refine e_then ?_ | refine e_block ?_ | refine e_then_ret ?_ | refine e_block_ret ?_ | refine e_then_exit ?_ | refine e_block_here ?_ | refine e_then_panic ?_ | refine e_block_panic ?_) | refine e_block_on rfl ?_))
      refine wp_seq ?_
      -- R13
      refine c_region ?_
      refine L1 rfl rfl H (y_assign (v := (.bool _)) rfl rfl) ?_
      refine e_list ?_; (repeat (first | (with_reducible first | refine e_then ?_ | refine e_block ?_ | refine e_then_ret ?_ | refine e_block_ret ?_ | refine e_then_exit ?_ | refine e_block_here ?_ | refine e_then_panic ?_ | refine e_block_panic ?_) | refine e_block_on rfl ?_))
      refine wp_ret ?_; (repeat (first | (with_reducible first | refine e_then ?_ | refine e_block ?_ | refine e_then_ret ?_ | refine e_block_ret ?_ | refine e_then_exit ?_ | refine e_block_here ?_ | refine e_then_panic ?_ | refine e_block_panic ?_) | refine e_block_on rfl ?_))
      refine r_1 (v := (.bool _)) rfl rfl ?_
      rw [decide_eq_true heq]
      exact ⟨rfl, H.clear⟩
-- »same
-- «kept»
theorem kept_calls (hP : PfRd w0 A1 fs B1 cc1) (hm : ∀ j, j < fs.length → Rd w0 (B1 j) (cellsV (lentL (fs.getD j []))) ∧ (fs.getD j []).length + 64 ≤ cc1 j) (hQ : PfRd w0 A2 fs B2 cc2) (hb : fs.length ≤ 5864062014634) (hn : ∀ j, j < fs.length → (fs.getD j []).length ≤ 5864062014634) :
    Calls Try.prog 27 #[.agg #[.slice A1 fs.length cap1], .agg #[.slice A2 fs.length cap2]] w0 fun e w' => e = .returned (.bool true) ∧ Heap w0 [] w' := by
  refine c_enter (xa := [.agg #[.slice A1 fs.length cap1], .agg #[.slice A2 fs.length cap2]]) 47 Try.func27 rfl rfl rfl ?_
  have H := Heap.init w0
  refine wp_seq ?_
  -- R0
  refine c_region ?_
  refine Lbox rfl rfl rfl (z := .agg #[.slice A1 fs.length cap1]) rfl H (cs := [.slice A1 fs.length cap1]) rfl ?_; intro b2 w H
  refine Lbox rfl rfl rfl (z := .agg #[.slice A2 fs.length cap2]) rfl H (cs := [.slice A2 fs.length cap2]) rfl ?_; intro b3 w H
  refine L1 rfl rfl H (y_assign (v := (.bool _)) rfl rfl) ?_
  refine e_list ?_; (repeat (first | (with_reducible first | refine e_then ?_ | refine e_block ?_ | refine e_then_ret ?_ | refine e_block_ret ?_ | refine e_then_exit ?_ | refine e_block_here ?_ | refine e_then_panic ?_ | refine e_block_panic ?_) | refine e_block_on rfl ?_))
  refine wp_seq ?_
  refine wp_seq ?_
  -- R1
  refine c_region ?_
  refine L1 rfl rfl H (y_loadAgg (vs := [.slice A1 fs.length cap1]) rfl rfl Try.isAgg45 Try.sizeOf45 (cells_blk (k := 1) rfl rfl)) ?_
  refine L1 rfl rfl H (y_loadAgg (vs := [.slice A2 fs.length cap2]) rfl rfl Try.isAgg45 Try.sizeOf45 (cells_blk (k := 0) rfl rfl)) ?_
  refine Lfn rfl rfl rfl (xa := [.agg #[.slice A1 fs.length cap1], .agg #[.slice A2 fs.length cap2]]) rfl Try.call35 ?_   -- portage/portageref0.SameProfile
  refine (sameProfile_calls (hP.old H) (hQ.old H) hb hn).mono ?_
  rintro e w' ⟨rfl, K⟩
  replace H := H.app0 K
  clear K
  rw [decide_eq_true rfl]
  refine ⟨.bool true, rfl, ?_⟩
  refine L1 rfl rfl H (y_not rfl rfl) ?_
  refine e_list ?_; (repeat (first | (with_reducible first | refine e_then ?_ | refine e_block ?_ | refine e_then_ret ?_ | refine e_block_ret ?_ | refine e_then_exit ?_ | refine e_block_here ?_ | refine e_then_panic ?_ | refine e_block_panic ?_) | refine e_block_on rfl ?_))
  refine c_f rfl ?_   -- if 0
  refine wp_skip ?_; (repeat (first | (with_reducible first | refine e_then ?_ | refine e_block ?_ | refine e_then_ret ?_ | refine e_block_ret ?_ | refine e_then_exit ?_ | refine e_block_here ?_ | refine e_then_panic ?_ | refine e_block_panic ?_) | refine e_block_on rfl ?_))
  refine wp_seq ?_
  refine wp_seq ?_
  -- R3
  refine c_region ?_
  refine L1 rfl rfl H (y_assign (v := (.int .i64 _)) rfl rfl) ?_
  refine e_list ?_; (repeat (first | (with_reducible first | refine e_then ?_ | refine e_block ?_ | refine e_then_ret ?_ | refine e_block_ret ?_ | refine e_then_exit ?_ | refine e_block_here ?_ | refine e_then_panic ?_ | refine e_block_panic ?_) | refine e_block_on rfl ?_))
  refine wp_block ?_   -- block 0
  refine c_loop (ι := Nat) (fun i f w => (∃ gx, f = ov [(2, .pointer (some ⟨b2, 0, none⟩)), (3, .pointer (some ⟨b3, 0, none⟩)), (5, .int .i64 (i : Nat))] gx) ∧ Heap w0 ([Ent.blk b3 45 [.slice A2 fs.length cap2], Ent.blk b2 45 [.slice A1 fs.length cap1]]) w ∧ i ≤ fs.length) (fun i => fs.length - i) 0 ?_ ?_
  · exact ⟨ov_ex _ ⟨rfl, rfl, rfl, trivial⟩, H, by omega⟩
  rintro i f w ⟨⟨gg, rfl⟩, H, hi⟩
  refine wp_seq ?_
  refine wp_seq ?_
  -- R4
  refine c_region ?_
  refine L1 rfl rfl H (y_move (v := (.int .i64 _)) rfl rfl) ?_
  refine L1 rfl rfl H (y_fieldAddr 0 rfl rfl Try.underlying45 rfl Try.sizeOf43 rfl) ?_
  refine L1 rfl rfl H (y_load (v := (.slice _ _ _)) rfl rfl Try.isAgg43 (by first | exact cell_blk (k := 0) rfl rfl | exact cell_blk (k := 1) rfl rfl | exact cell_blk (k := 2) rfl rfl | exact cell_blk (k := 3) rfl rfl | exact cell_blk (k := 4) rfl rfl | exact cell_blk (k := 5) rfl rfl | exact cell_blk (k := 6) rfl rfl | exact cell_blk (k := 7) rfl rfl)) ?_
  refine L1 rfl rfl H (y_len_slice rfl rfl Try.underlying43) ?_
  refine L1 rfl rfl H (y_lss rfl rfl rfl) ?_
  refine e_list ?_; (repeat (first | (with_reducible first | refine e_then ?_ | refine e_block ?_ | refine e_then_ret ?_ | refine e_block_ret ?_ | refine e_then_exit ?_ | refine e_block_here ?_ | refine e_then_panic ?_ | refine e_block_panic ?_) | refine e_block_on rfl ?_))
  refine c_if rfl (fun h1 => ?_) (fun h1 => ?_)   -- if 1
  · skip
    have hil : i < fs.length := by omega
    have hNi := hn i hil
    have hmi := hm i hil
    have hci := hmi.2
    refine wp_skip ?_; (repeat (first | (with_reducible first | refine e_then ?_ | refine e_block ?_ | refine e_then_ret ?_ | refine e_block_ret ?_ | refine e_then_exit ?_ | refine e_block_here ?_ | refine e_then_panic ?_ | refine e_block_panic ?_) | refine e_block_on rfl ?_))
    refine wp_seq ?_
    refine wp_block ?_   -- block 1
    refine wp_seq ?_
    -- R6
    refine c_region ?_
    refine L1 rfl rfl H (y_fieldAddr 0 rfl rfl Try.underlying45 rfl Try.sizeOf43 rfl) ?_
    refine L1 rfl rfl H (y_load (v := (.slice _ _ _)) rfl rfl Try.isAgg43 (by first | exact cell_blk (k := 0) rfl rfl | exact cell_blk (k := 1) rfl rfl | exact cell_blk (k := 2) rfl rfl | exact cell_blk (k := 3) rfl rfl | exact cell_blk (k := 4) rfl rfl | exact cell_blk (k := 5) rfl rfl | exact cell_blk (k := 6) rfl rfl | exact cell_blk (k := 7) rfl rfl)) ?_
    refine L1 rfl rfl H (y_move (v := (.int .i64 _)) rfl rfl) ?_
    obtain ⟨a1, ha1⟩ := hP.head1 (j := i) (by omega)
    obtain ⟨a2, ha2⟩ := hQ.head1 (j := i) (by omega)
    refine L1 rfl rfl H (y_indexSlA ha2 rfl rfl rfl Try.underlying43 Try.sizeOf107 (by omega) (by omega)) ?_
    refine L1 rfl rfl H (y_load (v := .slice (B2 i) (fs.getD i []).length (cc2 i)) rfl rfl Try.isAgg107 (hQ.cellO ha2 (by omega) (Nat.mul_one _))) ?_
    refine L1 rfl rfl H (y_len_slice rfl rfl Try.underlying107) ?_
    refine L1 rfl rfl H (y_assign (v := (.int .i64 _)) rfl rfl) ?_
    refine e_list ?_; (repeat (first | (with_reducible first | refine e_then ?_ | refine e_block ?_ | refine e_then_ret ?_ | refine e_block_ret ?_ | refine e_then_exit ?_ | refine e_block_here ?_ | refine e_then_panic ?_ | refine e_block_panic ?_) | refine e_block_on rfl ?_))
    refine wp_seq ?_
    -- R7
    refine c_region ?_
    refine L1 rfl rfl H (y_fieldAddr 0 rfl rfl Try.underlying45 rfl Try.sizeOf43 rfl) ?_
    refine L1 rfl rfl H (y_load (v := (.slice _ _ _)) rfl rfl Try.isAgg43 (by first | exact cell_blk (k := 0) rfl rfl | exact cell_blk (k := 1) rfl rfl | exact cell_blk (k := 2) rfl rfl | exact cell_blk (k := 3) rfl rfl | exact cell_blk (k := 4) rfl rfl | exact cell_blk (k := 5) rfl rfl | exact cell_blk (k := 6) rfl rfl | exact cell_blk (k := 7) rfl rfl)) ?_
    refine L1 rfl rfl H (y_move (v := (.int .i64 _)) rfl rfl) ?_
    obtain ⟨a1, ha1⟩ := hP.head1 (j := i) (by omega)
    obtain ⟨a2, ha2⟩ := hQ.head1 (j := i) (by omega)
    refine L1 rfl rfl H (y_indexSlA ha1 rfl rfl rfl Try.underlying43 Try.sizeOf107 (by omega) (by omega)) ?_
    refine L1 rfl rfl H (y_load (v := .slice (B1 i) (fs.getD i []).length (cc1 i)) rfl rfl Try.isAgg107 (hP.cellO ha1 (by omega) (Nat.mul_one _))) ?_
    refine L1 rfl rfl H (y_move (v := (.int .i64 _)) rfl rfl) ?_
    refine L1 rfl rfl H (y_add (r := (((fs.getD i []).length + 64 : Nat) : Int)) rfl rfl rfl (by rw [wr_i64 (by omega) (by omega)]; omega)) ?_
    refine L1 rfl rfl H (y_slice_h rfl rfl rfl Try.underlying107 Try.sizeOf105 (by omega) (by omega)) ?_
    refine L1 rfl rfl H (y_assign (v := (.slice _ _ _)) rfl rfl) ?_
    refine e_list ?_; (repeat (first | (with_reducible first | refine e_then ?_ | refine e_block ?_ | refine e_then_ret ?_ | refine e_block_ret ?_ | refine e_then_exit ?_ | refine e_block_here ?_ | refine e_then_panic ?_ | refine e_block_panic ?_) | refine e_block_on rfl ?_))
    refine wp_seq ?_
    -- R8
    refine c_region ?_
    refine L1 rfl rfl H (y_assign (v := (.int .i64 _)) rfl rfl) ?_
    refine e_list ?_; (repeat (first | (with_reducible first | refine e_then ?_ | refine e_block ?_ | refine e_then_ret ?_ | refine e_block_ret ?_ | refine e_then_exit ?_ | refine e_block_here ?_ | refine e_then_panic ?_ | refine e_block_panic ?_) | refine e_block_on rfl ?_))
    refine wp_block ?_   -- block 2
    refine c_loop (ι := Nat) (fun k f w => (∃ gx, f = ov [(2, .pointer (some ⟨b2, 0, none⟩)), (3, .pointer (some ⟨b3, 0, none⟩)), (5, .int .i64 (i : Nat)), (6, .int .i64 ((fs.getD i []).length : Nat)), (7, .slice (B1 i) ((fs.getD i []).length + 64) (cc1 i)), (8, .int .i64 (k : Nat))] gx) ∧ Heap w0 ([Ent.blk b3 45 [.slice A2 fs.length cap2], Ent.blk b2 45 [.slice A1 fs.length cap1]]) w ∧ k ≤ 64) (fun k => 64 - k) 0 ?_ ?_
    · exact ⟨ov_ex _ ⟨rfl, rfl, rfl, rfl, rfl, rfl, trivial⟩, H, by omega⟩
    rintro k f w ⟨⟨gg, rfl⟩, H, hk⟩
    refine wp_seq ?_
    refine wp_seq ?_
    -- R9
    refine c_region ?_
    refine L1 rfl rfl H (y_move (v := (.int .i64 _)) rfl rfl) ?_
    refine L1 rfl rfl H (y_lss rfl rfl rfl) ?_
    refine e_list ?_; (repeat (first | (with_reducible first | refine e_then ?_ | refine e_block ?_ | refine e_then_ret ?_ | refine e_block_ret ?_ | refine e_then_exit ?_ | refine e_block_here ?_ | refine e_then_panic ?_ | refine e_block_panic ?_) | refine e_block_on rfl ?_))
    refine c_if rfl (fun h2 => ?_) (fun h2 => ?_)   -- if 2
    · skip
      refine wp_skip ?_; (repeat (first | (with_reducible first | refine e_then ?_ | refine e_block ?_ | refine e_then_ret ?_ | refine e_block_ret ?_ | refine e_then_exit ?_ | refine e_block_here ?_ | refine e_then_panic ?_ | refine e_block_panic ?_) | refine e_block_on rfl ?_))
      refine wp_seq ?_
      refine wp_block ?_   -- block 3
      refine wp_seq ?_
      -- R11
      refine c_region ?_
      refine L1 rfl rfl H (y_move (v := (.slice _ _ _)) rfl rfl) ?_
      refine L1 rfl rfl H (y_move (v := (.int .i64 _)) rfl rfl) ?_
      refine L1 rfl rfl H (y_move (v := (.int .i64 _)) rfl rfl) ?_
      refine L1 rfl rfl H (y_add (r := (((fs.getD i []).length + k : Nat) : Int)) rfl rfl rfl (by rw [wr_i64 (by omega) (by omega)]; omega)) ?_
      obtain ⟨s1, hs1, _⟩ := hmi.1.some (j := ((fs.getD i []).length + k) * 4) (by rw [cellsV_length, lentL_length]; omega)
      refine L1 rfl rfl H (y_indexSlA hs1 rfl rfl rfl Try.underlying107 Try.sizeOf105 (by omega) (by omega)) ?_
      refine L1 rfl rfl H (y_loadAgg (vs := spV (⟨-9, 0, 0, (k : Int)⟩ : Sp)) rfl rfl Try.isAgg105 Try.sizeOf105 (fun w H t u hu => rd_spot (l := lentL (fs.getD i [])) (i := (fs.getD i []).length + k) (hs1 ▸ hmi.1.old H) (by rw [lentL_length]; omega) rfl t u (by rw [lentL_hi (by omega)]; exact hu))) ?_
      refine L1 rfl rfl H (y_move (v := (.int .i64 _)) rfl rfl) ?_
      refine L1 rfl rfl H (y_build (v := .agg (spV (⟨-9, 0, 0, (k : Int)⟩ : Sp)).toArray) rfl (vals := [(0, .int .i64 (-9)), (3, .int .i64 (k : Nat))]) rfl (by intro w; simp [Instr.build, Instr.fill, go_sem] <;> rfl)) ?_
      refine L1 rfl rfl H (y_neq_spotF rfl rfl rfl) ?_
      refine e_list ?_; (repeat (first | (with_reducible first | refine e_then ?_ | refine e_block ?_ | refine e_then_ret ?_ | refine e_block_ret ?_ | refine e_then_exit ?_ | refine e_block_here ?_ | refine e_then_panic ?_ | refine e_block_panic ?_) | refine e_block_on rfl ?_))
      refine c_f rfl ?_   -- if 3
      refine wp_skip ?_; (repeat (first | (with_reducible first | refine e_then ?_ | refine e_block ?_ | refine e_then_ret ?_ | refine e_block_ret ?_ | refine e_then_exit ?_ | refine e_block_here ?_ | refine e_then_panic ?_ | refine e_block_panic ?_) | refine e_block_on rfl ?_))
      -- R10
      refine c_region ?_
      refine L1 rfl rfl H (y_move (v := (.int .i64 _)) rfl rfl) ?_
      refine L1 rfl rfl H (y_add (r := ((k + 1 : Nat) : Int)) rfl rfl rfl (by rw [wr_i64 (by omega) (by omega)]; omega)) ?_
      refine L1 rfl rfl H (y_assign (v := (.int .i64 _)) rfl rfl) ?_
      refine e_list ?_; (repeat (first | (with_reducible first | refine e_then ?_ | refine e_block ?_ | refine e_then_ret ?_ | refine e_block_ret ?_ | refine e_then_exit ?_ | refine e_block_here ?_ | refine e_then_panic ?_ | refine e_block_panic ?_) | refine e_block_on rfl ?_))
      exact ⟨k + 1, _, rfl, ⟨ov_ex _ ⟨rfl, rfl, rfl, rfl, rfl, rfl, trivial⟩, H, by omega⟩, by omega⟩
    · skip
      refine wp_exit ?_; (repeat (first | (with_reducible first | refine e_then ?_ | refine e_block ?_ | refine e_then_ret ?_ | refine e_block_ret ?_ | refine e_then_exit ?_ | refine e_block_here ?_ | refine e_then_panic ?_ | refine e_block_panic ?_) | refine e_block_on rfl ?_))
      -- R5
      refine c_region ?_
      refine L1 rfl rfl H (y_move (v := (.int .i64 _)) rfl rfl) ?_
      refine L1 rfl rfl H (y_add (r := ((i + 1 : Nat) : Int)) rfl rfl rfl (by rw [wr_i64 (by omega) (by omega)]; omega)) ?_
      refine L1 rfl rfl H (y_assign (v := (.int .i64 _)) rfl rfl) ?_
      refine e_list ?_; (repeat (first | (with_reducible first | refine e_then ?_ | refine e_block ?_ | refine e_then_ret ?_ | refine e_block_ret ?_ | refine e_then_exit ?_ | refine e_block_here ?_ | refine e_then_panic ?_ | refine e_block_panic ?_) | refine e_block_on rfl ?_))
      exact ⟨i + 1, _, rfl, ⟨ov_ex _ ⟨rfl, rfl, rfl, trivial⟩, H, by omega⟩, by omega⟩
  · skip
    refine wp_exit ?_; (repeat (first | (with_reducible first | refine e_then ?_ | refine e_block ?_ | refine e_then_ret ?_ | refine e_block_ret ?_ | refine e_then_exit ?_ | refine e_block_here ?_ | refine e_then_panic ?_ | refine e_block_panic ?_) | refine e_block_on rfl ?_))
    refine wp_seq ?_
    -- R13
    refine c_region ?_
    refine L1 rfl rfl H (y_assign (v := (.bool _)) rfl rfl) ?_
    refine e_list ?_; (repeat (first | (with_reducible first | refine e_then ?_ | refine e_block ?_ | refine e_then_ret ?_ | refine e_block_ret ?_ | refine e_then_exit ?_ | refine e_block_here ?_ | refine e_then_panic ?_ | refine e_block_panic ?_) | refine e_block_on rfl ?_))
    refine wp_ret ?_; (repeat (first | (with_reducible first | refine e_then ?_ | refine e_block ?_ | refine e_then_ret ?_ | refine e_block_ret ?_ | refine e_then_exit ?_ | refine e_block_here ?_ | refine e_then_panic ?_ | refine e_block_panic ?_) | refine e_block_on rfl ?_))
    refine r_1 (v := (.bool _)) rfl rfl ?_
    exact ⟨rfl, H.clear⟩
-- »kept
end
end Go.Pf
