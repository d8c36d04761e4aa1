/-
  The document's answer: a parcel is opened; bytes are sealed.
-/
import Derived.Test.YtjfifehofflaeaaRef3
import Derived.Test.YtjfifehofflaeaaRel2
import Derived.Test.YtjfifehofflaeaaSpec10
import Derived.Test.YtjfifehofflaeaaEng12
namespace Go.Ref
open Go.RowKit Go.Eng Go.Proofs Go.Wire Go.Relay
set_option linter.unusedSimpArgs false
set_option linter.unusedVariables false
attribute [local irreducible] wpList wpQuiet wpStill wpMix wpMixE

theorem rdTexts_done2 {b : By} {n i : Nat} {s : RS} {ts : List By} (h : ¬((i : Int) < (n : Int) ∧ s.2 = 0)) : rdTexts b (n - i) s ts = (s, ts) := by
  by_cases h0 : s.2 = 0
  · have : n - i = 0 := by omega
    rw [this]; rfl
  · exact rdTexts_stop h0
theorem rdTexts_next {b : By} {n i : Nat} {s : RS} {ts : List By} (hi : i < n) (h : s.2 = 0) : rdTexts b (n - i) s ts = rdTexts b (n - (i + 1)) (rdText b 4096 s).1 (ts ++ [(rdText b 4096 s).2]) := by
  rw [show n - i = (n - (i + 1)) + 1 by omega, rdTexts_step h]
section
variable {w0 w : World} {R : List Ent} {g : Nat} {A : Option Addr} {cap : Nat} {b : By}
-- «open»
theorem refOpen_calls {A0 : Option Addr} {c0 : Nat} (hR : Rd w0 A0 (b.map bv)) (hb : b.length ≤ 140737488353000) :
    Calls Try.prog 45 #[.slice A0 b.length c0] w0 fun e w' =>
      (∃ k, openS b = .error k ∧ e = .returned (.tuple #[.slice none 0 0, .slice none 0 0, .int .i64 (k : Nat)]) ∧ Heap w0 [] w') ∨
      (∃ l ts A1 c1 A2 c2, openS b = .ok (l, ts) ∧ e = .returned (.tuple #[.slice A1 l.length c1, .slice A2 ts.length c2, .int .i64 0]) ∧ l.length ≤ c1 ∧ ts.length ≤ c2 ∧ Heap w0 [rowB w0 A1 c1 l, rowT w0 A2 c2 ts] w') := by
  refine c_enter (xa := [.slice A0 b.length c0]) 53 Try.func45 rfl rfl rfl ?_
  have H := Heap.init w0
  refine wp_seq ?_
  -- R0
  refine c_region ?_
  refine L1 rfl rfl H (y_assign (v := (.slice _ _ _)) rfl rfl) ?_
  refine L1 rfl rfl H (y_assign (v := (.slice _ _ _)) rfl rfl) ?_
  refine L1 rfl rfl H (y_assign (v := (.int .i64 _)) rfl rfl) ?_
  refine e_list ?_; (repeat (first | (with_reducible first | refine e_then ?_ | refine e_block ?_ | refine e_then_ret ?_ | refine e_block_ret ?_ | refine e_then_exit ?_ | refine e_block_here ?_ | refine e_then_panic ?_ | refine e_block_panic ?_) | refine e_block_on rfl ?_))
  refine wp_seq ?_
  -- R1
  refine c_region ?_
  refine L1 rfl rfl H (y_move (v := (.slice _ _ _)) rfl rfl) ?_
  refine Lfn rfl rfl rfl (xa := [.slice A0 b.length c0]) rfl Try.call95 ?_   -- portage/portageref30.ahead
  refine (ahead_calls hR hb).mono ?_
  rintro e w ⟨rfl, H⟩
  refine ⟨_, rfl, ?_⟩
  refine L1 rfl rfl H (y_assign (v := (.int .i64 _)) rfl rfl) ?_
  refine e_list ?_; (repeat (first | (with_reducible first | refine e_then ?_ | refine e_block ?_ | refine e_then_ret ?_ | refine e_block_ret ?_ | refine e_then_exit ?_ | refine e_block_here ?_ | refine e_then_panic ?_ | refine e_block_panic ?_) | refine e_block_on rfl ?_))
  refine wp_seq ?_
  refine wp_seq ?_
  -- R2
  refine c_region ?_
  refine L1 rfl rfl H (y_move (v := (.int .i64 _)) rfl rfl) ?_
  refine L1 rfl rfl H (y_neq rfl rfl rfl) ?_
  refine e_list ?_; (repeat (first | (with_reducible first | refine e_then ?_ | refine e_block ?_ | refine e_then_ret ?_ | refine e_block_ret ?_ | refine e_then_exit ?_ | refine e_block_here ?_ | refine e_then_panic ?_ | refine e_block_panic ?_) | refine e_block_on rfl ?_))
  refine c_if rfl (fun h0 => ?_) (fun h0 => ?_)   -- if 0
  · skip
    have hh0 : headS b ≠ 0 := by omega
    refine wp_seq ?_
    -- R3
    refine c_region ?_
    refine L1 rfl rfl H (y_move (v := (.int .i64 _)) rfl rfl) ?_
    refine L1 rfl rfl H (y_assign (v := (.slice _ _ _)) rfl rfl) ?_
    refine L1 rfl rfl H (y_assign (v := (.slice _ _ _)) rfl rfl) ?_
    refine L1 rfl rfl H (y_assign (v := (.int .i64 _)) rfl rfl) ?_
    refine e_list ?_; (repeat (first | (with_reducible first | refine e_then ?_ | refine e_block ?_ | refine e_then_ret ?_ | refine e_block_ret ?_ | refine e_then_exit ?_ | refine e_block_here ?_ | refine e_then_panic ?_ | refine e_block_panic ?_) | refine e_block_on rfl ?_))
    refine wp_ret ?_; (repeat (first | (with_reducible first | refine e_then ?_ | refine e_block ?_ | refine e_then_ret ?_ | refine e_block_ret ?_ | refine e_then_exit ?_ | refine e_block_here ?_ | refine e_then_panic ?_ | refine e_block_panic ?_) | refine e_block_on rfl ?_))
    refine r_3 (v1 := (.slice _ _ _)) (v2 := (.slice _ _ _)) (v3 := (.int .i64 _)) rfl rfl rfl rfl ?_
    exact .inl ⟨headS b, by unfold openS; rw [if_pos hh0], rfl, H.clear⟩
  · skip
    have hh0 : headS b = 0 := by omega
    have hl44 := (seal_of_head hh0).1
    have hdl : (b.drop 44).length ≤ 140737488355328 := by rw [List.length_drop]; omega
    refine wp_skip ?_; (repeat (first | (with_reducible first | refine e_then ?_ | refine e_block ?_ | refine e_then_ret ?_ | refine e_block_ret ?_ | refine e_then_exit ?_ | refine e_block_here ?_ | refine e_then_panic ?_ | refine e_block_panic ?_) | refine e_block_on rfl ?_))
    refine wp_seq ?_
    -- R4
    refine c_region ?_
    refine L1 rfl rfl H (y_move (v := (.slice _ _ _)) rfl rfl) ?_
    refine Lfn rfl rfl rfl (xa := [.slice A0 b.length c0, .int .i64 (44 : Nat)]) rfl Try.call97 ?_   -- portage/portageref30.behind
    refine (behind_calls (p := 44) (hR.old H) (by omega) (by omega)).mono ?_
    rintro e w' ⟨A6, c6, rfl, hc6, K⟩
    replace H := H.app_row K
    clear K
    refine ⟨_, rfl, ?_⟩
    refine Lfn rfl rfl rfl (xa := [.slice A6 (b.drop 44).length c6]) rfl Try.call96 ?_   -- portage/portageref01.Read
    refine (read_calls (rd_row (H.get 0 rfl)) hdl).mono ?_
    rintro e w' ⟨g, Ar, cap, rfl, hcap, K⟩
    replace H := ((H.app K).row_base_at 1 rfl H.base.size).sub (L' := rfr w0 g Ar cap (b.drop 44) (0, 0) []) (.cons_cons _ (.cons_cons _ (List.nil_sublist _)))
    clear K
    refine ⟨_, rfl, ?_⟩
    refine L1 rfl rfl H (y_assign (v := (.pointer _)) rfl rfl) ?_
    refine e_list ?_; (repeat (first | (with_reducible first | refine e_then ?_ | refine e_block ?_ | refine e_then_ret ?_ | refine e_block_ret ?_ | refine e_then_exit ?_ | refine e_block_here ?_ | refine e_then_panic ?_ | refine e_block_panic ?_) | refine e_block_on rfl ?_))
    refine wp_seq ?_
    -- R5
    refine c_region ?_
    refine L1 rfl rfl H (y_move (v := (.pointer _)) rfl rfl) ?_
    refine Lfn rfl rfl rfl (xa := [(.pointer _), (.int .i64 _)]) rfl Try.call98 ?_   -- (*portage/portageref01.Reader).Count
    refine (count_calls (s := ((0, 0) : RS)) (most := 67108864) (by decide) H hdl (Nat.zero_le _)).mono ?_
    rintro e w ⟨rfl, hs1, hn1, H⟩
    refine ⟨_, rfl, ?_⟩
    refine L1 rfl rfl H (y_assign (v := (.int .i64 _)) rfl rfl) ?_
    refine e_list ?_; (repeat (first | (with_reducible first | refine e_then ?_ | refine e_block ?_ | refine e_then_ret ?_ | refine e_block_ret ?_ | refine e_then_exit ?_ | refine e_block_here ?_ | refine e_then_panic ?_ | refine e_block_panic ?_) | refine e_block_on rfl ?_))
    refine wp_seq ?_
    -- R6
    refine c_region ?_
    refine L1 rfl rfl H (y_move (v := (.pointer _)) rfl rfl) ?_
    refine L1 rfl rfl H (y_move (v := (.int .i64 _)) rfl rfl) ?_
    refine Lfn rfl rfl rfl (xa := [(.pointer _), .int .i64 ((pc1 (b.drop 44)).2 : Nat)]) rfl Try.call99 ?_   -- (*portage/portageref01.Reader).Raw
    refine (raw_calls (s := (pc1 (b.drop 44)).1) (n := (pc1 (b.drop 44)).2) (Nat.le_trans hn1 (by decide)) H hdl hs1).mono ?_
    rintro e w ⟨A7, c7, rfl, hc7, hs2, H⟩
    replace H : Heap w0 (rfr w0 g Ar cap (b.drop 44) (pc2 (b.drop 44)).1 [rowB w0 A7 c7 (pc2 (b.drop 44)).2]) w := H
    replace H : Heap w0 (rfr w0 g Ar cap (b.drop 44) (pc2 (b.drop 44)).1 [rowT w0 none 0 [], rowB w0 A7 c7 (pc2 (b.drop 44)).2]) w := (H.row0 9 1).perm ((List.Perm.swap _ _ _).trans ((List.Perm.swap _ _ _).cons _))
    refine ⟨.slice A7 (pc2 (b.drop 44)).2.length c7, rfl, ?_⟩
    refine L1 rfl rfl H (y_assign (v := (.slice _ _ _)) rfl rfl) ?_
    refine e_list ?_; (repeat (first | (with_reducible first | refine e_then ?_ | refine e_block ?_ | refine e_then_ret ?_ | refine e_block_ret ?_ | refine e_then_exit ?_ | refine e_block_here ?_ | refine e_then_panic ?_ | refine e_block_panic ?_) | refine e_block_on rfl ?_))
    refine wp_seq ?_
    -- R7
    refine c_region ?_
    refine L1 rfl rfl H (y_move (v := (.pointer _)) rfl rfl) ?_
    refine Lfn rfl rfl rfl (xa := [(.pointer _), (.int .i64 _)]) rfl Try.call98 ?_   -- (*portage/portageref01.Reader).Count
    refine (count_calls (s := (pc2 (b.drop 44)).1) (most := 1048576) (by decide) H hdl hs2).mono ?_
    rintro e w ⟨rfl, hs3, hn3, H⟩
    replace hn3 : (pc3 (b.drop 44)).2 ≤ 1048576 := hn3
    refine ⟨_, rfl, ?_⟩
    refine L1 rfl rfl H (y_assign (v := (.int .i64 _)) rfl rfl) ?_
    refine e_list ?_; (repeat (first | (with_reducible first | refine e_then ?_ | refine e_block ?_ | refine e_then_ret ?_ | refine e_block_ret ?_ | refine e_then_exit ?_ | refine e_block_here ?_ | refine e_then_panic ?_ | refine e_block_panic ?_) | refine e_block_on rfl ?_))
    refine wp_seq ?_
    -- R8
    refine c_region ?_
    refine L1 rfl rfl H (y_assign (v := (.slice _ _ _)) rfl rfl) ?_
    refine e_list ?_; (repeat (first | (with_reducible first | refine e_then ?_ | refine e_block ?_ | refine e_then_ret ?_ | refine e_block_ret ?_ | refine e_then_exit ?_ | refine e_block_here ?_ | refine e_then_panic ?_ | refine e_block_panic ?_) | refine e_block_on rfl ?_))
    refine wp_seq ?_
    refine wp_seq ?_
    -- R9
    refine c_region ?_
    refine L1 rfl rfl H (y_assign (v := (.int .i64 _)) rfl rfl) ?_
    refine e_list ?_; (repeat (first | (with_reducible first | refine e_then ?_ | refine e_block ?_ | refine e_then_ret ?_ | refine e_block_ret ?_ | refine e_then_exit ?_ | refine e_block_here ?_ | refine e_then_panic ?_ | refine e_block_panic ?_) | refine e_block_on rfl ?_))
    refine wp_block ?_   -- block 0
    refine c_loop (ι := Nat × RS × List By × Option Addr × Nat) (fun (i, s, ts, A, c) f w => (∃ gx, f = ov [(6, .pointer (some ⟨g, 0, none⟩)), (8, .slice A7 (pc2 (b.drop 44)).2.length c7), (9, .int .i64 ((pc3 (b.drop 44)).2 : Nat)), (10, .slice A ts.length c), (11, .int .i64 (i : Nat))] gx) ∧ Heap w0 (rfr w0 g Ar cap (b.drop 44) s [rowT w0 A c ts, rowB w0 A7 c7 (pc2 (b.drop 44)).2]) w ∧ s.1 ≤ (b.drop 44).length ∧ (ts.length ≤ i ∧ i ≤ (pc3 (b.drop 44)).2) ∧ ts.length ≤ c ∧ rdTexts (b.drop 44) ((pc3 (b.drop 44)).2 - i) s ts = pc4 (b.drop 44)) (fun (i, s, ts, A, c) => (pc3 (b.drop 44)).2 - i) (0, (pc3 (b.drop 44)).1, [], none, 0) ?_ ?_
    · exact ⟨ov_ex _ ⟨rfl, rfl, rfl, rfl, rfl, trivial⟩, H, hs3, ⟨Nat.le_refl _, Nat.zero_le _⟩, Nat.le_refl _, rfl⟩
    rintro ⟨i, s, ts, A, c⟩ f w ⟨⟨gg, rfl⟩, H, hs, ⟨hnt, hik⟩, htc, hrd⟩
    refine wp_seq ?_
    refine c_cutR [6, 8, 9, 10, 11] 37 ((i : Int) < ((pc3 (b.drop 44)).2 : Int) ∧ s.2 = 0) (rfr w0 g Ar cap (b.drop 44) s [rowT w0 A c ts, rowB w0 A7 c7 (pc2 (b.drop 44)).2]) H ?_ ?_
    · skip
      -- R10
      refine c_region ?_
      refine L1 rfl rfl H (y_move (v := (.int .i64 _)) rfl rfl) ?_
      refine L1 rfl rfl H (y_move (v := (.int .i64 _)) rfl rfl) ?_
      refine L1 rfl rfl H (y_lss rfl rfl rfl) ?_
      refine L_split rfl rfl rfl rfl (fun hg10_3 => ?_) (fun hg10_3 => ?_)
      · skip
        refine L1g rfl rfl rfl rfl H (y_move (v := (.pointer _)) rfl rfl) ?_
        refine L1g rfl rfl rfl rfl H (y_nilCheck rfl rfl) ?_
        refine L1g rfl rfl rfl rfl H (y_fieldAddr 2 rfl rfl Try.underlying160 rfl Try.sizeOf3 rfl) ?_
        refine L1g rfl rfl rfl rfl H (y_load (v := (.int .i64 _)) rfl rfl Try.isAgg3 (by first | exact cell_blk (k := 0) rfl rfl | exact cell_blk (k := 1) rfl rfl | exact cell_blk (k := 2) rfl rfl | exact cell_blk (k := 3) rfl rfl | exact cell_blk (k := 4) rfl rfl | exact cell_blk (k := 5) rfl rfl | exact cell_blk (k := 6) rfl rfl | exact cell_blk (k := 7) rfl rfl)) ?_
        refine L1g rfl rfl rfl rfl H (y_eql rfl rfl rfl) ?_
        refine L1 rfl rfl H (y_pick (v := (.bool _)) rfl rfl rfl) ?_
        refine e_list ?_; (repeat (first | (with_reducible first | refine e_then ?_ | refine e_block ?_ | refine e_then_ret ?_ | refine e_block_ret ?_ | refine e_then_exit ?_ | refine e_block_here ?_ | refine e_then_panic ?_ | refine e_block_panic ?_) | refine e_block_on rfl ?_))
        refine ⟨_, rfl, congrArg Value.bool (decide_eq_decide.2 (by omega)), ⟨rfl, rfl, rfl, rfl, rfl, trivial⟩, H⟩
      · skip
        refine Lno rfl rfl rfl rfl rfl ?_
        refine Lno rfl rfl rfl rfl rfl ?_
        refine Lno rfl rfl rfl rfl rfl ?_
        refine Lno rfl rfl rfl rfl rfl ?_
        refine Lno rfl rfl rfl rfl rfl ?_
        refine L1 rfl rfl H (y_pick (v := (.bool _)) rfl rfl rfl) ?_
        refine e_list ?_; (repeat (first | (with_reducible first | refine e_then ?_ | refine e_block ?_ | refine e_then_ret ?_ | refine e_block_ret ?_ | refine e_then_exit ?_ | refine e_block_here ?_ | refine e_then_panic ?_ | refine e_block_panic ?_) | refine e_block_on rfl ?_))
        refine ⟨_, rfl, congrArg Value.bool (decide_eq_false (by omega)).symm, ⟨rfl, rfl, rfl, rfl, rfl, trivial⟩, H⟩
    intro g10 w H
    refine c_if rfl (fun h1 => ?_) (fun h1 => ?_)   -- if 1
    · skip
      have hB := h1
      refine wp_skip ?_; (repeat (first | (with_reducible first | refine e_then ?_ | refine e_block ?_ | refine e_then_ret ?_ | refine e_block_ret ?_ | refine e_then_exit ?_ | refine e_block_here ?_ | refine e_then_panic ?_ | refine e_block_panic ?_) | refine e_block_on rfl ?_))
      refine wp_seq ?_
      refine wp_block ?_   -- block 1
      refine wp_seq ?_
      -- R12
      refine c_region ?_
      refine L1 rfl rfl H (y_move (v := (.pointer _)) rfl rfl) ?_
      refine Lfn rfl rfl rfl (xa := [(.pointer _), (.int .i64 _)]) rfl Try.call100 ?_   -- (*portage/portageref01.Reader).Text
      refine (text_calls (most := 4096) (by decide) H hdl hcap hs).mono ?_
      rintro e w ⟨rfl, hs', H⟩
      refine ⟨_, rfl, ?_⟩
      refine L1 rfl rfl H (y_assign (v := (.string _)) rfl rfl) ?_
      refine e_list ?_; (repeat (first | (with_reducible first | refine e_then ?_ | refine e_block ?_ | refine e_then_ret ?_ | refine e_block_ret ?_ | refine e_then_exit ?_ | refine e_block_here ?_ | refine e_then_panic ?_ | refine e_block_panic ?_) | refine e_block_on rfl ?_))
      -- R13
      refine c_region ?_
      refine L1 rfl rfl H (y_move (v := (.slice _ _ _)) rfl rfl) ?_
      refine L1 rfl rfl H (y_move (v := (.string _)) rfl rfl) ?_
      refine LbuildSlice1 (v := (.string _)) rfl rfl rfl rfl H Try.underlying24 Try.sizeOf9 Try.zeroValue9 rfl rfl ?_; intro b44 w H
      refine Lapp1 2 rfl rfl rfl rfl rfl H rfl Try.underlying24 Try.underlying24 (i := Try.t9) (by kernel_rfl) (z := .string "".toUTF8) rfl rfl rfl rfl (by show (_ + 1) * 16 ≤ _; omega) (by simp only [maxLen]; omega) ?_
      intro A c w hc H
      replace H : Heap w0 (rfr w0 g Ar cap (b.drop 44) (rdText (b.drop 44) 4096 s).1 [Ent.row w0.heap.size 9 1 (.slice A (ts.length + 1) c) (ts.length + 1) (ts.map tv ++ [tv (rdText (b.drop 44) 4096 s).2]), rowB w0 A7 c7 (pc2 (b.drop 44)).2]) w := H
      rw [show ts.map tv ++ [tv (rdText (b.drop 44) 4096 s).2] = (ts ++ [(rdText (b.drop 44) 4096 s).2]).map tv from by rw [List.map_append]; rfl, show ts.length + 1 = (ts ++ [(rdText (b.drop 44) 4096 s).2]).length from by rw [List.length_append]; rfl] at H
      refine L1 rfl rfl H (y_assign (v := (.slice _ _ _)) rfl rfl) ?_
      refine e_list ?_; (repeat (first | (with_reducible first | refine e_then ?_ | refine e_block ?_ | refine e_then_ret ?_ | refine e_block_ret ?_ | refine e_then_exit ?_ | refine e_block_here ?_ | refine e_then_panic ?_ | refine e_block_panic ?_) | refine e_block_on rfl ?_))
      -- R11
      refine c_region ?_
      refine L1 rfl rfl H (y_move (v := (.int .i64 _)) rfl rfl) ?_
      refine L1 rfl rfl H (y_add (r := ((i + 1 : Nat) : Int)) rfl rfl rfl (by rw [wr_i64 (by omega) (by omega)]; omega)) ?_
      refine L1 rfl rfl H (y_assign (v := (.int .i64 _)) rfl rfl) ?_
      refine e_list ?_; (repeat (first | (with_reducible first | refine e_then ?_ | refine e_block ?_ | refine e_then_ret ?_ | refine e_block_ret ?_ | refine e_then_exit ?_ | refine e_block_here ?_ | refine e_then_panic ?_ | refine e_block_panic ?_) | refine e_block_on rfl ?_))
      exact ⟨(i + 1, (rdText (b.drop 44) 4096 s).1, ts ++ [(rdText (b.drop 44) 4096 s).2], A, c), _, rfl, ⟨ov_ex _ ⟨rfl, rfl, rfl, by rw [List.length_append]; rfl, rfl, trivial⟩, H, hs', ⟨by rw [List.length_append]; show ts.length + 1 ≤ _; omega, by omega⟩, by rw [List.length_append]; exact hc, by rw [← hrd, ← rdTexts_next (by omega) hB.2]⟩, by show _ - (i + 1) < _ - i; omega⟩
    · skip
      have h4 : pc4 (b.drop 44) = (s, ts) := by rw [← hrd, rdTexts_done2 h1]
      refine wp_exit ?_; (repeat (first | (with_reducible first | refine e_then ?_ | refine e_block ?_ | refine e_then_ret ?_ | refine e_block_ret ?_ | refine e_then_exit ?_ | refine e_block_here ?_ | refine e_then_panic ?_ | refine e_block_panic ?_) | refine e_block_on rfl ?_))
      refine wp_seq ?_
      refine wp_seq ?_
      -- R14
      refine c_region ?_
      refine L1 rfl rfl H (y_move (v := (.pointer _)) rfl rfl) ?_
      refine Lfn rfl rfl rfl (xa := [(.pointer _)]) rfl Try.call101 ?_   -- (*portage/portageref01.Reader).End
      refine (end_calls H hdl).mono ?_
      rintro e w ⟨rfl, H⟩
      refine ⟨_, rfl, ?_⟩
      refine L1 rfl rfl H (y_neq rfl rfl rfl) ?_
      refine e_list ?_; (repeat (first | (with_reducible first | refine e_then ?_ | refine e_block ?_ | refine e_then_ret ?_ | refine e_block_ret ?_ | refine e_then_exit ?_ | refine e_block_here ?_ | refine e_then_panic ?_ | refine e_block_panic ?_) | refine e_block_on rfl ?_))
      refine c_if rfl (fun h2 => ?_) (fun h2 => ?_)   -- if 2
      · skip
        have he : openS b = .error (rdEnd (b.drop 44) s) := by rw [openS_body hh0, h4, if_pos (show rdEnd (b.drop 44) s ≠ 0 by omega)]
        refine wp_seq ?_
        -- R15
        refine c_region ?_
        refine L1 rfl rfl H (y_move (v := (.pointer _)) rfl rfl) ?_
        refine Lfn rfl rfl rfl (xa := [(.pointer _)]) rfl Try.call101 ?_   -- (*portage/portageref01.Reader).End
        refine (end_calls H hdl).mono ?_
        rintro e w ⟨rfl, H⟩
        refine ⟨_, rfl, ?_⟩
        refine L1 rfl rfl H (y_assign (v := (.slice _ _ _)) rfl rfl) ?_
        refine L1 rfl rfl H (y_assign (v := (.slice _ _ _)) rfl rfl) ?_
        refine L1 rfl rfl H (y_assign (v := (.int .i64 _)) rfl rfl) ?_
        refine e_list ?_; (repeat (first | (with_reducible first | refine e_then ?_ | refine e_block ?_ | refine e_then_ret ?_ | refine e_block_ret ?_ | refine e_then_exit ?_ | refine e_block_here ?_ | refine e_then_panic ?_ | refine e_block_panic ?_) | refine e_block_on rfl ?_))
        refine wp_ret ?_; (repeat (first | (with_reducible first | refine e_then ?_ | refine e_block ?_ | refine e_then_ret ?_ | refine e_block_ret ?_ | refine e_then_exit ?_ | refine e_block_here ?_ | refine e_then_panic ?_ | refine e_block_panic ?_) | refine e_block_on rfl ?_))
        refine r_3 (v1 := (.slice _ _ _)) (v2 := (.slice _ _ _)) (v3 := (.int .i64 _)) rfl rfl rfl rfl ?_
        exact .inl ⟨_, he, rfl, H.clear⟩
      · skip
        have h20 : rdEnd (b.drop 44) s = 0 := by omega
        have he : openS b = .ok ((pc2 (b.drop 44)).2, ts) := by rw [openS_body hh0, h4, if_neg (show ¬ rdEnd (b.drop 44) s ≠ 0 by omega)]
        refine wp_skip ?_; (repeat (first | (with_reducible first | refine e_then ?_ | refine e_block ?_ | refine e_then_ret ?_ | refine e_block_ret ?_ | refine e_then_exit ?_ | refine e_block_here ?_ | refine e_then_panic ?_ | refine e_block_panic ?_) | refine e_block_on rfl ?_))
        refine wp_seq ?_
        -- R16
        refine c_region ?_
        refine L1 rfl rfl H (y_move (v := (.slice _ _ _)) rfl rfl) ?_
        refine L1 rfl rfl H (y_move (v := (.slice _ _ _)) rfl rfl) ?_
        refine L1 rfl rfl H (y_assign (v := (.slice _ _ _)) rfl rfl) ?_
        refine L1 rfl rfl H (y_assign (v := (.slice _ _ _)) rfl rfl) ?_
        refine L1 rfl rfl H (y_assign (v := (.int .i64 _)) rfl rfl) ?_
        refine e_list ?_; (repeat (first | (with_reducible first | refine e_then ?_ | refine e_block ?_ | refine e_then_ret ?_ | refine e_block_ret ?_ | refine e_then_exit ?_ | refine e_block_here ?_ | refine e_then_panic ?_ | refine e_block_panic ?_) | refine e_block_on rfl ?_))
        refine wp_ret ?_; (repeat (first | (with_reducible first | refine e_then ?_ | refine e_block ?_ | refine e_then_ret ?_ | refine e_block_ret ?_ | refine e_then_exit ?_ | refine e_block_here ?_ | refine e_then_panic ?_ | refine e_block_panic ?_) | refine e_block_on rfl ?_))
        refine r_3 (v1 := (.slice _ _ _)) (v2 := (.slice _ _ _)) (v3 := (.int .i64 _)) rfl rfl rfl rfl ?_
        exact .inr ⟨_, _, A7, c7, A, c, he, rfl, hc7, htc, (H.drop 2).perm (List.Perm.swap _ _ _)⟩
-- »open
-- «sealed»
theorem sealed_calls {A0 : Option Addr} {c0 : Nat} (hR : Rd w0 A0 (b.map bv)) (hb : b.length ≤ 140737488352900) :
    Calls Try.prog 18 #[.slice A0 b.length c0] w0 fun e w' => ∃ A c, e = .returned (.slice A (sealS b).length c) ∧ (sealS b).length ≤ c ∧ Heap w0 [rowB w0 A c (sealS b)] w' := by
  refine c_enter (xa := [.slice A0 b.length c0]) 31 Try.func18 rfl rfl rfl ?_
  have H := Heap.init w0
  refine wp_seq ?_
  -- R0
  refine c_region ?_
  refine L1 rfl rfl H (y_assign (v := (.slice _ _ _)) rfl rfl) ?_
  refine e_list ?_; (repeat (first | (with_reducible first | refine e_then ?_ | refine e_block ?_ | refine e_then_ret ?_ | refine e_block_ret ?_ | refine e_then_exit ?_ | refine e_block_here ?_ | refine e_then_panic ?_ | refine e_block_panic ?_) | refine e_block_on rfl ?_))
  refine wp_seq ?_
  -- R1
  refine c_region ?_
  refine L1 rfl rfl H (y_move (v := (.slice _ _ _)) rfl rfl) ?_
  refine Lfn rfl rfl rfl (xa := [.slice A0 b.length c0]) rfl Try.call47 ?_   -- portage/portageref02.Sum
  refine (Dig.refSum_calls hR (by omega)).mono ?_
  rintro e w ⟨rfl, H⟩
  refine ⟨_, rfl, ?_⟩
  refine Lalloc rfl rfl rfl H Try.zeroValue82 (cs := List.replicate 32 (bv 0)) rfl ?_; intro b3 w H
  refine Lstore 0 rfl rfl rfl rfl (v := .agg ((Dig.sum b).map bv).toArray) rfl H rfl (vs := (Dig.sum b).map bv) rfl (by rw [List.length_map, Dig.sum_length]; exact Try.sizeOf82) (List.all_eq_true.2 (bv_one _)) (by rw [List.length_map, Dig.sum_length]; rfl) ?_; intro w H
  replace H : Heap w0 [Ent.blk b3 82 ((List.replicate 32 (bv 0)).take 0 ++ (Dig.sum b).map bv ++ (List.replicate 32 (bv 0)).drop (0 + ((Dig.sum b).map bv).length))] w := H
  rw [sum_whole] at H
  replace H := H.row0 5 1
  refine e_list ?_; (repeat (first | (with_reducible first | refine e_then ?_ | refine e_block ?_ | refine e_then_ret ?_ | refine e_block_ret ?_ | refine e_then_exit ?_ | refine e_block_here ?_ | refine e_then_panic ?_ | refine e_block_panic ?_) | refine e_block_on rfl ?_))
  refine wp_seq ?_
  -- R2
  refine c_region ?_
  refine L1 rfl rfl H (y_assign (v := (.slice _ _ _)) rfl rfl) ?_
  refine e_list ?_; (repeat (first | (with_reducible first | refine e_then ?_ | refine e_block ?_ | refine e_then_ret ?_ | refine e_block_ret ?_ | refine e_then_exit ?_ | refine e_block_here ?_ | refine e_then_panic ?_ | refine e_block_panic ?_) | refine e_block_on rfl ?_))
  refine wp_seq ?_
  refine wp_seq ?_
  -- R3
  refine c_region ?_
  refine L1 rfl rfl H (y_assign (v := (.int .i64 _)) rfl rfl) ?_
  refine e_list ?_; (repeat (first | (with_reducible first | refine e_then ?_ | refine e_block ?_ | refine e_then_ret ?_ | refine e_block_ret ?_ | refine e_then_exit ?_ | refine e_block_here ?_ | refine e_then_panic ?_ | refine e_block_panic ?_) | refine e_block_on rfl ?_))
  refine wp_block ?_   -- block 0
  refine c_loop (ι := Nat × Option Addr × Nat) (fun (i, A, c) f w => (∃ gx, f = ov [(0, .slice A0 b.length c0), (3, .pointer (some ⟨b3, 0, none⟩)), (4, .slice A i c), (5, .int .i64 (i : Nat))] gx) ∧ Heap w0 ([Ent.row w0.heap.size 5 1 (.slice A i c) i (((Dig.sum b).take i).map bv), Ent.blk b3 82 ((Dig.sum b).map bv)]) w ∧ i ≤ 32 ∧ i ≤ c) (fun (i, A, c) => 32 - i) (0, none, 0) ?_ ?_
  · exact ⟨ov_ex _ ⟨rfl, rfl, rfl, rfl, trivial⟩, H, by omega, by omega⟩
  rintro ⟨i, A, c⟩ f w ⟨⟨gg, rfl⟩, H, hi, hic⟩
  refine wp_seq ?_
  refine wp_seq ?_
  -- R4
  refine c_region ?_
  refine L1 rfl rfl H (y_move (v := (.int .i64 _)) rfl rfl) ?_
  refine L1 rfl rfl H (y_lss rfl rfl rfl) ?_
  refine e_list ?_; (repeat (first | (with_reducible first | refine e_then ?_ | refine e_block ?_ | refine e_then_ret ?_ | refine e_block_ret ?_ | refine e_then_exit ?_ | refine e_block_here ?_ | refine e_then_panic ?_ | refine e_block_panic ?_) | refine e_block_on rfl ?_))
  refine c_if rfl (fun h0 => ?_) (fun h0 => ?_)   -- if 0
  · skip
    refine wp_skip ?_; (repeat (first | (with_reducible first | refine e_then ?_ | refine e_block ?_ | refine e_then_ret ?_ | refine e_block_ret ?_ | refine e_then_exit ?_ | refine e_block_here ?_ | refine e_then_panic ?_ | refine e_block_panic ?_) | refine e_block_on rfl ?_))
    refine wp_seq ?_
    refine wp_block ?_   -- block 1
    -- R6
    refine c_region ?_
    refine L1 rfl rfl H (y_move (v := (.slice _ _ _)) rfl rfl) ?_
    refine L1 rfl rfl H (y_move (v := (.int .i64 _)) rfl rfl) ?_
    refine L1 rfl rfl H (y_indexArr rfl rfl rfl Try.underlying82 Try.sizeOf5 (by omega) (by omega)) ?_
    refine L1 rfl rfl H (y_load (v := bv ((Dig.sum b).getD i 0)) rfl rfl Try.isAgg5 (cell_blkI (k := 1) i rfl (by omega) (map_get (by rw [Dig.sum_length]; omega)))) ?_
    refine LbuildSlice1 (v := (.int .u8 _)) rfl rfl rfl rfl H Try.underlying22 Try.sizeOf5 Try.zeroValue5 rfl rfl ?_; intro b17 w H
    refine Lapp1 0 rfl rfl rfl rfl rfl H rfl Try.underlying22 Try.underlying22 (i := Try.t5) (by kernel_rfl) (z := .int .u8 0) rfl rfl rfl rfl (by show (_ + 1) * 1 ≤ _; omega) (by simp only [maxLen]; omega) ?_
    intro A c w hc H
    replace H : Heap w0 ([Ent.row w0.heap.size 5 1 (.slice A (i + 1) c) (i + 1) (((Dig.sum b).take i).map bv ++ [bv ((Dig.sum b).getD i 0)]), Ent.blk b3 82 ((Dig.sum b).map bv)]) w := H
    rw [Dig.take_bv (by rw [Dig.sum_length]; omega)] at H
    refine L1 rfl rfl H (y_assign (v := (.slice _ _ _)) rfl rfl) ?_
    refine e_list ?_; (repeat (first | (with_reducible first | refine e_then ?_ | refine e_block ?_ | refine e_then_ret ?_ | refine e_block_ret ?_ | refine e_then_exit ?_ | refine e_block_here ?_ | refine e_then_panic ?_ | refine e_block_panic ?_) | refine e_block_on rfl ?_))
    -- R5
    refine c_region ?_
    refine L1 rfl rfl H (y_move (v := (.int .i64 _)) rfl rfl) ?_
    refine L1 rfl rfl H (y_add (r := ((i + 1 : Nat) : Int)) rfl rfl rfl (by rw [wr_i64 (by omega) (by omega)]; omega)) ?_
    refine L1 rfl rfl H (y_assign (v := (.int .i64 _)) rfl rfl) ?_
    refine e_list ?_; (repeat (first | (with_reducible first | refine e_then ?_ | refine e_block ?_ | refine e_then_ret ?_ | refine e_block_ret ?_ | refine e_then_exit ?_ | refine e_block_here ?_ | refine e_then_panic ?_ | refine e_block_panic ?_) | refine e_block_on rfl ?_))
    exact ⟨(i + 1, A, c), _, rfl, ⟨ov_ex _ ⟨rfl, rfl, rfl, rfl, trivial⟩, H, by omega, by omega⟩, by show 32 - (i + 1) < 32 - i; omega⟩
  · skip
    have hi32 : i = (Dig.sum b).length := by rw [Dig.sum_length]; omega
    subst hi32
    rw [List.take_length] at H
    have hc := hic
    refine wp_exit ?_; (repeat (first | (with_reducible first | refine e_then ?_ | refine e_block ?_ | refine e_then_ret ?_ | refine e_block_ret ?_ | refine e_then_exit ?_ | refine e_block_here ?_ | refine e_then_panic ?_ | refine e_block_panic ?_) | refine e_block_on rfl ?_))
    refine wp_seq ?_
    -- R7
    refine c_region ?_
    refine L1 rfl rfl H (y_move (v := (.slice _ _ _)) rfl rfl) ?_
    refine L1 rfl rfl H (y_move (v := (.slice _ _ _)) rfl rfl) ?_
    refine Lfn rfl rfl rfl (xa := [(.slice _ _ _), (.slice _ _ _)]) rfl Try.call48 ?_   -- portage/portageref01.PutBytes
    refine (putBytes_calls (b := Dig.sum b) (m := b) hc H (fun A n c xs w' H' => hR.old H') (by rw [Dig.sum_length]; omega)).mono ?_
    rintro e w ⟨A4, c4, rfl, hc4, H⟩
    replace H : Heap w0 [rowB w0 A4 c4 (signS b), Ent.blk b3 82 ((Dig.sum b).map bv)] w := H
    replace hc4 : (signS b).length ≤ c4 := hc4
    refine ⟨.slice A4 (signS b).length c4, rfl, ?_⟩
    refine L1 rfl rfl H (y_assign (v := (.slice _ _ _)) rfl rfl) ?_
    refine e_list ?_; (repeat (first | (with_reducible first | refine e_then ?_ | refine e_block ?_ | refine e_then_ret ?_ | refine e_block_ret ?_ | refine e_then_exit ?_ | refine e_block_here ?_ | refine e_then_panic ?_ | refine e_block_panic ?_) | refine e_block_on rfl ?_))
    refine wp_seq ?_
    -- R8
    refine c_region ?_
    have hsl : (signS b).length = b.length + 32 := by unfold signS; rw [List.length_append, Dig.sum_length]; omega
    have hsm : sumN (signS b) < 2 ^ 64 := by have := sumN_le (signS b); omega
    refine LbuildSlice (cs := markB.map bv) (e := 5) rfl rfl rfl H (fun w => by simp [Instr.buildSlice, Instr.fill, go_sem] <;> rfl) ?_; intro b22 w H
    replace H : Heap w0 [rowB w0 (some ⟨b22, 0, none⟩) 4 markB, rowB w0 A4 c4 (signS b), Ent.blk b3 82 ((Dig.sum b).map bv)] w := H.to_row 0 rfl 1 4 4 rfl (Nat.le_refl _) (by decide)
    refine L1 rfl rfl H (y_assign (v := (.slice _ _ _)) rfl rfl) ?_
    refine e_list ?_; (repeat (first | (with_reducible first | refine e_then ?_ | refine e_block ?_ | refine e_then_ret ?_ | refine e_block_ret ?_ | refine e_then_exit ?_ | refine e_block_here ?_ | refine e_then_panic ?_ | refine e_block_panic ?_) | refine e_block_on rfl ?_))
    refine wp_seq ?_
    -- R9
    refine c_region ?_
    refine L1 rfl rfl H (y_move (v := (.slice _ _ _)) rfl rfl) ?_
    refine L1 rfl rfl H (y_move (v := (.slice _ _ _)) rfl rfl) ?_
    refine Lfn rfl rfl rfl (xa := [.slice A4 (signS b).length c4, .int .i64 (0 : Nat)]) rfl Try.call50 ?_   -- portage/portageref30.Total
    refine (total_calls (p := 0) (rd_row (H.get 1 rfl)) (by rw [hsl]; omega) (Nat.zero_le _)).mono ?_
    rintro e w' ⟨rfl, K⟩
    replace H := H.app0 K
    clear K
    refine ⟨.int .u64 (sumN (signS b) : Nat), rfl, ?_⟩
    refine Lfn rfl rfl rfl (xa := [.slice (some ⟨b22, 0, none⟩) markB.length 4, .int .u64 (sumN (signS b) : Nat)]) rfl Try.call49 ?_   -- portage/portageref01.PutWord
    refine (putWord_calls (b := markB) (x := sumN (signS b)) hsm (Nat.le_refl _) H (by decide)).mono ?_
    rintro e w ⟨A6, c6, rfl, hc6, H⟩
    refine ⟨.slice A6 (markB ++ Dig.be8 (sumN (signS b))).length c6, rfl, ?_⟩
    refine L1 rfl rfl H (y_assign (v := (.slice _ _ _)) rfl rfl) ?_
    refine e_list ?_; (repeat (first | (with_reducible first | refine e_then ?_ | refine e_block ?_ | refine e_then_ret ?_ | refine e_block_ret ?_ | refine e_then_exit ?_ | refine e_block_here ?_ | refine e_then_panic ?_ | refine e_block_panic ?_) | refine e_block_on rfl ?_))
    refine wp_seq ?_
    -- R10
    refine c_region ?_
    refine L1 rfl rfl H (y_move (v := (.slice _ _ _)) rfl rfl) ?_
    refine L1 rfl rfl H (y_move (v := (.slice _ _ _)) rfl rfl) ?_
    refine Lfn rfl rfl rfl (xa := [(.slice _ _ _), (.slice _ _ _)]) rfl Try.call48 ?_   -- portage/portageref01.PutBytes
    refine (putBytes_calls (b := markB ++ Dig.be8 (sumN (signS b))) (m := signS b) hc6 H (fun A n c xs w' H' => rd_row (H'.get 1 rfl)) (by rw [List.length_append, Dig.be8_length, hsl]; show 4 + 8 + _ ≤ _; omega)).mono ?_
    rintro e w ⟨A7, c7, rfl, hc7, H⟩
    rw [List.append_assoc] at H hc7 ⊢
    refine ⟨.slice A7 (sealS b).length c7, rfl, ?_⟩
    refine L1 rfl rfl H (y_assign (v := (.slice _ _ _)) rfl rfl) ?_
    refine e_list ?_; (repeat (first | (with_reducible first | refine e_then ?_ | refine e_block ?_ | refine e_then_ret ?_ | refine e_block_ret ?_ | refine e_then_exit ?_ | refine e_block_here ?_ | refine e_then_panic ?_ | refine e_block_panic ?_) | refine e_block_on rfl ?_))
    refine wp_seq ?_
    -- R11
    refine c_region ?_
    refine L1 rfl rfl H (y_move (v := (.slice _ _ _)) rfl rfl) ?_
    refine L1 rfl rfl H (y_assign (v := (.slice _ _ _)) rfl rfl) ?_
    refine e_list ?_; (repeat (first | (with_reducible first | refine e_then ?_ | refine e_block ?_ | refine e_then_ret ?_ | refine e_block_ret ?_ | refine e_then_exit ?_ | refine e_block_here ?_ | refine e_then_panic ?_ | refine e_block_panic ?_) | refine e_block_on rfl ?_))
    refine wp_ret ?_; (repeat (first | (with_reducible first | refine e_then ?_ | refine e_block ?_ | refine e_then_ret ?_ | refine e_block_ret ?_ | refine e_then_exit ?_ | refine e_block_here ?_ | refine e_then_panic ?_ | refine e_block_panic ?_) | refine e_block_on rfl ?_))
    refine r_1 (v := (.slice _ _ _)) rfl rfl ?_
    exact ⟨A7, c7, rfl, hc7, H.sub (L' := [rowB w0 A7 c7 (sealS b)]) (.cons_cons _ (List.nil_sublist _))⟩
-- »sealed
end
end Go.Ref
