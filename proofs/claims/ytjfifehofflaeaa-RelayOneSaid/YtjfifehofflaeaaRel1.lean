/-
  The program's relay.
-/
import Derived.Test.YtjfifehofflaeaaWire6
import Derived.Test.YtjfifehofflaeaaDig6
import Derived.Test.YtjfifehofflaeaaSpec5
namespace Go.Relay
open Go.RowKit Go.Eng Go.Proofs Go.Wire
set_option linter.unusedSimpArgs false
set_option linter.unusedVariables false
attribute [local irreducible] wpList wpQuiet wpStill wpMix wpMixE

section
variable {w0 w : World} {R : List Ent} {g : Nat} {A : Option Addr} {cap : Nat} {b : By}
-- «sum»
theorem sum_calls {A0 : Option Addr} {c0 : Nat} (hR : Rd w0 A0 (b.map bv)) (hb : b.length ≤ 140737488355328) :
    Calls Try.prog 66 #[.slice A0 b.length c0] w0 fun e w' => e = .returned (.int .u64 (sumN b : Nat)) ∧ Heap w0 [] w' := by
  refine c_enter (xa := [.slice A0 b.length c0]) 18 Try.func66 rfl rfl rfl ?_
  have H := Heap.init w0
  refine wp_seq ?_
  -- R0
  refine c_region ?_
  refine L1 rfl rfl H (y_assign (v := (.int .u64 _)) rfl rfl) ?_
  refine e_list ?_; (repeat (first | (with_reducible first | refine e_then ?_ | refine e_block ?_ | refine e_then_ret ?_ | refine e_block_ret ?_ | refine e_then_exit ?_ | refine e_block_here ?_ | refine e_then_panic ?_ | refine e_block_panic ?_) | refine e_block_on rfl ?_))
  refine wp_seq ?_
  -- R1
  refine c_region ?_
  refine L1 rfl rfl H (y_assign (v := (.int .u64 _)) rfl rfl) ?_
  refine e_list ?_; (repeat (first | (with_reducible first | refine e_then ?_ | refine e_block ?_ | refine e_then_ret ?_ | refine e_block_ret ?_ | refine e_then_exit ?_ | refine e_block_here ?_ | refine e_then_panic ?_ | refine e_block_panic ?_) | refine e_block_on rfl ?_))
  refine wp_seq ?_
  refine wp_seq ?_
  -- R2
  refine c_region ?_
  refine L1 rfl rfl H (y_move (v := (.slice _ _ _)) rfl rfl) ?_
  refine L1 rfl rfl H (y_len_slice rfl rfl Try.underlying22) ?_
  refine L1 rfl rfl H (y_move (v := (.int .i64 _)) rfl rfl) ?_
  refine e_list ?_; (repeat (first | (with_reducible first | refine e_then ?_ | refine e_block ?_ | refine e_then_ret ?_ | refine e_block_ret ?_ | refine e_then_exit ?_ | refine e_block_here ?_ | refine e_then_panic ?_ | refine e_block_panic ?_) | refine e_block_on rfl ?_))
  refine wp_block ?_   -- block 0
  refine c_loop (ι := Nat) (fun i f w => (∃ gx, f = ov [(3, .int .u64 (sumN (b.take i) : Nat)), (6, .slice A0 b.length c0), (7, .int .i64 (b.length : Nat)), (8, .int .i64 (i : Nat))] gx) ∧ Heap w0 ([]) w ∧ i ≤ b.length) (fun i => b.length - i) 0 ?_ ?_
  · exact ⟨ov_ex _ ⟨rfl, rfl, rfl, rfl, trivial⟩, H, by omega⟩
  rintro i f w ⟨⟨gg, rfl⟩, H, hi⟩
  have hsl : sumN (b.take i) ≤ 255 * i := Nat.le_trans (sumN_le _) (by rw [List.length_take]; omega)
  refine wp_seq ?_
  -- R3
  refine c_region ?_
  refine L1 rfl rfl H (y_lss rfl rfl rfl) ?_
  refine e_list ?_; (repeat (first | (with_reducible first | refine e_then ?_ | refine e_block ?_ | refine e_then_ret ?_ | refine e_block_ret ?_ | refine e_then_exit ?_ | refine e_block_here ?_ | refine e_then_panic ?_ | refine e_block_panic ?_) | refine e_block_on rfl ?_))
  refine wp_seq ?_
  refine c_if rfl (fun h0 => ?_) (fun h0 => ?_)   -- if 0
  · skip
    have hib : i < b.length := by omega
    refine wp_skip ?_; (repeat (first | (with_reducible first | refine e_then ?_ | refine e_block ?_ | refine e_then_ret ?_ | refine e_block_ret ?_ | refine e_then_exit ?_ | refine e_block_here ?_ | refine e_then_panic ?_ | refine e_block_panic ?_) | refine e_block_on rfl ?_))
    refine wp_seq ?_
    refine wp_block ?_   -- block 1
    refine wp_seq ?_
    -- R4
    refine c_region ?_
    obtain ⟨a0, rfl, _⟩ := hR.some (j := i) (by rw [List.length_map]; omega)
    refine L1 rfl rfl H (y_indexSl rfl rfl rfl Try.underlying22 Try.sizeOf5 (by omega) (by omega)) ?_
    refine L1 rfl rfl H (y_load (v := bv (b.getD i 0)) rfl rfl Try.isAgg5 (Dig.rd_get hR hib)) ?_
    refine L1 rfl rfl H (y_assign (v := (.int .u8 _)) rfl rfl) ?_
    refine e_list ?_; (repeat (first | (with_reducible first | refine e_then ?_ | refine e_block ?_ | refine e_then_ret ?_ | refine e_block_ret ?_ | refine e_then_exit ?_ | refine e_block_here ?_ | refine e_then_panic ?_ | refine e_block_panic ?_) | refine e_block_on rfl ?_))
    -- R5
    refine c_region ?_
    refine L1 rfl rfl H (y_move (v := (.int .u64 _)) rfl rfl) ?_
    refine L1 rfl rfl H (y_move (v := (.int .u8 _)) rfl rfl) ?_
    refine L1 rfl rfl H (y_conv (r := ((b.getD i 0).toNat : Nat)) rfl rfl Try.underlying5 Try.underlying86 (wr_u64 (by omega) (by have := (b.getD i 0).toNat_lt; omega))) ?_
    refine L1 rfl rfl H (y_add (r := (sumN (b.take (i + 1)) : Nat)) rfl rfl rfl (by have := (b.getD i 0).toNat_lt; rw [sumN_take hib, wr_u64 (by omega) (by omega)]; omega)) ?_
    refine L1 rfl rfl H (y_assign (v := (.int .u64 _)) rfl rfl) ?_
    refine e_list ?_; (repeat (first | (with_reducible first | refine e_then ?_ | refine e_block ?_ | refine e_then_ret ?_ | refine e_block_ret ?_ | refine e_then_exit ?_ | refine e_block_here ?_ | refine e_then_panic ?_ | refine e_block_panic ?_) | refine e_block_on rfl ?_))
    -- R6
    refine c_region ?_
    refine L1 rfl rfl H (y_add rfl rfl rfl (by first | exact wr_i64 (by omega) (by omega) | rfl)) ?_
    refine L1 rfl rfl H (y_move (v := (.int .i64 _)) rfl rfl) ?_
    refine e_list ?_; (repeat (first | (with_reducible first | refine e_then ?_ | refine e_block ?_ | refine e_then_ret ?_ | refine e_block_ret ?_ | refine e_then_exit ?_ | refine e_block_here ?_ | refine e_then_panic ?_ | refine e_block_panic ?_) | refine e_block_on rfl ?_))
    exact ⟨i + 1, _, rfl, ⟨ov_ex _ ⟨rfl, rfl, rfl, rfl, trivial⟩, H, by omega⟩, by omega⟩
  · skip
    have hie : i = b.length := by omega
    subst hie
    refine wp_exit ?_; (repeat (first | (with_reducible first | refine e_then ?_ | refine e_block ?_ | refine e_then_ret ?_ | refine e_block_ret ?_ | refine e_then_exit ?_ | refine e_block_here ?_ | refine e_then_panic ?_ | refine e_block_panic ?_) | refine e_block_on rfl ?_))
    refine wp_seq ?_
    -- R7
    refine c_region ?_
    refine L1 rfl rfl H (y_move (v := (.int .u64 _)) rfl rfl) ?_
    refine L1 rfl rfl H (y_assign (v := (.int .u64 _)) rfl rfl) ?_
    refine e_list ?_; (repeat (first | (with_reducible first | refine e_then ?_ | refine e_block ?_ | refine e_then_ret ?_ | refine e_block_ret ?_ | refine e_then_exit ?_ | refine e_block_here ?_ | refine e_then_panic ?_ | refine e_block_panic ?_) | refine e_block_on rfl ?_))
    refine wp_ret ?_; (repeat (first | (with_reducible first | refine e_then ?_ | refine e_block ?_ | refine e_then_ret ?_ | refine e_block_ret ?_ | refine e_then_exit ?_ | refine e_block_here ?_ | refine e_then_panic ?_ | refine e_block_panic ?_) | refine e_block_on rfl ?_))
    refine r_1 (v := (.int .u64 _)) rfl rfl ?_
    rw [List.take_length]
    exact ⟨rfl, H⟩
-- »sum
-- «head»
abbrev FQ1 (b : By) (a1 : Nat) (e1 : Int) (l1 : By) : Prop := ((0 : Int) = 0 ∧ e1 = 0 ∧ 0 + 4 ≤ b.length ∧ l1 = (b.drop 0).take 4 ∧ a1 = 0 + 4) ∨ (e1 ≠ 0 ∧ a1 = 0 ∧ l1 = [] ∧ (((0 : Int) ≠ 0 ∧ e1 = 0) ∨ ((0 : Int) = 0 ∧ e1 = 2 ∧ b.length < 0 + 4)))
abbrev FQ2 (b : By) (a1 : Nat) (e1 : Int) (a2 : Nat) (e2 : Int) (x : Nat) : Prop := (e1 = 0 ∧ e2 = 0 ∧ a1 + 8 ≤ b.length ∧ x = beN ((b.drop a1).take 8) ∧ a2 = a1 + 8) ∨ (e2 ≠ 0 ∧ a2 = a1 ∧ x = 0 ∧ ((e1 ≠ 0 ∧ e2 = e1) ∨ (e1 = 0 ∧ e2 = 2 ∧ b.length < a1 + 8)))
abbrev FQ3 (b : By) (a2 : Nat) (e2 : Int) (a3 : Nat) (e3 : Int) (l3 : By) : Prop := (e2 = 0 ∧ e3 = 0 ∧ a2 + 32 ≤ b.length ∧ l3 = (b.drop a2).take 32 ∧ a3 = a2 + 32) ∨ (e3 ≠ 0 ∧ a3 = a2 ∧ l3 = [] ∧ ((e2 ≠ 0 ∧ e3 = e2) ∨ (e2 = 0 ∧ e3 = 2 ∧ b.length < a2 + 32)))
theorem head_1 {b l1 : By} {a1 : Nat} {e1 : Int} (q1 : FQ1 b a1 e1 l1) (h : e1 = 0 ∧ l1 ≠ markB) : headS b = 4 := by
  rcases q1 with ⟨-, -, h4, rfl, -⟩ | ⟨hne, -⟩
  · unfold headS; rw [if_neg (by omega), if_pos (show b.take 4 ≠ markB from h.2)]
  · exact absurd h.1 hne
theorem head_ok1 {b l1 : By} {a1 : Nat} {e1 : Int} (q1 : FQ1 b a1 e1 l1) (h : ¬(e1 = 0 ∧ l1 ≠ markB)) (h0 : e1 = 0) : 4 ≤ b.length ∧ a1 = 4 ∧ ¬ b.take 4 ≠ markB := by
  rcases q1 with ⟨-, -, h4, rfl, ha⟩ | ⟨hne, -⟩
  · exact ⟨by omega, by omega, fun h' => h ⟨h0, h'⟩⟩
  · exact absurd h0 hne
theorem head_ok2 {b l1 : By} {a1 a2 x : Nat} {e1 e2 : Int} (q1 : FQ1 b a1 e1 l1) (h : ¬(e1 = 0 ∧ l1 ≠ markB)) (q2 : FQ2 b a1 e1 a2 e2 x) (h0 : e2 = 0) :
    12 ≤ b.length ∧ a2 = 12 ∧ (¬ b.take 4 ≠ markB) ∧ x = beN ((b.drop 4).take 8) := by
  rcases q2 with ⟨h1, -, h8, hx, ha⟩ | ⟨hne, -⟩
  · obtain ⟨h4, rfl, hm⟩ := head_ok1 q1 h h1
    exact ⟨by omega, by omega, hm, hx⟩
  · exact absurd h0 hne
theorem head_2 {b l1 : By} {a1 a2 x : Nat} {e1 e2 : Int} (q1 : FQ1 b a1 e1 l1) (h : ¬(e1 = 0 ∧ l1 ≠ markB)) (q2 : FQ2 b a1 e1 a2 e2 x) (h2 : e2 = 0 ∧ x ≠ sumN (b.drop a2)) : headS b = 4 := by
  obtain ⟨h8, rfl, hm, rfl⟩ := head_ok2 q1 h q2 h2.1
  unfold headS
  rw [if_neg (by omega), if_neg hm, if_neg (by omega), if_pos h2.2]
theorem head_3 {b l1 l3 : By} {a1 a2 a3 x : Nat} {e1 e2 e3 : Int} (q1 : FQ1 b a1 e1 l1) (h : ¬(e1 = 0 ∧ l1 ≠ markB)) (q2 : FQ2 b a1 e1 a2 e2 x) (h2 : ¬(e2 = 0 ∧ x ≠ sumN (b.drop a2)))
    (q3 : FQ3 b a2 e2 a3 e3 l3) (h3 : e3 ≠ 0) : headS b = 2 ∧ e3 = 2 := by
  rcases q3 with ⟨-, h0, -⟩ | ⟨-, -, -, ⟨he2, he⟩ | ⟨he2, he, hl⟩⟩
  · exact absurd h0 h3
  · rcases q2 with ⟨-, h0, -⟩ | ⟨-, -, -, ⟨he1, he'⟩ | ⟨he1, he', hl⟩⟩
    · exact absurd h0 he2
    · rcases q1 with ⟨-, h0, -⟩ | ⟨-, -, -, ⟨h0, -⟩ | ⟨-, he'', hl⟩⟩
      · exact absurd h0 he1
      · exact absurd rfl h0
      · exact ⟨by unfold headS; rw [if_pos (by omega)], by omega⟩
    · obtain ⟨h4, rfl, hm⟩ := head_ok1 q1 h he1
      exact ⟨by unfold headS; rw [if_neg (by omega), if_neg hm, if_pos (by omega)], by omega⟩
  · obtain ⟨h8, rfl, hm, rfl⟩ := head_ok2 q1 h q2 he2
    exact ⟨by unfold headS; rw [if_neg (by omega), if_neg hm, if_neg (by omega), if_neg (fun h' => h2 ⟨he2, h'⟩), if_pos (by omega)], he⟩
theorem head_ok3 {b l1 l3 : By} {a1 a2 a3 x : Nat} {e1 e2 e3 : Int} (q1 : FQ1 b a1 e1 l1) (h : ¬(e1 = 0 ∧ l1 ≠ markB)) (q2 : FQ2 b a1 e1 a2 e2 x) (h2 : ¬(e2 = 0 ∧ x ≠ sumN (b.drop a2)))
    (q3 : FQ3 b a2 e2 a3 e3 l3) (h3 : ¬ e3 ≠ 0) : a3 = 44 ∧ e3 = 0 ∧ l3 = (b.drop 12).take 32 ∧ headS b = if (b.drop 12).take 32 ≠ Dig.sum (b.drop 44) then 4 else 0 := by
  rcases q3 with ⟨he2, he, hl, rfl, ha⟩ | ⟨hne, -⟩
  · obtain ⟨h8, rfl, hm, rfl⟩ := head_ok2 q1 h q2 he2
    refine ⟨by omega, he, rfl, ?_⟩
    unfold headS
    rw [if_neg (by omega), if_neg hm, if_neg (by omega), if_neg (fun h' => h2 ⟨he2, h'⟩), if_neg (by omega)]
  · exact absurd hne h3
theorem sumn_calls {A0 : Option Addr} {c0 n : Nat} (hn : n = b.length) (hR : Rd w0 A0 (b.map bv)) (hb : b.length ≤ 140737488355328) :
    Calls Try.prog 66 #[.slice A0 n c0] w0 fun e w' => e = .returned (.int .u64 (sumN b : Nat)) ∧ Heap w0 [] w' := by
  subst hn; exact sum_calls hR hb
theorem digestn_calls {A0 : Option Addr} {c0 n : Nat} (hn : n = b.length) (hR : Rd w0 A0 (b.map bv)) (hb : b.length ≤ 140737488355328) (hc : b.length ≤ c0) :
    Calls Try.prog 63 #[.slice A0 n c0] w0 fun e w' => e = .returned (.agg ((Dig.sum b).map bv).toArray) ∧ Heap w0 [] w' := by
  subst hn; exact Dig.sum_calls hR hb hc
theorem sum_whole (l : By) : (List.replicate 32 (bv 0)).take 0 ++ (Dig.sum l).map bv ++ (List.replicate 32 (bv 0)).drop (0 + ((Dig.sum l).map bv).length) = (Dig.sum l).map bv := by
  rw [List.length_map, Dig.sum_length]; simp
theorem head_calls {A0 : Option Addr} {c0 : Nat} (hR : Rd w0 A0 (b.map bv)) (hc0 : b.length ≤ c0) (H : Heap w0 (rdr w0 g A cap b 0 0 R) w) (hcap : b.length ≤ cap) (hb : b.length ≤ 140737488355328) :
    Calls Try.prog 53 #[.slice A0 b.length c0, .pointer (some ⟨g, 0, none⟩)] w fun e w' => ∃ (a' : Nat) (er : Int), e = .returned (.int .i64 (headS b : Nat)) ∧ (headS b = 0 → a' = 44 ∧ er = 0) ∧ a' ≤ b.length ∧ Heap w0 (rdr w0 g A cap b a' er R) w' := by
  refine c_enter (xa := [.slice A0 b.length c0, .pointer (some ⟨g, 0, none⟩)]) 56 Try.func53 rfl rfl rfl ?_
  refine wp_seq ?_
  -- R0
  refine c_region ?_
  refine L1 rfl rfl H (y_assign (v := (.int .i64 _)) rfl rfl) ?_
  refine e_list ?_; (repeat (first | (with_reducible first | refine e_then ?_ | refine e_block ?_ | refine e_then_ret ?_ | refine e_block_ret ?_ | refine e_then_exit ?_ | refine e_block_here ?_ | refine e_then_panic ?_ | refine e_block_panic ?_) | refine e_block_on rfl ?_))
  refine wp_seq ?_
  -- R1
  refine c_region ?_
  refine L1 rfl rfl H (y_move (v := (.pointer _)) rfl rfl) ?_
  refine Lfn rfl rfl rfl (xa := [(.pointer _), (.int .i64 _)]) rfl Try.call54 ?_   -- (*portage/wire.Reader).Raw
  refine (rawN_calls (n := 4) (by decide) H hcap hb (Nat.zero_le _)).mono ?_
  rintro e w ⟨a1, e1, A1, c1, l1, rfl, hc1, ha1, hq1, H⟩
  refine ⟨_, rfl, ?_⟩
  refine L1 rfl rfl H (y_assign (v := (.slice _ _ _)) rfl rfl) ?_
  refine e_list ?_; (repeat (first | (with_reducible first | refine e_then ?_ | refine e_block ?_ | refine e_then_ret ?_ | refine e_block_ret ?_ | refine e_then_exit ?_ | refine e_block_here ?_ | refine e_then_panic ?_ | refine e_block_panic ?_) | refine e_block_on rfl ?_))
  refine wp_seq ?_
  refine c_cutR [0, 1] 18 (e1 = 0 ∧ l1 ≠ markB) (rdr w0 g A cap b a1 e1 (rowB w0 A1 c1 l1 :: R)) H ?_ ?_
  · skip
    -- R2
    refine c_region ?_
    refine L1 rfl rfl H (y_move (v := (.pointer _)) rfl rfl) ?_
    refine Lfn rfl rfl rfl (xa := [(.pointer _)]) rfl Try.call56 ?_   -- (*portage/wire.Reader).Err
    refine (err_calls H).mono ?_
    rintro e w ⟨rfl, H⟩
    refine ⟨_, rfl, ?_⟩
    refine L1 rfl rfl H (y_eql rfl rfl rfl) ?_
    refine L_split rfl rfl rfl rfl (fun hg2_3 => ?_) (fun hg2_3 => ?_)
    · skip
      refine L1g rfl rfl rfl rfl H (y_move (v := (.slice _ _ _)) rfl rfl) ?_
      refine L1g rfl rfl rfl rfl H (y_conv_slice_string l1 rfl rfl Try.underlying22 Try.underlying9 Try.underlying5 rfl (fun w H => rd_row (H.get 2 rfl))) ?_
      refine L1g rfl rfl rfl rfl H (y_str_neq rfl rfl rfl) ?_
      refine L1 rfl rfl H (y_pick (v := (.bool _)) rfl rfl rfl) ?_
      refine e_list ?_; (repeat (first | (with_reducible first | refine e_then ?_ | refine e_block ?_ | refine e_then_ret ?_ | refine e_block_ret ?_ | refine e_then_exit ?_ | refine e_block_here ?_ | refine e_then_panic ?_ | refine e_block_panic ?_) | refine e_block_on rfl ?_))
      refine ⟨_, rfl, congrArg Value.bool (decide_eq_decide.2 ⟨fun h => ⟨hg2_3, (bytes_ne (l := l1) (m := markB)).1 h⟩, fun h => (bytes_ne (l := l1) (m := markB)).2 h.2⟩), ⟨rfl, rfl, trivial⟩, H⟩
    · skip
      refine Lno rfl rfl rfl rfl rfl ?_
      refine Lno rfl rfl rfl rfl rfl ?_
      refine Lno rfl rfl rfl rfl rfl ?_
      refine L1 rfl rfl H (y_pick (v := (.bool _)) rfl rfl rfl) ?_
      refine e_list ?_; (repeat (first | (with_reducible first | refine e_then ?_ | refine e_block ?_ | refine e_then_ret ?_ | refine e_block_ret ?_ | refine e_then_exit ?_ | refine e_block_here ?_ | refine e_then_panic ?_ | refine e_block_panic ?_) | refine e_block_on rfl ?_))
      refine ⟨_, rfl, congrArg Value.bool (decide_eq_false (fun h => hg2_3 h.1)).symm, ⟨rfl, rfl, trivial⟩, H⟩
  intro g2 w H
  refine c_if rfl (fun h0 => ?_) (fun h0 => ?_)   -- if 0
  · skip
    refine wp_seq ?_
    -- R3
    refine c_region ?_
    refine L1 rfl rfl H (y_assign (v := (.int .i64 _)) rfl rfl) ?_
    refine e_list ?_; (repeat (first | (with_reducible first | refine e_then ?_ | refine e_block ?_ | refine e_then_ret ?_ | refine e_block_ret ?_ | refine e_then_exit ?_ | refine e_block_here ?_ | refine e_then_panic ?_ | refine e_block_panic ?_) | refine e_block_on rfl ?_))
    refine wp_ret ?_; (repeat (first | (with_reducible first | refine e_then ?_ | refine e_block ?_ | refine e_then_ret ?_ | refine e_block_ret ?_ | refine e_then_exit ?_ | refine e_block_here ?_ | refine e_then_panic ?_ | refine e_block_panic ?_) | refine e_block_on rfl ?_))
    refine r_1 (v := (.int .i64 _)) rfl rfl ?_
    have hs := head_1 hq1 h0
    exact ⟨a1, e1, by rw [hs]; rfl, (by rw [hs]; intro h; cases h), ha1, H.del 2⟩
  · skip
    refine wp_skip ?_; (repeat (first | (with_reducible first | refine e_then ?_ | refine e_block ?_ | refine e_then_ret ?_ | refine e_block_ret ?_ | refine e_then_exit ?_ | refine e_block_here ?_ | refine e_then_panic ?_ | refine e_block_panic ?_) | refine e_block_on rfl ?_))
    refine wp_seq ?_
    -- R4
    refine c_region ?_
    refine L1 rfl rfl H (y_move (v := (.pointer _)) rfl rfl) ?_
    refine Lfn rfl rfl rfl (xa := [(.pointer _)]) rfl Try.call106 ?_   -- (*portage/wire.Reader).Word
    refine (word_reads H hcap hb ha1).mono ?_
    rintro e w ⟨a2, e2, x, rfl, ha2, hq2, H⟩
    refine ⟨_, rfl, ?_⟩
    refine L1 rfl rfl H (y_assign (v := (.int .u64 _)) rfl rfl) ?_
    refine e_list ?_; (repeat (first | (with_reducible first | refine e_then ?_ | refine e_block ?_ | refine e_then_ret ?_ | refine e_block_ret ?_ | refine e_then_exit ?_ | refine e_block_here ?_ | refine e_then_panic ?_ | refine e_block_panic ?_) | refine e_block_on rfl ?_))
    refine wp_seq ?_
    refine c_cutR [0, 1] 35 (e2 = 0 ∧ x ≠ sumN (b.drop a2)) (rdr w0 g A cap b a2 e2 (rowB w0 A1 c1 l1 :: R)) H ?_ ?_
    · skip
      -- R5
      refine c_region ?_
      refine L1 rfl rfl H (y_move (v := (.pointer _)) rfl rfl) ?_
      refine Lfn rfl rfl rfl (xa := [(.pointer _)]) rfl Try.call56 ?_   -- (*portage/wire.Reader).Err
      refine (err_calls H).mono ?_
      rintro e w ⟨rfl, H⟩
      refine ⟨_, rfl, ?_⟩
      refine L1 rfl rfl H (y_eql rfl rfl rfl) ?_
      refine L_split rfl rfl rfl rfl (fun hg5_3 => ?_) (fun hg5_3 => ?_)
      · skip
        refine L1g rfl rfl rfl rfl H (y_move (v := (.int .u64 _)) rfl rfl) ?_
        refine L1g rfl rfl rfl rfl H (y_move (v := (.slice _ _ _)) rfl rfl) ?_
        refine L1g rfl rfl rfl rfl H (y_move (v := (.slice _ _ _)) rfl rfl) ?_
        refine L1g rfl rfl rfl rfl H (y_len_slice rfl rfl Try.underlying22) ?_
        refine L1g rfl rfl rfl rfl H (y_move (v := (.pointer _)) rfl rfl) ?_
        refine Lfng rfl rfl rfl rfl rfl (xa := [(.pointer _)]) rfl Try.call107 ?_   -- (*portage/wire.Reader).Left
        refine (left_calls H ha2 hb).mono ?_
        rintro e w ⟨rfl, H⟩
        refine ⟨_, rfl, ?_⟩
        refine L1g rfl rfl rfl rfl H (y_sub (r := (a2 : Nat)) rfl rfl rfl (by rw [wr_i64 (by omega) (by omega)]; omega)) ?_
        refine L1g rfl rfl rfl rfl H (y_slice_l rfl rfl rfl Try.underlying22 Try.sizeOf5 (by omega) (by omega)) ?_
        refine Lfng rfl rfl rfl rfl rfl (xa := [.slice (subA A0 c0 a2 1) (b.length - a2) (c0 - a2)]) rfl Try.call66 ?_   -- portage/relay.sum
        refine (sumn_calls (b := b.drop a2) (by rw [List.length_drop]) (rd_sub (hR.old H) hc0 a2) (by rw [List.length_drop]; omega)).mono ?_
        rintro e w' ⟨rfl, K⟩
        replace H := H.app0 K
        clear K
        refine ⟨_, rfl, ?_⟩
        refine L1g rfl rfl rfl rfl H (y_neq rfl rfl rfl) ?_
        refine L1 rfl rfl H (y_pick (v := (.bool _)) rfl rfl rfl) ?_
        refine e_list ?_; (repeat (first | (with_reducible first | refine e_then ?_ | refine e_block ?_ | refine e_then_ret ?_ | refine e_block_ret ?_ | refine e_then_exit ?_ | refine e_block_here ?_ | refine e_then_panic ?_ | refine e_block_panic ?_) | refine e_block_on rfl ?_))
        refine ⟨_, rfl, congrArg Value.bool (decide_eq_decide.2 (by omega)), ⟨rfl, rfl, trivial⟩, H⟩
      · skip
        refine Lno rfl rfl rfl rfl rfl ?_
        refine Lno rfl rfl rfl rfl rfl ?_
        refine Lno rfl rfl rfl rfl rfl ?_
        refine Lno rfl rfl rfl rfl rfl ?_
        refine Lno rfl rfl rfl rfl rfl ?_
        refine Lno rfl rfl rfl rfl rfl ?_
        refine Lno rfl rfl rfl rfl rfl ?_
        refine Lno rfl rfl rfl rfl rfl ?_
        refine Lno rfl rfl rfl rfl rfl ?_
        refine Lno rfl rfl rfl rfl rfl ?_
        refine L1 rfl rfl H (y_pick (v := (.bool _)) rfl rfl rfl) ?_
        refine e_list ?_; (repeat (first | (with_reducible first | refine e_then ?_ | refine e_block ?_ | refine e_then_ret ?_ | refine e_block_ret ?_ | refine e_then_exit ?_ | refine e_block_here ?_ | refine e_then_panic ?_ | refine e_block_panic ?_) | refine e_block_on rfl ?_))
        refine ⟨_, rfl, congrArg Value.bool (decide_eq_false (fun h => hg5_3 h.1)).symm, ⟨rfl, rfl, trivial⟩, H⟩
    intro g5 w H
    refine c_if rfl (fun h1 => ?_) (fun h1 => ?_)   -- if 1
    · skip
      refine wp_seq ?_
      -- R6
      refine c_region ?_
      refine L1 rfl rfl H (y_assign (v := (.int .i64 _)) rfl rfl) ?_
      refine e_list ?_; (repeat (first | (with_reducible first | refine e_then ?_ | refine e_block ?_ | refine e_then_ret ?_ | refine e_block_ret ?_ | refine e_then_exit ?_ | refine e_block_here ?_ | refine e_then_panic ?_ | refine e_block_panic ?_) | refine e_block_on rfl ?_))
      refine wp_ret ?_; (repeat (first | (with_reducible first | refine e_then ?_ | refine e_block ?_ | refine e_then_ret ?_ | refine e_block_ret ?_ | refine e_then_exit ?_ | refine e_block_here ?_ | refine e_then_panic ?_ | refine e_block_panic ?_) | refine e_block_on rfl ?_))
      refine r_1 (v := (.int .i64 _)) rfl rfl ?_
      have hs := head_2 hq1 h0 hq2 h1
      exact ⟨a2, e2, by rw [hs]; rfl, (by rw [hs]; intro h; cases h), ha2, H.del 2⟩
    · skip
      refine wp_skip ?_; (repeat (first | (with_reducible first | refine e_then ?_ | refine e_block ?_ | refine e_then_ret ?_ | refine e_block_ret ?_ | refine e_then_exit ?_ | refine e_block_here ?_ | refine e_then_panic ?_ | refine e_block_panic ?_) | refine e_block_on rfl ?_))
      refine wp_seq ?_
      -- R7
      refine c_region ?_
      refine L1 rfl rfl H (y_move (v := (.pointer _)) rfl rfl) ?_
      refine Lfn rfl rfl rfl (xa := [(.pointer _), (.int .i64 _)]) rfl Try.call54 ?_   -- (*portage/wire.Reader).Raw
      refine (rawN_calls (n := 32) (by decide) H hcap hb ha2).mono ?_
      rintro e w ⟨a3, e3, A3, c3, l3, rfl, hc3, ha3, hq3, H⟩
      refine ⟨_, rfl, ?_⟩
      refine L1 rfl rfl H (y_assign (v := (.slice _ _ _)) rfl rfl) ?_
      refine e_list ?_; (repeat (first | (with_reducible first | refine e_then ?_ | refine e_block ?_ | refine e_then_ret ?_ | refine e_block_ret ?_ | refine e_then_exit ?_ | refine e_block_here ?_ | refine e_then_panic ?_ | refine e_block_panic ?_) | refine e_block_on rfl ?_))
      refine wp_seq ?_
      refine wp_seq ?_
      -- R8
      refine c_region ?_
      refine L1 rfl rfl H (y_move (v := (.pointer _)) rfl rfl) ?_
      refine Lfn rfl rfl rfl (xa := [(.pointer _)]) rfl Try.call56 ?_   -- (*portage/wire.Reader).Err
      refine (err_calls H).mono ?_
      rintro e w ⟨rfl, H⟩
      refine ⟨_, rfl, ?_⟩
      refine L1 rfl rfl H (y_neq rfl rfl rfl) ?_
      refine e_list ?_; (repeat (first | (with_reducible first | refine e_then ?_ | refine e_block ?_ | refine e_then_ret ?_ | refine e_block_ret ?_ | refine e_then_exit ?_ | refine e_block_here ?_ | refine e_then_panic ?_ | refine e_block_panic ?_) | refine e_block_on rfl ?_))
      refine c_if rfl (fun h2 => ?_) (fun h2 => ?_)   -- if 2
      · skip
        refine wp_seq ?_
        -- R9
        refine c_region ?_
        refine L1 rfl rfl H (y_move (v := (.pointer _)) rfl rfl) ?_
        refine Lfn rfl rfl rfl (xa := [(.pointer _)]) rfl Try.call56 ?_   -- (*portage/wire.Reader).Err
        refine (err_calls H).mono ?_
        rintro e w ⟨rfl, H⟩
        refine ⟨_, rfl, ?_⟩
        refine L1 rfl rfl H (y_assign (v := (.int .i64 _)) rfl rfl) ?_
        refine e_list ?_; (repeat (first | (with_reducible first | refine e_then ?_ | refine e_block ?_ | refine e_then_ret ?_ | refine e_block_ret ?_ | refine e_then_exit ?_ | refine e_block_here ?_ | refine e_then_panic ?_ | refine e_block_panic ?_) | refine e_block_on rfl ?_))
        refine wp_ret ?_; (repeat (first | (with_reducible first | refine e_then ?_ | refine e_block ?_ | refine e_then_ret ?_ | refine e_block_ret ?_ | refine e_then_exit ?_ | refine e_block_here ?_ | refine e_then_panic ?_ | refine e_block_panic ?_) | refine e_block_on rfl ?_))
        refine r_1 (v := (.int .i64 _)) rfl rfl ?_
        have hs := head_3 hq1 h0 hq2 h1 hq3 h2
        exact ⟨a3, e3, by rw [hs.1, hs.2]; rfl, (by rw [hs.1]; intro h; cases h), ha3, (H.del 2).del 2⟩
      · skip
        refine wp_skip ?_; (repeat (first | (with_reducible first | refine e_then ?_ | refine e_block ?_ | refine e_then_ret ?_ | refine e_block_ret ?_ | refine e_then_exit ?_ | refine e_block_here ?_ | refine e_then_panic ?_ | refine e_block_panic ?_) | refine e_block_on rfl ?_))
        refine wp_seq ?_
        refine wp_seq ?_
        -- R10
        refine c_region ?_
        refine L1 rfl rfl H (y_move (v := (.slice _ _ _)) rfl rfl) ?_
        refine L1 rfl rfl H (y_move (v := (.slice _ _ _)) rfl rfl) ?_
        refine L1 rfl rfl H (y_len_slice rfl rfl Try.underlying22) ?_
        refine L1 rfl rfl H (y_move (v := (.pointer _)) rfl rfl) ?_
        refine Lfn rfl rfl rfl (xa := [(.pointer _)]) rfl Try.call107 ?_   -- (*portage/wire.Reader).Left
        refine (left_calls H ha3 hb).mono ?_
        rintro e w ⟨rfl, H⟩
        refine ⟨_, rfl, ?_⟩
        refine L1 rfl rfl H (y_sub (r := (a3 : Nat)) rfl rfl rfl (by rw [wr_i64 (by omega) (by omega)]; omega)) ?_
        refine L1 rfl rfl H (y_slice_l rfl rfl rfl Try.underlying22 Try.sizeOf5 (by omega) (by omega)) ?_
        refine Lfn rfl rfl rfl (xa := [.slice (subA A0 c0 a3 1) (b.length - a3) (c0 - a3)]) rfl Try.call63 ?_   -- portage/digest.Sum
        refine (digestn_calls (b := b.drop a3) (by rw [List.length_drop]) (rd_sub (hR.old H) hc0 a3) (by rw [List.length_drop]; omega) (by rw [List.length_drop]; omega)).mono ?_
        rintro e w' ⟨rfl, K⟩
        replace H := H.app0 K
        clear K
        refine ⟨_, rfl, ?_⟩
        refine Lalloc rfl rfl rfl H Try.zeroValue82 (cs := List.replicate 32 (bv 0)) rfl ?_; intro b8 w H
        refine Lstore 0 rfl rfl rfl rfl (v := .agg ((Dig.sum (b.drop a3)).map bv).toArray) rfl H rfl (vs := (Dig.sum (b.drop a3)).map bv) rfl (by rw [List.length_map, Dig.sum_length]; exact Try.sizeOf82) (List.all_eq_true.2 (bv_one _)) (by rw [List.length_map, Dig.sum_length]; rfl) ?_; intro w H
        replace H : Heap w0 (Ent.blk b8 82 ((List.replicate 32 (bv 0)).take 0 ++ (Dig.sum (b.drop a3)).map bv ++ (List.replicate 32 (bv 0)).drop (0 + ((Dig.sum (b.drop a3)).map bv).length)) :: rdr w0 g A cap b a3 e3 (rowB w0 A3 c3 l3 :: rowB w0 A1 c1 l1 :: R)) w := H
        rw [sum_whole] at H
        refine e_list ?_; (repeat (first | (with_reducible first | refine e_then ?_ | refine e_block ?_ | refine e_then_ret ?_ | refine e_block_ret ?_ | refine e_then_exit ?_ | refine e_block_here ?_ | refine e_then_panic ?_ | refine e_block_panic ?_) | refine e_block_on rfl ?_))
        refine wp_seq ?_
        -- R11 draws
        refine c_draw H (by kernel_rfl) (by kernel_rfl) ?_
        refine Q1 rfl rfl (y_move (v := (.slice _ _ _)) rfl rfl) ?_
        refine Q1 rfl rfl (y_conv_slice_string l3 rfl rfl Try.underlying22 Try.underlying9 Try.underlying5 rfl (fun w H => rd_row (H.get 3 rfl))) ?_
        refine Q1 rfl rfl (y_slice_arr_ rfl rfl Try.underlying82 Try.sizeOf5) ?_
        refine Q1 rfl rfl (y_conv_slice_string (Dig.sum (b.drop a3)) rfl rfl Try.underlying22 Try.underlying9 Try.underlying5 (by rw [Dig.sum_length]) (fun w H => rd_blk H 0 rfl)) ?_
        refine Q1 rfl rfl (y_str_neq rfl rfl rfl) ?_
        refine Qend ?_; intro w H; (repeat (first | (with_reducible first | refine e_then ?_ | refine e_block ?_ | refine e_then_ret ?_ | refine e_block_ret ?_ | refine e_then_exit ?_ | refine e_block_here ?_ | refine e_then_panic ?_ | refine e_block_panic ?_) | refine e_block_on rfl ?_))
        refine c_if rfl (fun h3 => ?_) (fun h3 => ?_)   -- if 3
        · skip
          refine wp_seq ?_
          -- R12
          refine c_region ?_
          refine L1 rfl rfl H (y_assign (v := (.int .i64 _)) rfl rfl) ?_
          refine e_list ?_; (repeat (first | (with_reducible first | refine e_then ?_ | refine e_block ?_ | refine e_then_ret ?_ | refine e_block_ret ?_ | refine e_then_exit ?_ | refine e_block_here ?_ | refine e_then_panic ?_ | refine e_block_panic ?_) | refine e_block_on rfl ?_))
          refine wp_ret ?_; (repeat (first | (with_reducible first | refine e_then ?_ | refine e_block ?_ | refine e_then_ret ?_ | refine e_block_ret ?_ | refine e_then_exit ?_ | refine e_block_here ?_ | refine e_then_panic ?_ | refine e_block_panic ?_) | refine e_block_on rfl ?_))
          refine r_1 (v := (.int .i64 _)) rfl rfl ?_
          obtain ⟨k1, k2, k3, k4⟩ := head_ok3 hq1 h0 hq2 h1 hq3 h2
          have hs : headS b = 4 := by rw [k4, if_pos (by rw [← k3, ← k1]; exact bytes_ne.1 h3)]
          exact ⟨a3, e3, by rw [hs]; rfl, (by rw [hs]; intro h; cases h), ha3, (H.tail.del 2).del 2⟩
        · skip
          refine wp_skip ?_; (repeat (first | (with_reducible first | refine e_then ?_ | refine e_block ?_ | refine e_then_ret ?_ | refine e_block_ret ?_ | refine e_then_exit ?_ | refine e_block_here ?_ | refine e_then_panic ?_ | refine e_block_panic ?_) | refine e_block_on rfl ?_))
          refine wp_seq ?_
          -- R13
          refine c_region ?_
          refine L1 rfl rfl H (y_assign (v := (.int .i64 _)) rfl rfl) ?_
          refine e_list ?_; (repeat (first | (with_reducible first | refine e_then ?_ | refine e_block ?_ | refine e_then_ret ?_ | refine e_block_ret ?_ | refine e_then_exit ?_ | refine e_block_here ?_ | refine e_then_panic ?_ | refine e_block_panic ?_) | refine e_block_on rfl ?_))
          refine wp_ret ?_; (repeat (first | (with_reducible first | refine e_then ?_ | refine e_block ?_ | refine e_then_ret ?_ | refine e_block_ret ?_ | refine e_then_exit ?_ | refine e_block_here ?_ | refine e_then_panic ?_ | refine e_block_panic ?_) | refine e_block_on rfl ?_))
          refine r_1 (v := (.int .i64 _)) rfl rfl ?_
          obtain ⟨k1, k2, k3, k4⟩ := head_ok3 hq1 h0 hq2 h1 hq3 h2
          have hs : headS b = 0 := by rw [k4, if_neg (by rw [← k3, ← k1]; exact fun h => h3 (bytes_ne.2 h))]
          exact ⟨a3, e3, by rw [hs]; rfl, fun _ => ⟨k1, k2⟩, ha3, (H.tail.del 2).del 2⟩
-- »head
end
end Go.Relay
