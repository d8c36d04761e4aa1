/-
  The program's relay: a parcel is opened.
-/
import Derived.Test.YtjfifehofflaeaaWire7
import Derived.Test.YtjfifehofflaeaaRel1
namespace Go.Relay
open Go.RowKit Go.Eng Go.Proofs Go.Wire
set_option linter.unusedSimpArgs false
set_option linter.unusedVariables false
attribute [local irreducible] wpList wpQuiet wpStill wpMix wpMixE

def tv (l : By) : Value := .string ⟨l.toArray⟩
abbrev rowT (w0 : World) (A : Option Addr) (c : Nat) (ts : List By) : Ent := Ent.row w0.heap.size 9 1 (.slice A ts.length c) ts.length (ts.map tv)
theorem rdTexts_done {b : By} {n : Nat} {s : RS} {ts : List By} (h : ¬((0 : Int) < (n : Int) ∧ s.2 = 0)) : rdTexts b n s ts = (s, ts) := by
  by_cases h0 : s.2 = 0
  · have : n = 0 := by omega
    subst this; rfl
  · exact rdTexts_stop h0
section
variable {w0 w : World} {R : List Ent} {g : Nat} {A : Option Addr} {cap : Nat} {b : By}
-- «open»
theorem open_calls {A0 : Option Addr} {c0 : Nat} (hR : Rd w0 A0 (b.map bv)) (hc0 : b.length ≤ c0) (hb : b.length ≤ 140737488355328) :
    Calls Try.prog 20 #[.slice A0 b.length c0] w0 fun e w' =>
      (∃ k, openS b = .error k ∧ e = .returned (.tuple #[.slice none 0 0, .slice none 0 0, .int .i64 (k : Nat)]) ∧ Heap w0 [] w') ∨
      (∃ l ts A1 c1 A2 c2, openS b = .ok (l, ts) ∧ e = .returned (.tuple #[.slice A1 l.length c1, .slice A2 ts.length c2, .int .i64 0]) ∧ l.length ≤ c1 ∧ ts.length ≤ c2 ∧ Heap w0 [rowB w0 A1 c1 l, rowT w0 A2 c2 ts] w') := by
  refine c_enter (xa := [.slice A0 b.length c0]) 46 Try.func20 rfl rfl rfl ?_
  have H := Heap.init w0
  refine wp_seq ?_
  -- R0
  refine c_region ?_
  refine L1 rfl rfl H (y_assign (v := (.slice _ _ _)) rfl rfl) ?_
  refine L1 rfl rfl H (y_assign (v := (.slice _ _ _)) rfl rfl) ?_
  refine L1 rfl rfl H (y_assign (v := (.int .i64 _)) rfl rfl) ?_
  refine e_list ?_; (repeat (first | (with_reducible first | refine e_then ?_ | refine e_block ?_ | refine e_then_ret ?_ | refine e_block_ret ?_ | refine e_then_exit ?_ | refine e_block_here ?_ | refine e_then_panic ?_ | refine e_block_panic ?_) | refine e_block_on rfl ?_))
  refine wp_seq ?_
  -- R1
  refine c_region ?_
  refine L1 rfl rfl H (y_move (v := (.slice _ _ _)) rfl rfl) ?_
  refine Lfn rfl rfl rfl (xa := [.slice A0 b.length c0]) rfl Try.call52 ?_   -- portage/wire.NewReader
  refine (newReader_calls hR hb).mono ?_
  rintro e w ⟨g, Ar, cap, rfl, hcap, K⟩
  replace H := K
  clear K
  refine ⟨_, rfl, ?_⟩
  refine L1 rfl rfl H (y_assign (v := (.pointer _)) rfl rfl) ?_
  refine e_list ?_; (repeat (first | (with_reducible first | refine e_then ?_ | refine e_block ?_ | refine e_then_ret ?_ | refine e_block_ret ?_ | refine e_then_exit ?_ | refine e_block_here ?_ | refine e_then_panic ?_ | refine e_block_panic ?_) | refine e_block_on rfl ?_))
  refine wp_seq ?_
  refine wp_seq ?_
  -- R2
  refine c_region ?_
  refine L1 rfl rfl H (y_move (v := (.slice _ _ _)) rfl rfl) ?_
  refine L1 rfl rfl H (y_move (v := (.pointer _)) rfl rfl) ?_
  refine Lfn rfl rfl rfl (xa := [.slice A0 b.length c0, (.pointer _)]) rfl Try.call53 ?_   -- portage/relay.head
  refine (head_calls hR hc0 H hcap hb).mono ?_
  rintro e w ⟨a', er, rfl, hh, hle, H⟩
  refine ⟨_, rfl, ?_⟩
  refine L1 rfl rfl H (y_assign (v := (.int .i64 _)) rfl rfl) ?_
  refine e_list ?_; (repeat (first | (with_reducible first | refine e_then ?_ | refine e_block ?_ | refine e_then_ret ?_ | refine e_block_ret ?_ | refine e_then_exit ?_ | refine e_block_here ?_ | refine e_then_panic ?_ | refine e_block_panic ?_) | refine e_block_on rfl ?_))
  refine wp_seq ?_
  -- R3
  refine c_region ?_
  refine L1 rfl rfl H (y_move (v := (.int .i64 _)) rfl rfl) ?_
  refine L1 rfl rfl H (y_neq rfl rfl rfl) ?_
  refine e_list ?_; (repeat (first | (with_reducible first | refine e_then ?_ | refine e_block ?_ | refine e_then_ret ?_ | refine e_block_ret ?_ | refine e_then_exit ?_ | refine e_block_here ?_ | refine e_then_panic ?_ | refine e_block_panic ?_) | refine e_block_on rfl ?_))
  refine c_if rfl (fun h0 => ?_) (fun h0 => ?_)   -- if 0
  · skip
    have hh0 : headS b ≠ 0 := by omega
    refine wp_seq ?_
    -- R4
    refine c_region ?_
    refine L1 rfl rfl H (y_move (v := (.int .i64 _)) rfl rfl) ?_
    refine L1 rfl rfl H (y_assign (v := (.slice _ _ _)) rfl rfl) ?_
    refine L1 rfl rfl H (y_assign (v := (.slice _ _ _)) rfl rfl) ?_
    refine L1 rfl rfl H (y_assign (v := (.int .i64 _)) rfl rfl) ?_
    refine e_list ?_; (repeat (first | (with_reducible first | refine e_then ?_ | refine e_block ?_ | refine e_then_ret ?_ | refine e_block_ret ?_ | refine e_then_exit ?_ | refine e_block_here ?_ | refine e_then_panic ?_ | refine e_block_panic ?_) | refine e_block_on rfl ?_))
    refine wp_ret ?_; (repeat (first | (with_reducible first | refine e_then ?_ | refine e_block ?_ | refine e_then_ret ?_ | refine e_block_ret ?_ | refine e_then_exit ?_ | refine e_block_here ?_ | refine e_then_panic ?_ | refine e_block_panic ?_) | refine e_block_on rfl ?_))
    refine r_3 (v1 := (.slice _ _ _)) (v2 := (.slice _ _ _)) (v3 := (.int .i64 _)) rfl rfl rfl rfl ?_
    exact .inl ⟨headS b, by unfold openS; rw [if_pos hh0], rfl, H.clear⟩
  · skip
    have hh0 : headS b = 0 := by omega
    obtain ⟨rfl, rfl⟩ := hh hh0
    refine wp_skip ?_; (repeat (first | (with_reducible first | refine e_then ?_ | refine e_block ?_ | refine e_then_ret ?_ | refine e_block_ret ?_ | refine e_then_exit ?_ | refine e_block_here ?_ | refine e_then_panic ?_ | refine e_block_panic ?_) | refine e_block_on rfl ?_))
    refine wp_seq ?_
    -- R5
    refine c_region ?_
    refine L1 rfl rfl H (y_move (v := (.pointer _)) rfl rfl) ?_
    refine L1 rfl rfl H (y_move (v := (.pointer _)) rfl rfl) ?_
    refine Lfn rfl rfl rfl (xa := [(.pointer _), (.int .i64 _)]) rfl Try.call55 ?_   -- (*portage/wire.Reader).Count
    refine (rCount (s := ((44, 0) : RS)) (most := 67108864) (by decide) H hcap hb hle).mono ?_
    rintro e w ⟨rfl, hs1, hn1, H⟩
    refine ⟨_, rfl, ?_⟩
    refine Lfn rfl rfl rfl (xa := [(.pointer _), .int .i64 ((sc1 b).2 : Nat)]) rfl Try.call54 ?_   -- (*portage/wire.Reader).Raw
    refine (rRaw (s := (sc1 b).1) (n := (sc1 b).2) (Nat.le_trans hn1 (by decide)) H hcap hb hs1).mono ?_
    rintro e w ⟨A7, c7, rfl, hc7, hs2, H⟩
    replace H : Heap w0 (rds w0 g Ar cap b (sc2 b).1 [rowB w0 A7 c7 (sc2 b).2]) w := H
    replace H : Heap w0 (rds w0 g Ar cap b (sc2 b).1 [rowT w0 none 0 [], rowB w0 A7 c7 (sc2 b).2]) w := (H.row0 9 1).perm ((List.Perm.swap _ _ _).trans ((List.Perm.swap _ _ _).cons _))
    refine ⟨.slice A7 (sc2 b).2.length c7, rfl, ?_⟩
    refine L1 rfl rfl H (y_assign (v := (.slice _ _ _)) rfl rfl) ?_
    refine e_list ?_; (repeat (first | (with_reducible first | refine e_then ?_ | refine e_block ?_ | refine e_then_ret ?_ | refine e_block_ret ?_ | refine e_then_exit ?_ | refine e_block_here ?_ | refine e_then_panic ?_ | refine e_block_panic ?_) | refine e_block_on rfl ?_))
    refine wp_seq ?_
    -- R6
    refine c_region ?_
    refine L1 rfl rfl H (y_assign (v := (.slice _ _ _)) rfl rfl) ?_
    refine e_list ?_; (repeat (first | (with_reducible first | refine e_then ?_ | refine e_block ?_ | refine e_then_ret ?_ | refine e_block_ret ?_ | refine e_then_exit ?_ | refine e_block_here ?_ | refine e_then_panic ?_ | refine e_block_panic ?_) | refine e_block_on rfl ?_))
    refine wp_seq ?_
    refine wp_seq ?_
    -- R7
    refine c_region ?_
    refine L1 rfl rfl H (y_move (v := (.pointer _)) rfl rfl) ?_
    refine Lfn rfl rfl rfl (xa := [(.pointer _), (.int .i64 _)]) rfl Try.call55 ?_   -- (*portage/wire.Reader).Count
    refine (rCount (s := (sc2 b).1) (most := 1048576) (by decide) H hcap hb hs2).mono ?_
    rintro e w ⟨rfl, hs3, hn3, H⟩
    refine ⟨_, rfl, ?_⟩
    refine L1 rfl rfl H (y_assign (v := (.int .i64 _)) rfl rfl) ?_
    refine e_list ?_; (repeat (first | (with_reducible first | refine e_then ?_ | refine e_block ?_ | refine e_then_ret ?_ | refine e_block_ret ?_ | refine e_then_exit ?_ | refine e_block_here ?_ | refine e_then_panic ?_ | refine e_block_panic ?_) | refine e_block_on rfl ?_))
    refine wp_block ?_   -- block 0
    refine c_loop (ι := Nat × RS × List By × Option Addr × Nat) (fun (n, s, ts, A, c) f w => (∃ gx, f = ov [(5, .pointer (some ⟨g, 0, none⟩)), (7, .slice A7 (sc2 b).2.length c7), (8, .slice A ts.length c), (9, .int .i64 (n : Nat))] gx) ∧ Heap w0 (rds w0 g Ar cap b s [rowT w0 A c ts, rowB w0 A7 c7 (sc2 b).2]) w ∧ s.1 ≤ b.length ∧ ts.length + n ≤ 1048576 ∧ ts.length ≤ c ∧ rdTexts b n s ts = sc4 b) (fun (n, s, ts, A, c) => n) ((sc3 b).2, (sc3 b).1, [], none, 0) ?_ ?_
    · exact ⟨ov_ex _ ⟨rfl, rfl, rfl, rfl, trivial⟩, H, hs3, by show 0 + (sc3 b).2 ≤ _; rw [Nat.zero_add]; exact hn3, Nat.le_refl _, rfl⟩
    rintro ⟨n, s, ts, A, c⟩ f w ⟨⟨gg, rfl⟩, H, hs, hnt, htc, hrd⟩
    refine wp_seq ?_
    refine c_cutR [5, 7, 8, 9] 31 ((0 : Int) < (n : Int) ∧ s.2 = 0) (rds w0 g Ar cap b s [rowT w0 A c ts, rowB w0 A7 c7 (sc2 b).2]) H ?_ ?_
    · skip
      -- R8
      refine c_region ?_
      refine L1 rfl rfl H (y_move (v := (.int .i64 _)) rfl rfl) ?_
      refine L1 rfl rfl H (y_gtr rfl rfl rfl) ?_
      refine L_split rfl rfl rfl rfl (fun hg8_2 => ?_) (fun hg8_2 => ?_)
      · skip
        refine L1g rfl rfl rfl rfl H (y_move (v := (.pointer _)) rfl rfl) ?_
        refine Lfng rfl rfl rfl rfl rfl (xa := [(.pointer _)]) rfl Try.call56 ?_   -- (*portage/wire.Reader).Err
        refine (rErr H).mono ?_
        rintro e w ⟨rfl, H⟩
        refine ⟨_, rfl, ?_⟩
        refine L1g rfl rfl rfl rfl H (y_eql rfl rfl rfl) ?_
        refine L1 rfl rfl H (y_pick (v := (.bool _)) rfl rfl rfl) ?_
        refine e_list ?_; (repeat (first | (with_reducible first | refine e_then ?_ | refine e_block ?_ | refine e_then_ret ?_ | refine e_block_ret ?_ | refine e_then_exit ?_ | refine e_block_here ?_ | refine e_then_panic ?_ | refine e_block_panic ?_) | refine e_block_on rfl ?_))
        refine ⟨_, rfl, congrArg Value.bool (decide_eq_decide.2 (by omega)), ⟨rfl, rfl, rfl, rfl, trivial⟩, H⟩
      · skip
        refine Lno rfl rfl rfl rfl rfl ?_
        refine Lno rfl rfl rfl rfl rfl ?_
        refine Lno rfl rfl rfl rfl rfl ?_
        refine L1 rfl rfl H (y_pick (v := (.bool _)) rfl rfl rfl) ?_
        refine e_list ?_; (repeat (first | (with_reducible first | refine e_then ?_ | refine e_block ?_ | refine e_then_ret ?_ | refine e_block_ret ?_ | refine e_then_exit ?_ | refine e_block_here ?_ | refine e_then_panic ?_ | refine e_block_panic ?_) | refine e_block_on rfl ?_))
        refine ⟨_, rfl, congrArg Value.bool (decide_eq_false (by omega)).symm, ⟨rfl, rfl, rfl, rfl, trivial⟩, H⟩
    intro g8 w H
    refine c_if rfl (fun h1 => ?_) (fun h1 => ?_)   -- if 1
    · skip
      have hB := h1
      refine wp_skip ?_; (repeat (first | (with_reducible first | refine e_then ?_ | refine e_block ?_ | refine e_then_ret ?_ | refine e_block_ret ?_ | refine e_then_exit ?_ | refine e_block_here ?_ | refine e_then_panic ?_ | refine e_block_panic ?_) | refine e_block_on rfl ?_))
      refine wp_seq ?_
      refine wp_block ?_   -- block 1
      -- R10
      refine c_region ?_
      refine L1 rfl rfl H (y_move (v := (.slice _ _ _)) rfl rfl) ?_
      refine L1 rfl rfl H (y_move (v := (.pointer _)) rfl rfl) ?_
      refine Lfn rfl rfl rfl (xa := [(.pointer _), (.int .i64 _)]) rfl Try.call57 ?_   -- (*portage/wire.Reader).Text
      refine (rText (most := 4096) (by decide) H hcap hb hs).mono ?_
      rintro e w ⟨rfl, hs', H⟩
      refine ⟨_, rfl, ?_⟩
      refine LbuildSlice1 (v := (.string _)) rfl rfl rfl rfl H Try.underlying24 Try.sizeOf9 Try.zeroValue9 rfl rfl ?_; intro b37 w H
      refine Lapp1 2 rfl rfl rfl rfl rfl H rfl Try.underlying24 Try.underlying24 (i := Try.t9) (by kernel_rfl) (z := .string "".toUTF8) rfl rfl rfl rfl (by show (_ + 1) * 16 ≤ _; omega) (by simp only [maxLen]; omega) ?_
      intro A c w hc H
      replace H : Heap w0 (rds w0 g Ar cap b (rdText b 4096 s).1 [Ent.row w0.heap.size 9 1 (.slice A (ts.length + 1) c) (ts.length + 1) (ts.map tv ++ [tv (rdText b 4096 s).2]), rowB w0 A7 c7 (sc2 b).2]) w := H
      rw [show ts.map tv ++ [tv (rdText b 4096 s).2] = (ts ++ [(rdText b 4096 s).2]).map tv from by rw [List.map_append]; rfl, show ts.length + 1 = (ts ++ [(rdText b 4096 s).2]).length from by rw [List.length_append]; rfl] at H
      refine L1 rfl rfl H (y_assign (v := (.slice _ _ _)) rfl rfl) ?_
      refine e_list ?_; (repeat (first | (with_reducible first | refine e_then ?_ | refine e_block ?_ | refine e_then_ret ?_ | refine e_block_ret ?_ | refine e_then_exit ?_ | refine e_block_here ?_ | refine e_then_panic ?_ | refine e_block_panic ?_) | refine e_block_on rfl ?_))
      -- R9
      refine c_region ?_
      refine L1 rfl rfl H (y_move (v := (.int .i64 _)) rfl rfl) ?_
      refine L1 rfl rfl H (y_sub (r := ((n - 1 : Nat) : Int)) rfl rfl rfl (by rw [wr_i64 (by omega) (by omega)]; omega)) ?_
      refine L1 rfl rfl H (y_assign (v := (.int .i64 _)) rfl rfl) ?_
      refine e_list ?_; (repeat (first | (with_reducible first | refine e_then ?_ | refine e_block ?_ | refine e_then_ret ?_ | refine e_block_ret ?_ | refine e_then_exit ?_ | refine e_block_here ?_ | refine e_then_panic ?_ | refine e_block_panic ?_) | refine e_block_on rfl ?_))
      exact ⟨(n - 1, (rdText b 4096 s).1, ts ++ [(rdText b 4096 s).2], A, c), _, rfl, ⟨ov_ex _ ⟨rfl, rfl, by rw [List.length_append]; rfl, rfl, trivial⟩, H, hs', by rw [List.length_append]; show ts.length + 1 + (n - 1) ≤ _; omega, by rw [List.length_append]; exact hc, by rw [← hrd, ← rdTexts_step hB.2, Nat.sub_add_cancel (by omega)]⟩, by show n - 1 < n; omega⟩
    · skip
      have h4 : sc4 b = (s, ts) := by rw [← hrd, rdTexts_done h1]
      refine wp_exit ?_; (repeat (first | (with_reducible first | refine e_then ?_ | refine e_block ?_ | refine e_then_ret ?_ | refine e_block_ret ?_ | refine e_then_exit ?_ | refine e_block_here ?_ | refine e_then_panic ?_ | refine e_block_panic ?_) | refine e_block_on rfl ?_))
      refine wp_seq ?_
      refine wp_seq ?_
      -- R11
      refine c_region ?_
      refine L1 rfl rfl H (y_move (v := (.pointer _)) rfl rfl) ?_
      refine Lfn rfl rfl rfl (xa := [(.pointer _)]) rfl Try.call58 ?_   -- (*portage/wire.Reader).End
      refine (rEnd H hs hb).mono ?_
      rintro e w ⟨rfl, H⟩
      refine ⟨_, rfl, ?_⟩
      refine L1 rfl rfl H (y_assign (v := (.int .i64 _)) rfl rfl) ?_
      refine e_list ?_; (repeat (first | (with_reducible first | refine e_then ?_ | refine e_block ?_ | refine e_then_ret ?_ | refine e_block_ret ?_ | refine e_then_exit ?_ | refine e_block_here ?_ | refine e_then_panic ?_ | refine e_block_panic ?_) | refine e_block_on rfl ?_))
      refine wp_seq ?_
      -- R12
      refine c_region ?_
      refine L1 rfl rfl H (y_move (v := (.int .i64 _)) rfl rfl) ?_
      refine L1 rfl rfl H (y_neq rfl rfl rfl) ?_
      refine e_list ?_; (repeat (first | (with_reducible first | refine e_then ?_ | refine e_block ?_ | refine e_then_ret ?_ | refine e_block_ret ?_ | refine e_then_exit ?_ | refine e_block_here ?_ | refine e_then_panic ?_ | refine e_block_panic ?_) | refine e_block_on rfl ?_))
      refine c_if rfl (fun h2 => ?_) (fun h2 => ?_)   -- if 2
      · skip
        have he : openS b = .error (rdEnd b s) := by unfold openS; rw [if_neg (show ¬ headS b ≠ 0 by omega), h4, if_pos (show rdEnd b s ≠ 0 by omega)]
        refine wp_seq ?_
        -- R13
        refine c_region ?_
        refine L1 rfl rfl H (y_move (v := (.int .i64 _)) rfl rfl) ?_
        refine L1 rfl rfl H (y_assign (v := (.slice _ _ _)) rfl rfl) ?_
        refine L1 rfl rfl H (y_assign (v := (.slice _ _ _)) rfl rfl) ?_
        refine L1 rfl rfl H (y_assign (v := (.int .i64 _)) rfl rfl) ?_
        refine e_list ?_; (repeat (first | (with_reducible first | refine e_then ?_ | refine e_block ?_ | refine e_then_ret ?_ | refine e_block_ret ?_ | refine e_then_exit ?_ | refine e_block_here ?_ | refine e_then_panic ?_ | refine e_block_panic ?_) | refine e_block_on rfl ?_))
        refine wp_ret ?_; (repeat (first | (with_reducible first | refine e_then ?_ | refine e_block ?_ | refine e_then_ret ?_ | refine e_block_ret ?_ | refine e_then_exit ?_ | refine e_block_here ?_ | refine e_then_panic ?_ | refine e_block_panic ?_) | refine e_block_on rfl ?_))
        refine r_3 (v1 := (.slice _ _ _)) (v2 := (.slice _ _ _)) (v3 := (.int .i64 _)) rfl rfl rfl rfl ?_
        exact .inl ⟨_, he, rfl, H.clear⟩
      · skip
        have h20 : rdEnd b s = 0 := by omega
        have he : openS b = .ok ((sc2 b).2, ts) := by unfold openS; rw [if_neg (show ¬ headS b ≠ 0 by omega), h4, if_neg (show ¬ rdEnd b s ≠ 0 by omega)]
        refine wp_skip ?_; (repeat (first | (with_reducible first | refine e_then ?_ | refine e_block ?_ | refine e_then_ret ?_ | refine e_block_ret ?_ | refine e_then_exit ?_ | refine e_block_here ?_ | refine e_then_panic ?_ | refine e_block_panic ?_) | refine e_block_on rfl ?_))
        refine wp_seq ?_
        -- R14
        refine c_region ?_
        refine L1 rfl rfl H (y_move (v := (.slice _ _ _)) rfl rfl) ?_
        refine L1 rfl rfl H (y_move (v := (.slice _ _ _)) rfl rfl) ?_
        refine L1 rfl rfl H (y_assign (v := (.slice _ _ _)) rfl rfl) ?_
        refine L1 rfl rfl H (y_assign (v := (.slice _ _ _)) rfl rfl) ?_
        refine L1 rfl rfl H (y_assign (v := (.int .i64 _)) rfl rfl) ?_
        refine e_list ?_; (repeat (first | (with_reducible first | refine e_then ?_ | refine e_block ?_ | refine e_then_ret ?_ | refine e_block_ret ?_ | refine e_then_exit ?_ | refine e_block_here ?_ | refine e_then_panic ?_ | refine e_block_panic ?_) | refine e_block_on rfl ?_))
        refine wp_ret ?_; (repeat (first | (with_reducible first | refine e_then ?_ | refine e_block ?_ | refine e_then_ret ?_ | refine e_block_ret ?_ | refine e_then_exit ?_ | refine e_block_here ?_ | refine e_then_panic ?_ | refine e_block_panic ?_) | refine e_block_on rfl ?_))
        refine r_3 (v1 := (.slice _ _ _)) (v2 := (.slice _ _ _)) (v3 := (.int .i64 _)) rfl rfl rfl rfl ?_
        exact .inr ⟨_, _, A7, c7, A, c, he, rfl, hc7, htc, (H.drop 2).perm (List.Perm.swap _ _ _)⟩
-- »open
end
end Go.Relay
