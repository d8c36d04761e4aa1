/-
  The program's reader: its methods.
-/
import Derived.Test.YtjfifehofflaeaaWire2
namespace Go.Wire
open Go.RowKit Go.Eng Go.Proofs
set_option linter.unusedSimpArgs false
set_option linter.unusedVariables false
attribute [local irreducible] wpList wpQuiet wpStill wpMix

theorem bv_one (l : By) : ∀ u ∈ l.map bv, u.oneCell' = true := by
  intro u hu
  obtain ⟨c, _, rfl⟩ := List.mem_map.1 hu
  rfl
section
variable {w0 w : World} {R : List Ent} {g : Nat} {A : Option Addr} {cap : Nat} {b : By} {at_ : Nat} {err : Int}
-- «raw1»
def RawOk (w0 : World) (b : By) (at_ : Nat) (n : Int) (v : Value) (Y : List Ent) (kk : Nat) : Prop :=
  ∃ l, rawS (b.drop at_) n = .ok l ∧ l.length = kk ∧ at_ + kk ≤ b.length ∧ Y = [Ent.row w0.heap.size 5 1 v kk (l.map bv)]
theorem raw1_calls {gn gr : Nat} {n : Int} (hn : n ≤ 9223372036854775807) (H : Heap w0 (rdr w0 g A cap b at_ 0 ([Ent.blk gn 3 [.int .i64 n], Ent.blk gr 88 [.pointer (some ⟨g, 0, none⟩)]] ++ R)) w) (hcap : b.length ≤ cap) (hb : b.length ≤ 140737488355328) (hat : at_ ≤ b.length) :
    Calls Try.prog 109 #[.pointer (some ⟨gn, 0, none⟩), .pointer (some ⟨gr, 0, none⟩)] w fun e w' =>
      (∃ v Y kk, RawOk w0 b at_ n v Y kk ∧ e = .returned v ∧ Heap w0 (rdr w0 g A cap b (at_ + kk) 0 (Y ++ ([Ent.blk gn 3 [.int .i64 n], Ent.blk gr 88 [.pointer (some ⟨g, 0, none⟩)]] ++ R))) w') ∨
      (∃ c a' : Nat, rawS (b.drop at_) n = .error c ∧ e = .panicked (fault c) ∧ Heap w0 (rdr w0 g A cap b a' 0 ([Ent.blk gn 3 [.int .i64 n], Ent.blk gr 88 [.pointer (some ⟨g, 0, none⟩)]] ++ R)) w') := by
  refine c_enter (xa := [(.pointer _), (.pointer _)]) 11 Try.func109 rfl rfl rfl ?_
  refine wp_seq ?_
  -- R0
  refine c_region ?_
  refine L1 rfl rfl H (y_assign (v := (.slice _ _ _)) rfl rfl) ?_
  refine e_list ?_; (repeat (first | (with_reducible first | refine e_then ?_ | refine e_block ?_ | refine e_then_ret ?_ | refine e_block_ret ?_ | refine e_then_exit ?_ | refine e_block_here ?_ | refine e_then_panic ?_ | refine e_block_panic ?_) | refine e_block_on rfl ?_))
  refine wp_seq ?_
  refine wp_seq ?_
  -- R1
  refine c_region ?_
  refine L1 rfl rfl H (y_load (v := (.int .i64 _)) rfl rfl Try.isAgg3 (by first | exact cell_blk (k := 0) rfl rfl | exact cell_blk (k := 1) rfl rfl | exact cell_blk (k := 2) rfl rfl | exact cell_blk (k := 3) rfl rfl | exact cell_blk (k := 4) rfl rfl | exact cell_blk (k := 5) rfl rfl | exact cell_blk (k := 6) rfl rfl | exact cell_blk (k := 7) rfl rfl)) ?_
  refine L1 rfl rfl H (y_lss rfl rfl rfl) ?_
  refine e_list ?_; (repeat (first | (with_reducible first | refine e_then ?_ | refine e_block ?_ | refine e_then_ret ?_ | refine e_block_ret ?_ | refine e_then_exit ?_ | refine e_block_here ?_ | refine e_then_panic ?_ | refine e_block_panic ?_) | refine e_block_on rfl ?_))
  refine c_if rfl (fun h0 => ?_) (fun h0 => ?_)   -- if 0
  · skip
    -- R2
    refine c_region ?_
    refine L1 rfl rfl H (y_build (v := (.agg _)) rfl (vals := [(_, (.int .i64 _))]) rfl (by intro w; simp [Instr.build, Instr.fill, go_sem] <;> rfl)) ?_
    refine L1 rfl rfl H (y_mkiface rfl rfl (by kernel_rfl)) ?_
    refine Lpanic rfl rfl rfl ?_
    (repeat (first | (with_reducible first | refine e_then ?_ | refine e_block ?_ | refine e_then_ret ?_ | refine e_block_ret ?_ | refine e_then_exit ?_ | refine e_block_here ?_ | refine e_then_panic ?_ | refine e_block_panic ?_) | refine e_block_on rfl ?_))
    refine r_panic ?_
    exact .inr ⟨1, at_, by unfold rawS; rw [if_pos h0], rfl, H⟩
  · skip
    obtain ⟨m, rfl⟩ := Int.eq_ofNat_of_zero_le (by omega : 0 ≤ n)
    refine wp_skip ?_; (repeat (first | (with_reducible first | refine e_then ?_ | refine e_block ?_ | refine e_then_ret ?_ | refine e_block_ret ?_ | refine e_then_exit ?_ | refine e_block_here ?_ | refine e_then_panic ?_ | refine e_block_panic ?_) | refine e_block_on rfl ?_))
    refine wp_seq ?_
    -- R3
    refine c_region ?_
    refine L1 rfl rfl H (y_load (v := (.pointer _)) rfl rfl Try.isAgg88 (by first | exact cell_blk (k := 0) rfl rfl | exact cell_blk (k := 1) rfl rfl | exact cell_blk (k := 2) rfl rfl | exact cell_blk (k := 3) rfl rfl | exact cell_blk (k := 4) rfl rfl | exact cell_blk (k := 5) rfl rfl | exact cell_blk (k := 6) rfl rfl | exact cell_blk (k := 7) rfl rfl)) ?_
    refine L1 rfl rfl H (y_load (v := (.int .i64 _)) rfl rfl Try.isAgg3 (by first | exact cell_blk (k := 0) rfl rfl | exact cell_blk (k := 1) rfl rfl | exact cell_blk (k := 2) rfl rfl | exact cell_blk (k := 3) rfl rfl | exact cell_blk (k := 4) rfl rfl | exact cell_blk (k := 5) rfl rfl | exact cell_blk (k := 6) rfl rfl | exact cell_blk (k := 7) rfl rfl)) ?_
    refine LfnP rfl rfl rfl (xa := [(.pointer _), (.int .i64 (m : Nat))]) rfl Try.call110 ?_
    have hbuf := rd_row (H.get 1 rfl)
    refine (take_calls m H (by omega) hat hcap hb).mono ?_
    rintro e w (⟨hle, rfl, H⟩ | ⟨hgt, rfl, H⟩)
    rotate_left
    · refine .inr ⟨_, rfl, ?_⟩
      (repeat (first | (with_reducible first | refine e_then ?_ | refine e_block ?_ | refine e_then_ret ?_ | refine e_block_ret ?_ | refine e_then_exit ?_ | refine e_block_here ?_ | refine e_then_panic ?_ | refine e_block_panic ?_) | refine e_block_on rfl ?_))
      refine r_panic ?_
      exact .inr ⟨2, at_, by unfold rawS; rw [if_neg (by omega), if_neg (by rw [List.length_drop]; omega)], rfl, H⟩
    refine .inl ⟨_, rfl, ?_⟩
    refine Lfn rfl rfl rfl (xa := [(.slice _ _ _)]) rfl Try.call105 ?_   -- slices.Clone[[]byte,byte]
    have hsub : Rd w (subA A cap at_ 1) (((b.drop at_).take m).map bv) := by
      have h := ((rd_row (H.get 1 rfl)).sub (cap := cap) (l := at_) (size := 1) (by simpa using hcap)).take m
      simpa [List.map_take, List.map_drop] using h
    refine (clone_calls hsub (by simp; omega) (bv_one _) (by omega)).mono ?_
    rintro e w' ⟨v, rfl, hv, K⟩
    replace H := H.app_row K
    clear K
    refine ⟨v, rfl, ?_⟩
    refine L1 rfl rfl H (y_assign (v := v) rfl rfl) ?_
    refine e_list ?_; (repeat (first | (with_reducible first | refine e_then ?_ | refine e_block ?_ | refine e_then_ret ?_ | refine e_block_ret ?_ | refine e_then_exit ?_ | refine e_block_here ?_ | refine e_then_panic ?_ | refine e_block_panic ?_) | refine e_block_on rfl ?_))
    refine wp_ret ?_; (repeat (first | (with_reducible first | refine e_then ?_ | refine e_block ?_ | refine e_then_ret ?_ | refine e_block_ret ?_ | refine e_then_exit ?_ | refine e_block_here ?_ | refine e_then_panic ?_ | refine e_block_panic ?_) | refine e_block_on rfl ?_))
    refine r_1 (v := v) rfl rfl ?_
    refine .inl ⟨v, _, m, ⟨(b.drop at_).take m, by unfold rawS; rw [if_neg (by omega), if_pos (by rw [List.length_drop]; omega)]; rfl, by simp; omega, by omega, rfl⟩, rfl, ?_⟩
    have hlen : ((b.drop at_).take m).length = m := by simp; omega
    have H2 := (H.pick 1 rfl).pick 2 rfl
    exact (H2.pick 1 rfl)
-- »raw1
-- «cnt1»
def CntOk (b : By) (at_ most : Nat) (v : Value) (Y : List Ent) (kk : Nat) : Prop :=
  ∃ x, cntS (b.drop at_) most = .ok (x, kk) ∧ v = .int .i64 x ∧ at_ + kk ≤ b.length ∧ Y = []
theorem cnt1_calls {gn gr most : Nat} (hm : most ≤ 4611686018427387904) (H : Heap w0 (rdr w0 g A cap b at_ 0 ([Ent.blk gn 3 [.int .i64 (most : Nat)], Ent.blk gr 88 [.pointer (some ⟨g, 0, none⟩)]] ++ R)) w) (hcap : b.length ≤ cap) (hb : b.length ≤ 140737488355328) (hat : at_ ≤ b.length) :
    Calls Try.prog 112 #[.pointer (some ⟨gr, 0, none⟩), .pointer (some ⟨gn, 0, none⟩)] w fun e w' =>
      (∃ v Y kk, CntOk b at_ most v Y kk ∧ e = .returned v ∧ Heap w0 (rdr w0 g A cap b (at_ + kk) 0 (Y ++ ([Ent.blk gn 3 [.int .i64 (most : Nat)], Ent.blk gr 88 [.pointer (some ⟨g, 0, none⟩)]] ++ R))) w') ∨
      (∃ c a' : Nat, cntS (b.drop at_) most = .error c ∧ e = .panicked (fault c) ∧ Heap w0 (rdr w0 g A cap b a' 0 ([Ent.blk gn 3 [.int .i64 (most : Nat)], Ent.blk gr 88 [.pointer (some ⟨g, 0, none⟩)]] ++ R)) w') := by
  refine c_enter (xa := [(.pointer _), (.pointer _)]) 6 Try.func112 rfl rfl rfl ?_
  refine wp_seq ?_
  -- R0
  refine c_region ?_
  refine L1 rfl rfl H (y_assign (v := (.int .i64 _)) rfl rfl) ?_
  refine e_list ?_; (repeat (first | (with_reducible first | refine e_then ?_ | refine e_block ?_ | refine e_then_ret ?_ | refine e_block_ret ?_ | refine e_then_exit ?_ | refine e_block_here ?_ | refine e_then_panic ?_ | refine e_block_panic ?_) | refine e_block_on rfl ?_))
  refine wp_seq ?_
  -- R1
  refine c_region ?_
  refine L1 rfl rfl H (y_load (v := (.pointer _)) rfl rfl Try.isAgg88 (by first | exact cell_blk (k := 0) rfl rfl | exact cell_blk (k := 1) rfl rfl | exact cell_blk (k := 2) rfl rfl | exact cell_blk (k := 3) rfl rfl | exact cell_blk (k := 4) rfl rfl | exact cell_blk (k := 5) rfl rfl | exact cell_blk (k := 6) rfl rfl | exact cell_blk (k := 7) rfl rfl)) ?_
  refine L1 rfl rfl H (y_load (v := (.int .i64 _)) rfl rfl Try.isAgg3 (by first | exact cell_blk (k := 0) rfl rfl | exact cell_blk (k := 1) rfl rfl | exact cell_blk (k := 2) rfl rfl | exact cell_blk (k := 3) rfl rfl | exact cell_blk (k := 4) rfl rfl | exact cell_blk (k := 5) rfl rfl | exact cell_blk (k := 6) rfl rfl | exact cell_blk (k := 7) rfl rfl)) ?_
  refine LfnP rfl rfl rfl (xa := [(.pointer _), (.int .i64 (most : Nat))]) rfl Try.call113 ?_
  refine (count_calls most hm H hcap hb hat).mono ?_
  rintro e w (⟨x, k, hc, rfl, hk, H⟩ | ⟨c, a', hc, ha, rfl, H⟩)
  rotate_left
  · refine .inr ⟨_, rfl, ?_⟩
    (repeat (first | (with_reducible first | refine e_then ?_ | refine e_block ?_ | refine e_then_ret ?_ | refine e_block_ret ?_ | refine e_then_exit ?_ | refine e_block_here ?_ | refine e_then_panic ?_ | refine e_block_panic ?_) | refine e_block_on rfl ?_))
    refine r_panic ?_
    exact .inr ⟨c, a', hc, rfl, H⟩
  refine .inl ⟨_, rfl, ?_⟩
  refine L1 rfl rfl H (y_assign (v := (.int .i64 _)) rfl rfl) ?_
  refine e_list ?_; (repeat (first | (with_reducible first | refine e_then ?_ | refine e_block ?_ | refine e_then_ret ?_ | refine e_block_ret ?_ | refine e_then_exit ?_ | refine e_block_here ?_ | refine e_then_panic ?_ | refine e_block_panic ?_) | refine e_block_on rfl ?_))
  refine wp_ret ?_; (repeat (first | (with_reducible first | refine e_then ?_ | refine e_block ?_ | refine e_then_ret ?_ | refine e_block_ret ?_ | refine e_then_exit ?_ | refine e_block_here ?_ | refine e_then_panic ?_ | refine e_block_panic ?_) | refine e_block_on rfl ?_))
  refine r_1 (v := (.int .i64 _)) rfl rfl ?_
  exact .inl ⟨_, [], k, ⟨x, hc, rfl, hk, rfl⟩, rfl, H⟩
-- »cnt1
-- «text1»
def TextOk (b : By) (at_ most : Nat) (v : Value) (Y : List Ent) (kk : Nat) : Prop :=
  ∃ l : By, textS (b.drop at_) most = .ok (l, kk) ∧ v = .string ⟨l.toArray⟩ ∧ at_ + kk ≤ b.length ∧ Y = []
theorem text1_calls {gn gr most : Nat} (hm : most ≤ 4611686018427387904) (H : Heap w0 (rdr w0 g A cap b at_ 0 ([Ent.blk gn 3 [.int .i64 (most : Nat)], Ent.blk gr 88 [.pointer (some ⟨g, 0, none⟩)]] ++ R)) w) (hcap : b.length ≤ cap) (hb : b.length ≤ 140737488355328) (hat : at_ ≤ b.length) :
    Calls Try.prog 115 #[.pointer (some ⟨gr, 0, none⟩), .pointer (some ⟨gn, 0, none⟩)] w fun e w' =>
      (∃ v Y kk, TextOk b at_ most v Y kk ∧ e = .returned v ∧ Heap w0 (rdr w0 g A cap b (at_ + kk) 0 (Y ++ ([Ent.blk gn 3 [.int .i64 (most : Nat)], Ent.blk gr 88 [.pointer (some ⟨g, 0, none⟩)]] ++ R))) w') ∨
      (∃ c a' : Nat, textS (b.drop at_) most = .error c ∧ e = .panicked (fault c) ∧ Heap w0 (rdr w0 g A cap b a' 0 ([Ent.blk gn 3 [.int .i64 (most : Nat)], Ent.blk gr 88 [.pointer (some ⟨g, 0, none⟩)]] ++ R)) w') := by
  refine c_enter (xa := [(.pointer _), (.pointer _)]) 9 Try.func115 rfl rfl rfl ?_
  refine wp_seq ?_
  -- R0
  refine c_region ?_
  refine L1 rfl rfl H (y_assign (v := (.string _)) rfl rfl) ?_
  refine e_list ?_; (repeat (first | (with_reducible first | refine e_then ?_ | refine e_block ?_ | refine e_then_ret ?_ | refine e_block_ret ?_ | refine e_then_exit ?_ | refine e_block_here ?_ | refine e_then_panic ?_ | refine e_block_panic ?_) | refine e_block_on rfl ?_))
  refine wp_seq ?_
  -- R1 draws
  refine c_mix [true, true, true, false, false, false, false] (CellsAt [(⟨gr, 0, none⟩, .pointer (some ⟨g, 0, none⟩)), (⟨gn, 0, none⟩, .int .i64 (most : Nat))]) (by kernel_rfl) (by kernel_rfl) (by repeat (first | exact pk_body | refine pk_then ?_ | refine pk_block ?_)) H (fun w H => ⟨⟨cell_blk (k := 3) rfl rfl w H, cell_blk (k := 2) rfl rfl w H, trivial⟩, ?_⟩)
  refine M1 rfl rfl (y_load (v := (.pointer _)) rfl rfl Try.isAgg88 (fun w h => h.1)) ?_
  refine M1 rfl rfl (y_load (v := (.pointer _)) rfl rfl Try.isAgg88 (fun w h => h.1)) ?_
  refine M1 rfl rfl (y_load (v := (.int .i64 (most : Nat))) rfl rfl Try.isAgg3 (fun w h => h.2.1)) ?_
  refine M2 ?_
  refine LfnP rfl rfl rfl (xa := [(.pointer _), (.int .i64 (most : Nat))]) rfl Try.call113 ?_
  refine (count_calls most hm H hcap hb hat).mono ?_
  rintro e w (⟨x, k, hc, rfl, hk, H⟩ | ⟨c, a', hc, ha, rfl, H⟩)
  rotate_left
  · refine .inr ⟨_, rfl, ?_⟩
    (repeat (first | (with_reducible first | refine e_then ?_ | refine e_block ?_ | refine e_then_ret ?_ | refine e_block_ret ?_ | refine e_then_exit ?_ | refine e_block_here ?_ | refine e_then_panic ?_ | refine e_block_panic ?_) | refine e_block_on rfl ?_))
    refine r_panic ?_
    exact .inr ⟨c, a', by unfold textS; rw [hc], rfl, H⟩
  refine .inl ⟨_, rfl, ?_⟩
  have hko := cntS_ok hc
  refine e_list (e_then ⟨⟨cell_blk (k := 3) rfl rfl w H, cell_blk (k := 2) rfl rfl w H, trivial⟩, ?_⟩)
  refine M2 ?_
  refine LfnP rfl rfl rfl (xa := [(.pointer _), (.int .i64 (x : Nat))]) rfl Try.call110 ?_
  refine (take_calls x H (by omega) hk hcap hb).mono ?_
  rintro e w (⟨hle, rfl, H⟩ | ⟨hgt, rfl, H⟩)
  rotate_left
  · refine .inr ⟨_, rfl, ?_⟩
    (repeat (first | (with_reducible first | refine e_then ?_ | refine e_block ?_ | refine e_then_ret ?_ | refine e_block_ret ?_ | refine e_then_exit ?_ | refine e_block_here ?_ | refine e_then_panic ?_ | refine e_block_panic ?_) | refine e_block_on rfl ?_))
    refine r_panic ?_
    exact .inr ⟨2, at_ + k, by unfold textS; rw [hc]; simp only; rw [if_neg (by rw [List.length_drop]; omega)], rfl, H⟩
  refine .inl ⟨_, rfl, ?_⟩
  have hle' : at_ + k + x ≤ b.length := by omega
  refine e_list (e_then ⟨⟨cell_blk (k := 3) rfl rfl w H, cell_blk (k := 2) rfl rfl w H, trivial⟩, ?_⟩)
  refine M2 ?_
  refine L1 rfl rfl H (y_conv_slice_string (((b.drop at_).drop k).take x) rfl rfl Try.underlying22 Try.underlying9 Try.underlying5 (by simp; omega) (fun w H => by
    have h := ((rd_row (H.get 1 rfl)).sub (cap := cap) (l := at_ + k) (size := 1) (by simpa using hcap)).take x
    simpa [List.map_take, List.map_drop, List.drop_drop] using h)) ?_
  refine e_list (e_then ⟨⟨cell_blk (k := 3) rfl rfl w H, cell_blk (k := 2) rfl rfl w H, trivial⟩, ?_⟩)
  refine M2 ?_
  refine L1 rfl rfl H (y_assign (v := (.string _)) rfl rfl) ?_
  refine e_list (e_then ⟨⟨cell_blk (k := 3) rfl rfl w H, cell_blk (k := 2) rfl rfl w H, trivial⟩, ?_⟩)
  refine Mend ?_; (repeat (first | (with_reducible first | refine e_then ?_ | refine e_block ?_ | refine e_then_ret ?_ | refine e_block_ret ?_ | refine e_then_exit ?_ | refine e_block_here ?_ | refine e_then_panic ?_ | refine e_block_panic ?_) | refine e_block_on rfl ?_))
  refine wp_ret ?_; (repeat (first | (with_reducible first | refine e_then ?_ | refine e_block ?_ | refine e_then_ret ?_ | refine e_block_ret ?_ | refine e_then_exit ?_ | refine e_block_here ?_ | refine e_then_panic ?_ | refine e_block_panic ?_) | refine e_block_on rfl ?_))
  refine r_1 (v := (.string _)) rfl rfl ?_
  exact .inl ⟨_, [], k + x, ⟨((b.drop at_).drop k).take x, by unfold textS; rw [hc]; simp only; rw [if_pos (by rw [List.length_drop]; omega)], rfl, by omega, rfl⟩, rfl, by rw [← Nat.add_assoc]; exact H⟩
-- »text1
-- «word1»
def WordOk (b : By) (at_ : Nat) (v : Value) (Y : List Ent) (kk : Nat) : Prop :=
  at_ + 8 ≤ b.length ∧ v = .int .u64 (beN ((b.drop at_).take 8) : Nat) ∧ Y = [] ∧ kk = 8
theorem word1_calls {gr : Nat} (H : Heap w0 (rdr w0 g A cap b at_ 0 ([Ent.blk gr 88 [.pointer (some ⟨g, 0, none⟩)]] ++ R)) w) (hcap : b.length ≤ cap) (hb : b.length ≤ 140737488355328) (hat : at_ ≤ b.length) :
    Calls Try.prog 146 #[.pointer (some ⟨gr, 0, none⟩)] w fun e w' =>
      (∃ v Y kk, WordOk b at_ v Y kk ∧ e = .returned v ∧ Heap w0 (rdr w0 g A cap b (at_ + kk) 0 (Y ++ ([Ent.blk gr 88 [.pointer (some ⟨g, 0, none⟩)]] ++ R))) w') ∨
      (∃ c a' : Nat, (b.length < at_ + 8 ∧ c = 2) ∧ e = .panicked (fault c) ∧ Heap w0 (rdr w0 g A cap b a' 0 ([Ent.blk gr 88 [.pointer (some ⟨g, 0, none⟩)]] ++ R)) w') := by
  refine c_enter (xa := [(.pointer _)]) 19 Try.func146 rfl rfl rfl ?_
  refine wp_seq ?_
  -- R0
  refine c_region ?_
  refine L1 rfl rfl H (y_assign (v := (.int .u64 _)) rfl rfl) ?_
  refine e_list ?_; (repeat (first | (with_reducible first | refine e_then ?_ | refine e_block ?_ | refine e_then_ret ?_ | refine e_block_ret ?_ | refine e_then_exit ?_ | refine e_block_here ?_ | refine e_then_panic ?_ | refine e_block_panic ?_) | refine e_block_on rfl ?_))
  refine wp_seq ?_
  -- R1
  refine c_region ?_
  refine L1 rfl rfl H (y_assign (v := (.int .u64 _)) rfl rfl) ?_
  refine e_list ?_; (repeat (first | (with_reducible first | refine e_then ?_ | refine e_block ?_ | refine e_then_ret ?_ | refine e_block_ret ?_ | refine e_then_exit ?_ | refine e_block_here ?_ | refine e_then_panic ?_ | refine e_block_panic ?_) | refine e_block_on rfl ?_))
  refine wp_seq ?_
  refine wp_seq ?_
  -- R2
  refine c_region ?_
  refine L1 rfl rfl H (y_load (v := (.pointer _)) rfl rfl Try.isAgg88 (by first | exact cell_blk (k := 0) rfl rfl | exact cell_blk (k := 1) rfl rfl | exact cell_blk (k := 2) rfl rfl | exact cell_blk (k := 3) rfl rfl | exact cell_blk (k := 4) rfl rfl | exact cell_blk (k := 5) rfl rfl | exact cell_blk (k := 6) rfl rfl | exact cell_blk (k := 7) rfl rfl)) ?_
  refine LfnP rfl rfl rfl (xa := [(.pointer _), (.int .i64 (8 : Nat))]) rfl Try.call110 ?_
  refine (take_calls 8 H (by omega) hat hcap hb).mono ?_
  rintro e w (⟨hle, rfl, H⟩ | ⟨hgt, rfl, H⟩)
  rotate_left
  · refine .inr ⟨_, rfl, ?_⟩
    (repeat (first | (with_reducible first | refine e_then ?_ | refine e_block ?_ | refine e_then_ret ?_ | refine e_block_ret ?_ | refine e_then_exit ?_ | refine e_block_here ?_ | refine e_then_panic ?_ | refine e_block_panic ?_) | refine e_block_on rfl ?_))
    refine r_panic ?_
    exact .inr ⟨2, at_, ⟨by omega, rfl⟩, rfl, H⟩
  refine .inl ⟨_, rfl, ?_⟩
  have hsub : Rd w (subA A cap at_ 1) (((b.drop at_).take 8).map bv) := by
    have h := ((rd_row (H.get 1 rfl)).sub (cap := cap) (l := at_) (size := 1) (by simpa using hcap)).take 8
    simpa [List.map_take, List.map_drop] using h
  obtain ⟨l, hl⟩ : ∃ l, (b.drop at_).take 8 = l := ⟨_, rfl⟩
  have hll : l.length = 8 := by rw [← hl]; simp; omega
  rw [hl] at hsub
  obtain ⟨aa, haa, _⟩ := hsub.some (j := 0) (by simp; omega)
  rw [haa] at hsub ⊢
  refine L1 rfl rfl H (y_slice2arrp rfl rfl Try.underlying211 (Nat.le_refl 8)) ?_
  refine L1 rfl rfl H (y_loadAgg (vs := l.map bv) rfl rfl Try.isAgg211 (fun w => by rw [show (l.map bv).length = 8 from by simpa using hll]; exact Try.sizeOf211 w) (fun w H j u hu => Rd.at_ (by have h := ((rd_row (H.get 1 rfl)).sub (cap := cap) (l := at_) (size := 1) (by simpa using hcap)).take 8; rw [haa] at h; simpa [List.map_take, List.map_drop, ← hl] using h) hu)) ?_
  refine L1 rfl rfl H (y_move (v := (.int .i64 _)) rfl rfl) ?_
  refine e_list ?_; (repeat (first | (with_reducible first | refine e_then ?_ | refine e_block ?_ | refine e_then_ret ?_ | refine e_block_ret ?_ | refine e_then_exit ?_ | refine e_block_here ?_ | refine e_then_panic ?_ | refine e_block_panic ?_) | refine e_block_on rfl ?_))
  refine wp_block ?_   -- block 0
  refine c_loop (ι := Nat) (fun i f w => (∃ gx, f = ov [(2, .int .u64 (beN (l.take i) : Nat)), (8, .agg (l.map bv).toArray), (9, .int .i64 (i : Nat))] gx) ∧ Heap w0 (rdr w0 g A cap b (at_ + 8) 0 ([Ent.blk gr 88 [.pointer (some ⟨g, 0, none⟩)]] ++ R)) w ∧ i ≤ 8) (fun i => 8 - i) 0 ?_ ?_
  · exact ⟨ov_ex _ ⟨rfl, rfl, rfl, trivial⟩, H, by omega⟩
  rintro i f w ⟨⟨gg, rfl⟩, H, hi⟩
  refine wp_seq ?_
  -- R3
  refine c_region ?_
  refine L1 rfl rfl H (y_lss rfl rfl rfl) ?_
  refine e_list ?_; (repeat (first | (with_reducible first | refine e_then ?_ | refine e_block ?_ | refine e_then_ret ?_ | refine e_block_ret ?_ | refine e_then_exit ?_ | refine e_block_here ?_ | refine e_then_panic ?_ | refine e_block_panic ?_) | refine e_block_on rfl ?_))
  refine wp_seq ?_
  refine c_if rfl (fun h0 => ?_) (fun h0 => ?_)   -- if 0
  · skip
    have hi8 : i < 8 := by omega
    obtain ⟨c, hc⟩ : ∃ c, l[i]? = some c := ⟨l[i], by simp⟩
    have hv : (l.map bv).toArray[((i : Nat) : Int).toNat]? = some (bv c) := by simp [hc]
    have hsn : beN (l.take (i + 1)) = beN (l.take i) * 256 + c.toNat := by
      rw [List.take_add_one, hc]; exact beN_snoc _ _
    have h256 : beN (l.take i) * 256 < 2 ^ 64 := by
      have h := beN_lt (l.take i)
      have h1 : (l.take i).length ≤ 7 := by simp; omega
      have h2 : 256 ^ (l.take i).length ≤ 256 ^ 7 := Nat.pow_le_pow_right (by omega) h1
      have h3 : (256 : Nat) ^ 7 * 256 = 2 ^ 64 := by decide
      omega
    have hc8 := c.toNat_lt
    refine wp_skip ?_; (repeat (first | (with_reducible first | refine e_then ?_ | refine e_block ?_ | refine e_then_ret ?_ | refine e_block_ret ?_ | refine e_then_exit ?_ | refine e_block_here ?_ | refine e_then_panic ?_ | refine e_block_panic ?_) | refine e_block_on rfl ?_))
    refine wp_seq ?_
    refine wp_block ?_   -- block 1
    refine wp_seq ?_
    -- R4
    refine c_region ?_
    refine L1 rfl rfl H (y_indexVal rfl rfl rfl Try.underlying211 Try.isAgg5 Try.sizeOf5 (by omega) (by omega) hv) ?_
    refine L1 rfl rfl H (y_assign (v := bv c) rfl rfl) ?_
    refine e_list ?_; (repeat (first | (with_reducible first | refine e_then ?_ | refine e_block ?_ | refine e_then_ret ?_ | refine e_block_ret ?_ | refine e_then_exit ?_ | refine e_block_here ?_ | refine e_then_panic ?_ | refine e_block_panic ?_) | refine e_block_on rfl ?_))
    -- R5
    refine c_region ?_
    refine L1 rfl rfl H (y_move (v := (.int .u64 _)) rfl rfl) ?_
    refine L1 rfl rfl H (y_shl rfl rfl rfl (by decide) (shl8 h256)) ?_
    refine L1 rfl rfl H (y_move (v := bv c) rfl rfl) ?_
    refine L1 rfl rfl H (y_conv (r := (c.toNat : Int)) rfl rfl Try.underlying5 Try.underlying86 (wr_u64 (by omega) (by omega))) ?_
    refine L1 rfl rfl H (y_or rfl rfl rfl (or_low c.toNat_lt h256)) ?_
    refine L1 rfl rfl H (y_assign (v := (.int .u64 _)) rfl rfl) ?_
    refine e_list ?_; (repeat (first | (with_reducible first | refine e_then ?_ | refine e_block ?_ | refine e_then_ret ?_ | refine e_block_ret ?_ | refine e_then_exit ?_ | refine e_block_here ?_ | refine e_then_panic ?_ | refine e_block_panic ?_) | refine e_block_on rfl ?_))
    -- R6
    refine c_region ?_
    refine L1 rfl rfl H (y_add rfl rfl rfl (by first | exact wr_i64 (by omega) (by omega) | rfl)) ?_
    refine L1 rfl rfl H (y_move (v := (.int .i64 _)) rfl rfl) ?_
    refine e_list ?_; (repeat (first | (with_reducible first | refine e_then ?_ | refine e_block ?_ | refine e_then_ret ?_ | refine e_block_ret ?_ | refine e_then_exit ?_ | refine e_block_here ?_ | refine e_then_panic ?_ | refine e_block_panic ?_) | refine e_block_on rfl ?_))
    exact ⟨i + 1, _, rfl, ⟨ov_ex _ ⟨by rw [hsn]; rfl, rfl, rfl, trivial⟩, H, by omega⟩, by omega⟩
  · skip
    have hi8 : i = 8 := by omega
    subst hi8
    have hlt : l.take 8 = l := List.take_of_length_le (by omega)
    refine wp_exit ?_; (repeat (first | (with_reducible first | refine e_then ?_ | refine e_block ?_ | refine e_then_ret ?_ | refine e_block_ret ?_ | refine e_then_exit ?_ | refine e_block_here ?_ | refine e_then_panic ?_ | refine e_block_panic ?_) | refine e_block_on rfl ?_))
    refine wp_seq ?_
    -- R7
    refine c_region ?_
    refine L1 rfl rfl H (y_move (v := (.int .u64 _)) rfl rfl) ?_
    refine L1 rfl rfl H (y_assign (v := (.int .u64 _)) rfl rfl) ?_
    refine e_list ?_; (repeat (first | (with_reducible first | refine e_then ?_ | refine e_block ?_ | refine e_then_ret ?_ | refine e_block_ret ?_ | refine e_then_exit ?_ | refine e_block_here ?_ | refine e_then_panic ?_ | refine e_block_panic ?_) | refine e_block_on rfl ?_))
    refine wp_ret ?_; (repeat (first | (with_reducible first | refine e_then ?_ | refine e_block ?_ | refine e_then_ret ?_ | refine e_block_ret ?_ | refine e_then_exit ?_ | refine e_block_here ?_ | refine e_then_panic ?_ | refine e_block_panic ?_) | refine e_block_on rfl ?_))
    refine r_1 (v := (.int .u64 _)) rfl rfl ?_
    exact .inl ⟨_, [], 8, ⟨by omega, by rw [hlt, ← hl], rfl, rfl⟩, rfl, H⟩
-- »word1
end
end Go.Wire
