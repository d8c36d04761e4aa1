/-
  The document's answer: what is ahead of a parcel's body.
-/
import Derived.Test.YtjfifehofflaeaaKit1
import Derived.Test.YtjfifehofflaeaaSpec8
namespace Go.Ref
open Go.RowKit Go.Eng Go.Proofs Go.Wire Go.Relay
set_option linter.unusedSimpArgs false
set_option linter.unusedVariables false
attribute [local irreducible] wpList wpQuiet wpStill wpMix wpMixE

section
variable {w0 w : World} {R : List Ent} {g : Nat} {A : Option Addr} {cap : Nat} {b : By}
-- «ahead»
theorem map_get {l : By} {i : Nat} (h : i < l.length) : (l.map bv)[i]? = some (bv (l.getD i 0)) := by
  rw [List.getElem?_map, List.getD_eq_getElem?_getD, List.getElem?_eq_getElem h]
  rfl
theorem byte_of {l m : By} {n i : Nat} (h : l.take n = m.take n) (hi : i < n) : l.getD i 0 = m.getD i 0 := by
  rw [List.getD_eq_getElem?_getD, List.getD_eq_getElem?_getD, ← List.getElem?_take_of_lt hi, h, List.getElem?_take_of_lt hi]
theorem ahead_calls {A0 : Option Addr} {c0 : Nat} (hR : Rd w0 A0 (b.map bv)) (hb : b.length ≤ 140737488353000) :
    Calls Try.prog 95 #[.slice A0 b.length c0] w0 fun e w' => e = .returned (.int .i64 (headS b : Nat)) ∧ Heap w0 [] w' := by
  refine c_enter (xa := [.slice A0 b.length c0]) 66 Try.func95 rfl rfl rfl ?_
  have H := Heap.init w0
  refine wp_seq ?_
  -- R0
  refine c_region ?_
  refine L1 rfl rfl H (y_assign (v := (.int .i64 _)) rfl rfl) ?_
  refine e_list ?_; (repeat (first | (with_reducible first | refine e_then ?_ | refine e_block ?_ | refine e_then_ret ?_ | refine e_block_ret ?_ | refine e_then_exit ?_ | refine e_block_here ?_ | refine e_then_panic ?_ | refine e_block_panic ?_) | refine e_block_on rfl ?_))
  refine wp_seq ?_
  -- R1
  refine c_region ?_
  refine LbuildSlice (cs := markB.map bv) (e := 5) rfl rfl rfl H (fun w => by simp [Instr.buildSlice, Instr.fill, go_sem] <;> rfl) ?_; intro b9 w H
  refine L1 rfl rfl H (y_assign (v := (.slice _ _ _)) rfl rfl) ?_
  refine e_list ?_; (repeat (first | (with_reducible first | refine e_then ?_ | refine e_block ?_ | refine e_then_ret ?_ | refine e_block_ret ?_ | refine e_then_exit ?_ | refine e_block_here ?_ | refine e_then_panic ?_ | refine e_block_panic ?_) | refine e_block_on rfl ?_))
  refine wp_seq ?_
  refine wp_seq ?_
  -- R2
  refine c_region ?_
  refine L1 rfl rfl H (y_move (v := (.slice _ _ _)) rfl rfl) ?_
  refine L1 rfl rfl H (y_len_slice rfl rfl Try.underlying22) ?_
  refine L1 rfl rfl H (y_lss rfl rfl rfl) ?_
  refine e_list ?_; (repeat (first | (with_reducible first | refine e_then ?_ | refine e_block ?_ | refine e_then_ret ?_ | refine e_block_ret ?_ | refine e_then_exit ?_ | refine e_block_here ?_ | refine e_then_panic ?_ | refine e_block_panic ?_) | refine e_block_on rfl ?_))
  refine c_if rfl (fun h0 => ?_) (fun h0 => ?_)   -- if 0
  · skip
    have hs : headS b = 2 := by unfold headS; rw [if_pos (by omega)]
    refine wp_seq ?_
    -- R3
    refine c_region ?_
    refine L1 rfl rfl H (y_assign (v := (.int .i64 _)) rfl rfl) ?_
    refine e_list ?_; (repeat (first | (with_reducible first | refine e_then ?_ | refine e_block ?_ | refine e_then_ret ?_ | refine e_block_ret ?_ | refine e_then_exit ?_ | refine e_block_here ?_ | refine e_then_panic ?_ | refine e_block_panic ?_) | refine e_block_on rfl ?_))
    refine wp_ret ?_; (repeat (first | (with_reducible first | refine e_then ?_ | refine e_block ?_ | refine e_then_ret ?_ | refine e_block_ret ?_ | refine e_then_exit ?_ | refine e_block_here ?_ | refine e_then_panic ?_ | refine e_block_panic ?_) | refine e_block_on rfl ?_))
    refine r_1 (v := (.int .i64 _)) rfl rfl ?_
    rw [hs]
    exact ⟨rfl, H.clear⟩
  · skip
    refine wp_skip ?_; (repeat (first | (with_reducible first | refine e_then ?_ | refine e_block ?_ | refine e_then_ret ?_ | refine e_block_ret ?_ | refine e_then_exit ?_ | refine e_block_here ?_ | refine e_then_panic ?_ | refine e_block_panic ?_) | refine e_block_on rfl ?_))
    refine wp_seq ?_
    refine wp_seq ?_
    -- R4
    refine c_region ?_
    refine L1 rfl rfl H (y_assign (v := (.int .i64 _)) rfl rfl) ?_
    refine e_list ?_; (repeat (first | (with_reducible first | refine e_then ?_ | refine e_block ?_ | refine e_then_ret ?_ | refine e_block_ret ?_ | refine e_then_exit ?_ | refine e_block_here ?_ | refine e_then_panic ?_ | refine e_block_panic ?_) | refine e_block_on rfl ?_))
    refine wp_block ?_   -- block 0
    refine c_loop (ι := Nat) (fun i f w => (∃ gx, f = ov [(0, .slice A0 b.length c0), (3, .slice (some ⟨b9, 0, none⟩) 4 4), (4, .int .i64 (i : Nat))] gx) ∧ Heap w0 ([Ent.blk b9 5 (markB.map bv)]) w ∧ i ≤ 4 ∧ b.take i = markB.take i) (fun i => 4 - i) 0 ?_ ?_
    · exact ⟨ov_ex _ ⟨rfl, rfl, rfl, trivial⟩, H, by omega, rfl⟩
    rintro i f w ⟨⟨gg, rfl⟩, H, hi, ht⟩
    refine wp_seq ?_
    refine wp_seq ?_
    -- R5
    refine c_region ?_
    refine L1 rfl rfl H (y_move (v := (.int .i64 _)) rfl rfl) ?_
    refine L1 rfl rfl H (y_lss rfl rfl rfl) ?_
    refine e_list ?_; (repeat (first | (with_reducible first | refine e_then ?_ | refine e_block ?_ | refine e_then_ret ?_ | refine e_block_ret ?_ | refine e_then_exit ?_ | refine e_block_here ?_ | refine e_then_panic ?_ | refine e_block_panic ?_) | refine e_block_on rfl ?_))
    refine c_if rfl (fun h1 => ?_) (fun h1 => ?_)   -- if 1
    · skip
      refine wp_skip ?_; (repeat (first | (with_reducible first | refine e_then ?_ | refine e_block ?_ | refine e_then_ret ?_ | refine e_block_ret ?_ | refine e_then_exit ?_ | refine e_block_here ?_ | refine e_then_panic ?_ | refine e_block_panic ?_) | refine e_block_on rfl ?_))
      refine wp_seq ?_
      refine wp_block ?_   -- block 1
      refine wp_seq ?_
      -- R7 draws
      refine c_draw H (by kernel_rfl) (by kernel_rfl) ?_
      refine Q1 rfl rfl (y_move (v := (.slice _ _ _)) rfl rfl) ?_
      refine Q1 rfl rfl (y_move (v := (.int .i64 _)) rfl rfl) ?_
      obtain ⟨a0, rfl, _⟩ := hR.some (j := 0) (by rw [List.length_map]; omega)
      refine Q1 rfl rfl (y_indexSl rfl rfl rfl Try.underlying22 Try.sizeOf5 (by omega) (by omega)) ?_
      refine Q1 rfl rfl (y_load (v := bv (b.getD i 0)) rfl rfl Try.isAgg5 (Dig.rd_get hR (by omega))) ?_
      refine Q1 rfl rfl (y_move (v := (.slice _ _ _)) rfl rfl) ?_
      refine Q1 rfl rfl (y_move (v := (.int .i64 _)) rfl rfl) ?_
      refine Q1 rfl rfl (y_indexSl rfl rfl rfl Try.underlying22 Try.sizeOf5 (by omega) (by omega)) ?_
      refine Q1 rfl rfl (y_load (v := bv (markB.getD i 0)) rfl rfl Try.isAgg5 (fun w H => rd_now (rd_blk H 0 rfl) (by show i < 4; omega))) ?_
      refine Q1 rfl rfl (y_neq rfl rfl rfl) ?_
      refine Qend ?_; intro w H; (repeat (first | (with_reducible first | refine e_then ?_ | refine e_block ?_ | refine e_then_ret ?_ | refine e_block_ret ?_ | refine e_then_exit ?_ | refine e_block_here ?_ | refine e_then_panic ?_ | refine e_block_panic ?_) | refine e_block_on rfl ?_))
      refine c_if rfl (fun hd => ?_) (fun hd => ?_)   -- if 2
      · skip
        have hne : b.take 4 ≠ markB := fun h => hd (by rw [byte_of (n := 4) (l := b) (m := markB) (h.trans rfl) (by omega)])
        have hs : headS b = 4 := by unfold headS; rw [if_neg (by omega), if_pos hne]
        refine wp_seq ?_
        -- R8
        refine c_region ?_
        refine L1 rfl rfl H (y_assign (v := (.int .i64 _)) rfl rfl) ?_
        refine e_list ?_; (repeat (first | (with_reducible first | refine e_then ?_ | refine e_block ?_ | refine e_then_ret ?_ | refine e_block_ret ?_ | refine e_then_exit ?_ | refine e_block_here ?_ | refine e_then_panic ?_ | refine e_block_panic ?_) | refine e_block_on rfl ?_))
        refine wp_ret ?_; (repeat (first | (with_reducible first | refine e_then ?_ | refine e_block ?_ | refine e_then_ret ?_ | refine e_block_ret ?_ | refine e_then_exit ?_ | refine e_block_here ?_ | refine e_then_panic ?_ | refine e_block_panic ?_) | refine e_block_on rfl ?_))
        refine r_1 (v := (.int .i64 _)) rfl rfl ?_
        rw [hs]
        exact ⟨rfl, H.clear⟩
      · skip
        have hq : b.getD i 0 = markB.getD i 0 := UInt8.toNat_inj.1 (by omega)
        refine wp_skip ?_; (repeat (first | (with_reducible first | refine e_then ?_ | refine e_block ?_ | refine e_then_ret ?_ | refine e_block_ret ?_ | refine e_then_exit ?_ | refine e_block_here ?_ | refine e_then_panic ?_ | refine e_block_panic ?_) | refine e_block_on rfl ?_))
        -- R6
        refine c_region ?_
        refine L1 rfl rfl H (y_move (v := (.int .i64 _)) rfl rfl) ?_
        refine L1 rfl rfl H (y_add (r := ((i + 1 : Nat) : Int)) rfl rfl rfl (by rw [wr_i64 (by omega) (by omega)]; omega)) ?_
        refine L1 rfl rfl H (y_assign (v := (.int .i64 _)) rfl rfl) ?_
        refine e_list ?_; (repeat (first | (with_reducible first | refine e_then ?_ | refine e_block ?_ | refine e_then_ret ?_ | refine e_block_ret ?_ | refine e_then_exit ?_ | refine e_block_here ?_ | refine e_then_panic ?_ | refine e_block_panic ?_) | refine e_block_on rfl ?_))
        exact ⟨i + 1, _, rfl, ⟨ov_ex _ ⟨rfl, rfl, rfl, trivial⟩, H, by omega, take_step (by omega) (by show i < 4; omega) ht hq⟩, by omega⟩
    · skip
      have hi4 : i = 4 := by omega
      subst hi4
      have hmk : ¬ b.take 4 ≠ markB := fun h => h (by rw [ht]; rfl)
      refine wp_exit ?_; (repeat (first | (with_reducible first | refine e_then ?_ | refine e_block ?_ | refine e_then_ret ?_ | refine e_block_ret ?_ | refine e_then_exit ?_ | refine e_block_here ?_ | refine e_then_panic ?_ | refine e_block_panic ?_) | refine e_block_on rfl ?_))
      refine wp_seq ?_
      refine wp_seq ?_
      -- R9
      refine c_region ?_
      refine L1 rfl rfl H (y_move (v := (.slice _ _ _)) rfl rfl) ?_
      refine L1 rfl rfl H (y_len_slice rfl rfl Try.underlying22) ?_
      refine L1 rfl rfl H (y_lss rfl rfl rfl) ?_
      refine e_list ?_; (repeat (first | (with_reducible first | refine e_then ?_ | refine e_block ?_ | refine e_then_ret ?_ | refine e_block_ret ?_ | refine e_then_exit ?_ | refine e_block_here ?_ | refine e_then_panic ?_ | refine e_block_panic ?_) | refine e_block_on rfl ?_))
      refine c_if rfl (fun h3 => ?_) (fun h3 => ?_)   -- if 3
      · skip
        have hs : headS b = 2 := by unfold headS; rw [if_neg (by omega), if_neg hmk, if_pos (by omega)]
        refine wp_seq ?_
        -- R10
        refine c_region ?_
        refine L1 rfl rfl H (y_assign (v := (.int .i64 _)) rfl rfl) ?_
        refine e_list ?_; (repeat (first | (with_reducible first | refine e_then ?_ | refine e_block ?_ | refine e_then_ret ?_ | refine e_block_ret ?_ | refine e_then_exit ?_ | refine e_block_here ?_ | refine e_then_panic ?_ | refine e_block_panic ?_) | refine e_block_on rfl ?_))
        refine wp_ret ?_; (repeat (first | (with_reducible first | refine e_then ?_ | refine e_block ?_ | refine e_then_ret ?_ | refine e_block_ret ?_ | refine e_then_exit ?_ | refine e_block_here ?_ | refine e_then_panic ?_ | refine e_block_panic ?_) | refine e_block_on rfl ?_))
        refine r_1 (v := (.int .i64 _)) rfl rfl ?_
        rw [hs]
        exact ⟨rfl, H.clear⟩
      · skip
        have hsm : sumN (b.drop 12) < 2 ^ 64 := by have := sumN_le (b.drop 12); rw [List.length_drop] at this; omega
        refine wp_skip ?_; (repeat (first | (with_reducible first | refine e_then ?_ | refine e_block ?_ | refine e_then_ret ?_ | refine e_block_ret ?_ | refine e_then_exit ?_ | refine e_block_here ?_ | refine e_then_panic ?_ | refine e_block_panic ?_) | refine e_block_on rfl ?_))
        refine wp_seq ?_
        -- R11
        refine c_region ?_
        refine L1 rfl rfl H (y_assign (v := (.slice _ _ _)) rfl rfl) ?_
        refine e_list ?_; (repeat (first | (with_reducible first | refine e_then ?_ | refine e_block ?_ | refine e_then_ret ?_ | refine e_block_ret ?_ | refine e_then_exit ?_ | refine e_block_here ?_ | refine e_then_panic ?_ | refine e_block_panic ?_) | refine e_block_on rfl ?_))
        refine wp_seq ?_
        -- R12
        refine c_region ?_
        refine L1 rfl rfl H (y_move (v := (.slice _ _ _)) rfl rfl) ?_
        refine L1 rfl rfl H (y_move (v := (.slice _ _ _)) rfl rfl) ?_
        refine Lfn rfl rfl rfl (xa := [.slice A0 b.length c0, .int .i64 (12 : Nat)]) rfl Try.call50 ?_   -- portage/portageref30.Total
        refine (total_calls (p := 12) (hR.old H) (by omega) (by omega)).mono ?_
        rintro e w' ⟨rfl, K⟩
        replace H := H.app0 K
        clear K
        refine ⟨_, rfl, ?_⟩
        refine Lfn rfl rfl rfl (xa := [.slice none 0 0, .int .u64 (sumN (b.drop 12) : Nat)]) rfl Try.call49 ?_   -- portage/portageref01.PutWord
        replace H : Heap w0 (rowB w0 none 0 [] :: [Ent.blk b9 5 (markB.map bv)]) _ := H.row0 5 1
        refine (putWord_calls (b := []) (x := sumN (b.drop 12)) hsm (Nat.le_refl _) H (by decide)).mono ?_
        rintro e w ⟨A5, c5, rfl, hc5, H⟩
        replace H : Heap w0 [rowB w0 A5 c5 (Dig.be8 (sumN (b.drop 12))), Ent.blk b9 5 (markB.map bv)] w := H
        refine ⟨.slice A5 (Dig.be8 (sumN (b.drop 12))).length c5, rfl, ?_⟩
        refine L1 rfl rfl H (y_assign (v := (.slice _ _ _)) rfl rfl) ?_
        refine e_list ?_; (repeat (first | (with_reducible first | refine e_then ?_ | refine e_block ?_ | refine e_then_ret ?_ | refine e_block_ret ?_ | refine e_then_exit ?_ | refine e_block_here ?_ | refine e_then_panic ?_ | refine e_block_panic ?_) | refine e_block_on rfl ?_))
        refine wp_seq ?_
        refine wp_seq ?_
        -- R13
        refine c_region ?_
        refine L1 rfl rfl H (y_assign (v := (.int .i64 _)) rfl rfl) ?_
        refine e_list ?_; (repeat (first | (with_reducible first | refine e_then ?_ | refine e_block ?_ | refine e_then_ret ?_ | refine e_block_ret ?_ | refine e_then_exit ?_ | refine e_block_here ?_ | refine e_then_panic ?_ | refine e_block_panic ?_) | refine e_block_on rfl ?_))
        refine wp_block ?_   -- block 2
        refine c_loop (ι := Nat) (fun i f w => (∃ gx, f = ov [(0, .slice A0 b.length c0), (5, .slice A5 (Dig.be8 (sumN (b.drop 12))).length c5), (6, .int .i64 (i : Nat))] gx) ∧ Heap w0 ([rowB w0 A5 c5 (Dig.be8 (sumN (b.drop 12))), Ent.blk b9 5 (markB.map bv)]) w ∧ i ≤ 8 ∧ (b.drop 4).take i = (Dig.be8 (sumN (b.drop 12))).take i) (fun i => 8 - i) 0 ?_ ?_
        · exact ⟨ov_ex _ ⟨rfl, rfl, rfl, trivial⟩, H, by omega, rfl⟩
        rintro i f w ⟨⟨gg, rfl⟩, H, hi, ht⟩
        refine wp_seq ?_
        refine wp_seq ?_
        -- R14
        refine c_region ?_
        refine L1 rfl rfl H (y_move (v := (.int .i64 _)) rfl rfl) ?_
        refine L1 rfl rfl H (y_lss rfl rfl rfl) ?_
        refine e_list ?_; (repeat (first | (with_reducible first | refine e_then ?_ | refine e_block ?_ | refine e_then_ret ?_ | refine e_block_ret ?_ | refine e_then_exit ?_ | refine e_block_here ?_ | refine e_then_panic ?_ | refine e_block_panic ?_) | refine e_block_on rfl ?_))
        refine c_if rfl (fun h4 => ?_) (fun h4 => ?_)   -- if 4
        · skip
          refine wp_skip ?_; (repeat (first | (with_reducible first | refine e_then ?_ | refine e_block ?_ | refine e_then_ret ?_ | refine e_block_ret ?_ | refine e_then_exit ?_ | refine e_block_here ?_ | refine e_then_panic ?_ | refine e_block_panic ?_) | refine e_block_on rfl ?_))
          refine wp_seq ?_
          refine wp_block ?_   -- block 3
          refine wp_seq ?_
          -- R16 draws
          refine c_draw H (by kernel_rfl) (by kernel_rfl) ?_
          refine Q1 rfl rfl (y_move (v := (.slice _ _ _)) rfl rfl) ?_
          refine Q1 rfl rfl (y_move (v := (.int .i64 _)) rfl rfl) ?_
          refine Q1 rfl rfl (y_add (r := ((4 + i : Nat) : Int)) rfl rfl rfl (by rw [wr_i64 (by omega) (by omega)]; omega)) ?_
          obtain ⟨a0, rfl, _⟩ := hR.some (j := 0) (by rw [List.length_map]; omega)
          refine Q1 rfl rfl (y_indexSl rfl rfl rfl Try.underlying22 Try.sizeOf5 (by omega) (by omega)) ?_
          refine Q1 rfl rfl (y_load (v := bv ((b.drop 4).getD i 0)) rfl rfl Try.isAgg5 (by rw [← getD_drop]; exact Dig.rd_get hR (by omega))) ?_
          refine Q1 rfl rfl (y_move (v := (.slice _ _ _)) rfl rfl) ?_
          refine Q1 rfl rfl (y_move (v := (.int .i64 _)) rfl rfl) ?_
          obtain ⟨a5, rfl, _⟩ := (rd_row (H.get 0 rfl)).some (j := 0) (by rw [List.length_map, Dig.be8_length]; omega)
          refine Q1 rfl rfl (y_indexSl rfl rfl rfl Try.underlying22 Try.sizeOf5 (by omega) (by have := Dig.be8_length (sumN (b.drop 12)); omega)) ?_
          refine Q1 rfl rfl (y_load (v := bv ((Dig.be8 (sumN (b.drop 12))).getD i 0)) rfl rfl Try.isAgg5 (fun w H => rd_now (rd_row (H.get 0 rfl)) (by rw [Dig.be8_length]; omega))) ?_
          refine Q1 rfl rfl (y_neq rfl rfl rfl) ?_
          refine Qend ?_; intro w H; (repeat (first | (with_reducible first | refine e_then ?_ | refine e_block ?_ | refine e_then_ret ?_ | refine e_block_ret ?_ | refine e_then_exit ?_ | refine e_block_here ?_ | refine e_then_panic ?_ | refine e_block_panic ?_) | refine e_block_on rfl ?_))
          refine c_if rfl (fun hd => ?_) (fun hd => ?_)   -- if 5
          · skip
            have hne : beN ((b.drop 4).take 8) ≠ sumN (b.drop 12) := fun h => hd (by rw [byte_of (n := 8) (l := b.drop 4) (m := Dig.be8 (sumN (b.drop 12))) (by rw [List.take_of_length_le (l := Dig.be8 _) (by rw [Dig.be8_length]; exact Nat.le_refl _), be8_eq, ← h, beL_beN 8 _ (by rw [List.length_take, List.length_drop]; omega)]) (by omega)])
            have hs : headS b = 4 := by unfold headS; rw [if_neg (by omega), if_neg hmk, if_neg (by omega), if_pos hne]
            refine wp_seq ?_
            -- R17
            refine c_region ?_
            refine L1 rfl rfl H (y_assign (v := (.int .i64 _)) rfl rfl) ?_
            refine e_list ?_; (repeat (first | (with_reducible first | refine e_then ?_ | refine e_block ?_ | refine e_then_ret ?_ | refine e_block_ret ?_ | refine e_then_exit ?_ | refine e_block_here ?_ | refine e_then_panic ?_ | refine e_block_panic ?_) | refine e_block_on rfl ?_))
            refine wp_ret ?_; (repeat (first | (with_reducible first | refine e_then ?_ | refine e_block ?_ | refine e_then_ret ?_ | refine e_block_ret ?_ | refine e_then_exit ?_ | refine e_block_here ?_ | refine e_then_panic ?_ | refine e_block_panic ?_) | refine e_block_on rfl ?_))
            refine r_1 (v := (.int .i64 _)) rfl rfl ?_
            rw [hs]
            exact ⟨rfl, H.clear⟩
          · skip
            have hq : (b.drop 4).getD i 0 = (Dig.be8 (sumN (b.drop 12))).getD i 0 := UInt8.toNat_inj.1 (by omega)
            refine wp_skip ?_; (repeat (first | (with_reducible first | refine e_then ?_ | refine e_block ?_ | refine e_then_ret ?_ | refine e_block_ret ?_ | refine e_then_exit ?_ | refine e_block_here ?_ | refine e_then_panic ?_ | refine e_block_panic ?_) | refine e_block_on rfl ?_))
            -- R15
            refine c_region ?_
            refine L1 rfl rfl H (y_move (v := (.int .i64 _)) rfl rfl) ?_
            refine L1 rfl rfl H (y_add (r := ((i + 1 : Nat) : Int)) rfl rfl rfl (by rw [wr_i64 (by omega) (by omega)]; omega)) ?_
            refine L1 rfl rfl H (y_assign (v := (.int .i64 _)) rfl rfl) ?_
            refine e_list ?_; (repeat (first | (with_reducible first | refine e_then ?_ | refine e_block ?_ | refine e_then_ret ?_ | refine e_block_ret ?_ | refine e_then_exit ?_ | refine e_block_here ?_ | refine e_then_panic ?_ | refine e_block_panic ?_) | refine e_block_on rfl ?_))
            exact ⟨i + 1, _, rfl, ⟨ov_ex _ ⟨rfl, rfl, rfl, trivial⟩, H, by omega, take_step (by rw [List.length_drop]; omega) (by rw [Dig.be8_length]; omega) ht hq⟩, by omega⟩
        · skip
          have hi8 : i = 8 := by omega
          subst hi8
          have hw : ¬ beN ((b.drop 4).take 8) ≠ sumN (b.drop 12) := fun h => h (by rw [ht, List.take_of_length_le (by rw [Dig.be8_length]; exact Nat.le_refl _), be8_eq, beN_beL 8 _ (by omega)])
          refine wp_exit ?_; (repeat (first | (with_reducible first | refine e_then ?_ | refine e_block ?_ | refine e_then_ret ?_ | refine e_block_ret ?_ | refine e_then_exit ?_ | refine e_block_here ?_ | refine e_then_panic ?_ | refine e_block_panic ?_) | refine e_block_on rfl ?_))
          refine wp_seq ?_
          refine wp_seq ?_
          -- R18
          refine c_region ?_
          refine L1 rfl rfl H (y_move (v := (.slice _ _ _)) rfl rfl) ?_
          refine L1 rfl rfl H (y_len_slice rfl rfl Try.underlying22) ?_
          refine L1 rfl rfl H (y_lss rfl rfl rfl) ?_
          refine e_list ?_; (repeat (first | (with_reducible first | refine e_then ?_ | refine e_block ?_ | refine e_then_ret ?_ | refine e_block_ret ?_ | refine e_then_exit ?_ | refine e_block_here ?_ | refine e_then_panic ?_ | refine e_block_panic ?_) | refine e_block_on rfl ?_))
          refine c_if rfl (fun h6 => ?_) (fun h6 => ?_)   -- if 6
          · skip
            have hs : headS b = 2 := by unfold headS; rw [if_neg (by omega), if_neg hmk, if_neg (by omega), if_neg hw, if_pos (by omega)]
            refine wp_seq ?_
            -- R19
            refine c_region ?_
            refine L1 rfl rfl H (y_assign (v := (.int .i64 _)) rfl rfl) ?_
            refine e_list ?_; (repeat (first | (with_reducible first | refine e_then ?_ | refine e_block ?_ | refine e_then_ret ?_ | refine e_block_ret ?_ | refine e_then_exit ?_ | refine e_block_here ?_ | refine e_then_panic ?_ | refine e_block_panic ?_) | refine e_block_on rfl ?_))
            refine wp_ret ?_; (repeat (first | (with_reducible first | refine e_then ?_ | refine e_block ?_ | refine e_then_ret ?_ | refine e_block_ret ?_ | refine e_then_exit ?_ | refine e_block_here ?_ | refine e_then_panic ?_ | refine e_block_panic ?_) | refine e_block_on rfl ?_))
            refine r_1 (v := (.int .i64 _)) rfl rfl ?_
            rw [hs]
            exact ⟨rfl, H.clear⟩
          · skip
            refine wp_skip ?_; (repeat (first | (with_reducible first | refine e_then ?_ | refine e_block ?_ | refine e_then_ret ?_ | refine e_block_ret ?_ | refine e_then_exit ?_ | refine e_block_here ?_ | refine e_then_panic ?_ | refine e_block_panic ?_) | refine e_block_on rfl ?_))
            refine wp_seq ?_
            -- R20
            refine c_region ?_
            refine L1 rfl rfl H (y_move (v := (.slice _ _ _)) rfl rfl) ?_
            refine Lfn rfl rfl rfl (xa := [.slice A0 b.length c0, .int .i64 (44 : Nat)]) rfl Try.call97 ?_   -- portage/portageref30.behind
            refine (behind_calls (p := 44) (hR.old H) (by omega) (by omega)).mono ?_
            rintro e w' ⟨A6, c6, rfl, hc6, K⟩
            replace H := H.app_row K
            clear K
            refine ⟨_, rfl, ?_⟩
            refine Lfn rfl rfl rfl (xa := [.slice A6 (b.drop 44).length c6]) rfl Try.call47 ?_   -- portage/portageref02.Sum
            refine (Dig.refSum_calls (rd_row (H.get 0 rfl)) (by rw [List.length_drop]; omega)).mono ?_
            rintro e w' ⟨rfl, K⟩
            replace H := H.app0 K
            clear K
            refine ⟨_, rfl, ?_⟩
            refine Lalloc rfl rfl rfl H Try.zeroValue82 (cs := List.replicate 32 (bv 0)) rfl ?_; intro b7 w H
            refine Lstore 0 rfl rfl rfl rfl (v := .agg ((Dig.sum (b.drop 44)).map bv).toArray) rfl H rfl (vs := (Dig.sum (b.drop 44)).map bv) rfl (by rw [List.length_map, Dig.sum_length]; exact Try.sizeOf82) (List.all_eq_true.2 (bv_one _)) (by rw [List.length_map, Dig.sum_length]; rfl) ?_; intro w H
            obtain ⟨Z, hZ⟩ : ∃ Z, Heap w0 (Ent.blk b7 82 ((List.replicate 32 (bv 0)).take 0 ++ (Dig.sum (b.drop 44)).map bv ++ (List.replicate 32 (bv 0)).drop (0 + ((Dig.sum (b.drop 44)).map bv).length)) :: Z) w := ⟨_, H⟩
            replace H := hZ
            rw [sum_whole] at H
            refine e_list ?_; (repeat (first | (with_reducible first | refine e_then ?_ | refine e_block ?_ | refine e_then_ret ?_ | refine e_block_ret ?_ | refine e_then_exit ?_ | refine e_block_here ?_ | refine e_then_panic ?_ | refine e_block_panic ?_) | refine e_block_on rfl ?_))
            refine wp_seq ?_
            refine wp_seq ?_
            -- R21
            refine c_region ?_
            refine L1 rfl rfl H (y_assign (v := (.int .i64 _)) rfl rfl) ?_
            refine e_list ?_; (repeat (first | (with_reducible first | refine e_then ?_ | refine e_block ?_ | refine e_then_ret ?_ | refine e_block_ret ?_ | refine e_then_exit ?_ | refine e_block_here ?_ | refine e_then_panic ?_ | refine e_block_panic ?_) | refine e_block_on rfl ?_))
            refine wp_block ?_   -- block 4
            refine c_loop (ι := Nat) (fun i f w => (∃ gx, f = ov [(0, .slice A0 b.length c0), (7, .pointer (some ⟨b7, 0, none⟩)), (8, .int .i64 (i : Nat))] gx) ∧ Heap w0 (Ent.blk b7 82 ((Dig.sum (b.drop 44)).map bv) :: Z) w ∧ i ≤ 32 ∧ (b.drop 12).take i = (Dig.sum (b.drop 44)).take i) (fun i => 32 - i) 0 ?_ ?_
            · exact ⟨ov_ex _ ⟨rfl, rfl, rfl, trivial⟩, H, by omega, rfl⟩
            rintro i f w ⟨⟨gg, rfl⟩, H, hi, ht⟩
            refine wp_seq ?_
            refine wp_seq ?_
            -- R22
            refine c_region ?_
            refine L1 rfl rfl H (y_move (v := (.int .i64 _)) rfl rfl) ?_
            refine L1 rfl rfl H (y_lss rfl rfl rfl) ?_
            refine e_list ?_; (repeat (first | (with_reducible first | refine e_then ?_ | refine e_block ?_ | refine e_then_ret ?_ | refine e_block_ret ?_ | refine e_then_exit ?_ | refine e_block_here ?_ | refine e_then_panic ?_ | refine e_block_panic ?_) | refine e_block_on rfl ?_))
            refine c_if rfl (fun h7 => ?_) (fun h7 => ?_)   -- if 7
            · skip
              refine wp_skip ?_; (repeat (first | (with_reducible first | refine e_then ?_ | refine e_block ?_ | refine e_then_ret ?_ | refine e_block_ret ?_ | refine e_then_exit ?_ | refine e_block_here ?_ | refine e_then_panic ?_ | refine e_block_panic ?_) | refine e_block_on rfl ?_))
              refine wp_seq ?_
              refine wp_block ?_   -- block 5
              refine wp_seq ?_
              -- R24 draws
              refine c_draw H (by kernel_rfl) (by kernel_rfl) ?_
              refine Q1 rfl rfl (y_move (v := (.slice _ _ _)) rfl rfl) ?_
              refine Q1 rfl rfl (y_move (v := (.int .i64 _)) rfl rfl) ?_
              refine Q1 rfl rfl (y_add (r := ((12 + i : Nat) : Int)) rfl rfl rfl (by rw [wr_i64 (by omega) (by omega)]; omega)) ?_
              obtain ⟨a0, rfl, _⟩ := hR.some (j := 0) (by rw [List.length_map]; omega)
              refine Q1 rfl rfl (y_indexSl rfl rfl rfl Try.underlying22 Try.sizeOf5 (by omega) (by omega)) ?_
              refine Q1 rfl rfl (y_load (v := bv ((b.drop 12).getD i 0)) rfl rfl Try.isAgg5 (by rw [← getD_drop]; exact Dig.rd_get hR (by omega))) ?_
              refine Q1 rfl rfl (y_move (v := (.int .i64 _)) rfl rfl) ?_
              refine Q1 rfl rfl (y_indexArr rfl rfl rfl Try.underlying82 Try.sizeOf5 (by omega) (by omega)) ?_
              refine Q1 rfl rfl (y_load (v := bv ((Dig.sum (b.drop 44)).getD i 0)) rfl rfl Try.isAgg5 (cell_blkI (k := 0) i rfl (by omega) (map_get (by rw [Dig.sum_length]; omega)))) ?_
              refine Q1 rfl rfl (y_neq rfl rfl rfl) ?_
              refine Qend ?_; intro w H; (repeat (first | (with_reducible first | refine e_then ?_ | refine e_block ?_ | refine e_then_ret ?_ | refine e_block_ret ?_ | refine e_then_exit ?_ | refine e_block_here ?_ | refine e_then_panic ?_ | refine e_block_panic ?_) | refine e_block_on rfl ?_))
              refine c_if rfl (fun hd => ?_) (fun hd => ?_)   -- if 8
              · skip
                have hne : (b.drop 12).take 32 ≠ Dig.sum (b.drop 44) := fun h => hd (by rw [byte_of (n := 32) (l := b.drop 12) (m := Dig.sum (b.drop 44)) (by rw [List.take_of_length_le (l := Dig.sum _) (by rw [Dig.sum_length]; exact Nat.le_refl _)]; exact h) (by omega)])
                have hs : headS b = 4 := by unfold headS; rw [if_neg (by omega), if_neg hmk, if_neg (by omega), if_neg hw, if_neg (by omega), if_pos hne]
                refine wp_seq ?_
                -- R25
                refine c_region ?_
                refine L1 rfl rfl H (y_assign (v := (.int .i64 _)) rfl rfl) ?_
                refine e_list ?_; (repeat (first | (with_reducible first | refine e_then ?_ | refine e_block ?_ | refine e_then_ret ?_ | refine e_block_ret ?_ | refine e_then_exit ?_ | refine e_block_here ?_ | refine e_then_panic ?_ | refine e_block_panic ?_) | refine e_block_on rfl ?_))
                refine wp_ret ?_; (repeat (first | (with_reducible first | refine e_then ?_ | refine e_block ?_ | refine e_then_ret ?_ | refine e_block_ret ?_ | refine e_then_exit ?_ | refine e_block_here ?_ | refine e_then_panic ?_ | refine e_block_panic ?_) | refine e_block_on rfl ?_))
                refine r_1 (v := (.int .i64 _)) rfl rfl ?_
                rw [hs]
                exact ⟨rfl, H.clear⟩
              · skip
                have hq : (b.drop 12).getD i 0 = (Dig.sum (b.drop 44)).getD i 0 := UInt8.toNat_inj.1 (by omega)
                refine wp_skip ?_; (repeat (first | (with_reducible first | refine e_then ?_ | refine e_block ?_ | refine e_then_ret ?_ | refine e_block_ret ?_ | refine e_then_exit ?_ | refine e_block_here ?_ | refine e_then_panic ?_ | refine e_block_panic ?_) | refine e_block_on rfl ?_))
                -- R23
                refine c_region ?_
                refine L1 rfl rfl H (y_move (v := (.int .i64 _)) rfl rfl) ?_
                refine L1 rfl rfl H (y_add (r := ((i + 1 : Nat) : Int)) rfl rfl rfl (by rw [wr_i64 (by omega) (by omega)]; omega)) ?_
                refine L1 rfl rfl H (y_assign (v := (.int .i64 _)) rfl rfl) ?_
                refine e_list ?_; (repeat (first | (with_reducible first | refine e_then ?_ | refine e_block ?_ | refine e_then_ret ?_ | refine e_block_ret ?_ | refine e_then_exit ?_ | refine e_block_here ?_ | refine e_then_panic ?_ | refine e_block_panic ?_) | refine e_block_on rfl ?_))
                exact ⟨i + 1, _, rfl, ⟨ov_ex _ ⟨rfl, rfl, rfl, trivial⟩, H, by omega, take_step (by rw [List.length_drop]; omega) (by rw [Dig.sum_length]; omega) ht hq⟩, by omega⟩
            · skip
              have hi32 : i = 32 := by omega
              subst hi32
              have hsu : ¬ (b.drop 12).take 32 ≠ Dig.sum (b.drop 44) := fun h => h (by rw [ht, List.take_of_length_le (by rw [Dig.sum_length]; exact Nat.le_refl _)])
              have hs : headS b = 0 := by unfold headS; rw [if_neg (by omega), if_neg hmk, if_neg (by omega), if_neg hw, if_neg (by omega), if_neg hsu]
              refine wp_exit ?_; (repeat (first | (with_reducible first | refine e_then ?_ | refine e_block ?_ | refine e_then_ret ?_ | refine e_block_ret ?_ | refine e_then_exit ?_ | refine e_block_here ?_ | refine e_then_panic ?_ | refine e_block_panic ?_) | refine e_block_on rfl ?_))
              refine wp_seq ?_
              -- R26
              refine c_region ?_
              refine L1 rfl rfl H (y_assign (v := (.int .i64 _)) rfl rfl) ?_
              refine e_list ?_; (repeat (first | (with_reducible first | refine e_then ?_ | refine e_block ?_ | refine e_then_ret ?_ | refine e_block_ret ?_ | refine e_then_exit ?_ | refine e_block_here ?_ | refine e_then_panic ?_ | refine e_block_panic ?_) | refine e_block_on rfl ?_))
              refine wp_ret ?_; (repeat (first | (with_reducible first | refine e_then ?_ | refine e_block ?_ | refine e_then_ret ?_ | refine e_block_ret ?_ | refine e_then_exit ?_ | refine e_block_here ?_ | refine e_then_panic ?_ | refine e_block_panic ?_) | refine e_block_on rfl ?_))
              refine r_1 (v := (.int .i64 _)) rfl rfl ?_
              rw [hs]
              exact ⟨rfl, H.clear⟩
-- »ahead
end
end Go.Ref
