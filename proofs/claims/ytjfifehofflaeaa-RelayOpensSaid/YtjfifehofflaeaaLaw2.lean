/-
  The laws' own functions: RelayOpens.
-/
import Derived.Test.YtjfifehofflaeaaApart2
import Derived.Test.YtjfifehofflaeaaKit2
namespace Go.Ref
open Go.RowKit Go.Eng Go.Proofs Go.Wire Go.Relay
set_option linter.unusedSimpArgs false
set_option linter.unusedVariables false
attribute [local irreducible] wpList wpQuiet wpStill wpMix wpMixE

def f3 {α : Type} (a b c : α) : Nat → α
  | 0 => a
  | 1 => b
  | _ => c
def f4 {α : Type} (a b c d : α) : Nat → α
  | 0 => a
  | 1 => b
  | 2 => c
  | _ => d
theorem f3_le {a b c N : Nat} (ha : a ≤ N) (hb : b ≤ N) (hc : c ≤ N) : ∀ j, j < 3 → f3 a b c j ≤ N
  | 0, _ => ha
  | 1, _ => hb
  | _ + 2, _ => hc
theorem f4_le {a b c d N : Nat} (ha : a ≤ N) (hb : b ≤ N) (hc : c ≤ N) (hd : d ≤ N) : ∀ j, j < 4 → f4 a b c d j ≤ N
  | 0, _ => ha
  | 1, _ => hb
  | 2, _ => hc
  | _ + 3, _ => hd
section
variable {w0 w : World} {R L : List Ent} {g : Nat} {A : Option Addr} {cap : Nat} {b : By}
theorem in_row (k : Nat) {l : By} {nb : Nat} (H : Heap w0 L w) (hk : L[k]? = some (Ent.row w0.heap.size 5 1 (.slice A l.length cap) l.length (l.map bv))) (h : nb ≤ l.length) : Heap w0 (L.set k (rowB w0 A cap (l.take nb))) w := by
  have h1 := H.row_take k hk h
  have e : (l.take nb).length = nb := by rw [List.length_take]; omega
  unfold rowB
  rw [e, List.map_take]
  rw [Nat.mul_one] at h1
  exact h1
-- «opens»
set_option maxHeartbeats 1000000 in
theorem relayOpens_calls {A0 : Option Addr} {c0 : Nat} {k : Int} (hR : Rd w0 A0 (b.map bv)) (hb : b.length ≤ 140737488351232) :
    Calls Try.prog 3 #[.slice A0 b.length c0, .int .i64 k] w0 fun e w' => e = .returned (.bool true) ∧ Heap w0 [] w' := by
  refine c_enter (xa := [.slice A0 b.length c0, .int .i64 k]) 95 Try.func3 rfl rfl rfl ?_
  have H := Heap.init w0
  have hll := lentB_length (b := b)
  have hfit := openL_fits b
  obtain ⟨hf1, hf2, -⟩ := hfit
  refine wp_seq ?_
  -- R0
  refine c_region ?_
  refine L1 rfl rfl H (y_assign (v := (.bool _)) rfl rfl) ?_
  refine e_list ?_; (repeat (first | (with_reducible first | refine e_then ?_ | refine e_block ?_ | refine e_then_ret ?_ | refine e_block_ret ?_ | refine e_then_exit ?_ | refine e_block_here ?_ | refine e_then_panic ?_ | refine e_block_panic ?_) | refine e_block_on rfl ?_))
  refine wp_seq ?_
  -- R1
  refine c_region ?_
  refine L1 rfl rfl H (y_move (v := (.slice _ _ _)) rfl rfl) ?_
  refine Lfn rfl rfl rfl (xa := [.slice A0 b.length c0]) rfl Try.call10 ?_   -- portage/portagekit.Lent
  refine (lent_calls hR (by omega)).mono ?_
  rintro e w ⟨A5, c5, rfl, hc5, H⟩
  refine ⟨.slice A5 (lentB b).length c5, rfl, ?_⟩
  refine L1 rfl rfl H (y_assign (v := (.slice _ _ _)) rfl rfl) ?_
  refine e_list ?_; (repeat (first | (with_reducible first | refine e_then ?_ | refine e_block ?_ | refine e_then_ret ?_ | refine e_block_ret ?_ | refine e_then_exit ?_ | refine e_block_here ?_ | refine e_then_panic ?_ | refine e_block_panic ?_) | refine e_block_on rfl ?_))
  refine wp_seq ?_
  -- R2
  refine c_region ?_
  refine L1 rfl rfl H (y_move (v := (.slice _ _ _)) rfl rfl) ?_
  refine L1 rfl rfl H (y_move (v := (.slice _ _ _)) rfl rfl) ?_
  refine L1 rfl rfl H (y_len_slice rfl rfl Try.underlying22) ?_
  refine L1 rfl rfl H (y_slice_h rfl rfl rfl Try.underlying22 Try.sizeOf5 (by omega) (by omega)) ?_
  refine L1 rfl rfl H (y_assign (v := (.slice _ _ _)) rfl rfl) ?_
  refine e_list ?_; (repeat (first | (with_reducible first | refine e_then ?_ | refine e_block ?_ | refine e_then_ret ?_ | refine e_block_ret ?_ | refine e_then_exit ?_ | refine e_block_here ?_ | refine e_then_panic ?_ | refine e_block_panic ?_) | refine e_block_on rfl ?_))
  refine wp_seq ?_
  -- R3
  refine c_region ?_
  refine L1 rfl rfl H (y_move (v := (.slice _ _ _)) rfl rfl) ?_
  refine Lfn rfl rfl rfl (xa := [(.slice _ _ _)]) rfl Try.call11 ?_   -- portage/portagelaw30.opened
  have ho := opened_calls (b := b) ((rd_row (H.get 0 rfl)).mono (by unfold lentB; rw [List.map_append]; exact List.prefix_append _ _)) (by omega : b.length ≤ c5) (by omega)
  refine ho.mono ?_
  rintro e w' ⟨A7, c7, A8, c8, rfl, hc7, hc8, K⟩
  replace H := join2 H K
  clear K ho
  refine ⟨_, rfl, ?_⟩
  refine L1 rfl rfl H (y_move (v := (.tuple _)) rfl rfl) ?_
  refine L1 rfl rfl H (y_extract (v := (.slice _ _ _)) rfl rfl rfl) ?_
  refine L1 rfl rfl H (y_extract (v := (.slice _ _ _)) rfl rfl rfl) ?_
  refine L1 rfl rfl H (y_extract (v := (.bool _)) rfl rfl rfl) ?_
  refine L1 rfl rfl H (y_assign (v := (.slice _ _ _)) rfl rfl) ?_
  refine L1 rfl rfl H (y_assign (v := (.slice _ _ _)) rfl rfl) ?_
  refine L1 rfl rfl H (y_assign (v := (.bool _)) rfl rfl) ?_
  refine e_list ?_; (repeat (first | (with_reducible first | refine e_then ?_ | refine e_block ?_ | refine e_then_ret ?_ | refine e_block_ret ?_ | refine e_then_exit ?_ | refine e_block_here ?_ | refine e_then_panic ?_ | refine e_block_panic ?_) | refine e_block_on rfl ?_))
  refine wp_seq ?_
  -- R4
  refine c_region ?_
  refine L1 rfl rfl H (y_move (v := (.slice _ _ _)) rfl rfl) ?_
  refine Lfn rfl rfl rfl (xa := [(.slice _ _ _)]) rfl Try.call11 ?_   -- portage/portagelaw30.opened
  have ho := opened_calls (b := b) ((rd_row (H.get 2 rfl)).mono (by unfold lentB; rw [List.map_append]; exact List.prefix_append _ _)) (by omega : b.length ≤ c5) (by omega)
  refine ho.mono ?_
  rintro e w' ⟨A10, c10, A11, c11, rfl, hc10, hc11, K⟩
  replace H := join2 H K
  clear K ho
  refine ⟨_, rfl, ?_⟩
  refine L1 rfl rfl H (y_move (v := (.tuple _)) rfl rfl) ?_
  refine L1 rfl rfl H (y_extract (v := (.slice _ _ _)) rfl rfl rfl) ?_
  refine L1 rfl rfl H (y_extract (v := (.slice _ _ _)) rfl rfl rfl) ?_
  refine L1 rfl rfl H (y_extract (v := (.bool _)) rfl rfl rfl) ?_
  refine L1 rfl rfl H (y_assign (v := (.slice _ _ _)) rfl rfl) ?_
  refine L1 rfl rfl H (y_assign (v := (.slice _ _ _)) rfl rfl) ?_
  refine L1 rfl rfl H (y_assign (v := (.bool _)) rfl rfl) ?_
  refine e_list ?_; (repeat (first | (with_reducible first | refine e_then ?_ | refine e_block ?_ | refine e_then_ret ?_ | refine e_block_ret ?_ | refine e_then_exit ?_ | refine e_block_here ?_ | refine e_then_panic ?_ | refine e_block_panic ?_) | refine e_block_on rfl ?_))
  refine wp_seq ?_
  refine wp_seq ?_
  -- R5
  refine c_region ?_
  refine L1 rfl rfl H (y_move (v := (.bool _)) rfl rfl) ?_
  refine L1 rfl rfl H (y_not rfl rfl) ?_
  refine L1 rfl rfl H (y_move (v := (.bool _)) rfl rfl) ?_
  refine L1g rfl rfl rfl rfl H (y_move (v := (.bool _)) rfl rfl) ?_
  refine L1g rfl rfl rfl rfl H (y_not rfl rfl) ?_
  refine L1 rfl rfl H (y_pick (v := (.bool _)) rfl rfl rfl) ?_
  refine L1 rfl rfl H (y_move (v := (.bool _)) rfl rfl) ?_
  refine L1g rfl rfl rfl rfl H (y_move (v := (.slice _ _ _)) rfl rfl) ?_
  refine L1g rfl rfl rfl rfl H (y_move (v := (.slice _ _ _)) rfl rfl) ?_
  refine Lfng rfl rfl rfl rfl rfl (xa := [.slice A5 (lentB b).length c5, .slice A0 b.length c0]) rfl Try.call12 ?_   -- portage/portagekit.Kept
  refine (kept_calls (b := b) (rd_row (H.get 4 rfl)) (hR.old H) (by omega)).mono ?_
  rintro e w' ⟨rfl, K⟩
  replace H := H.app0 K
  clear K
  refine ⟨_, rfl, ?_⟩
  refine L1g rfl rfl rfl rfl H (y_not rfl rfl) ?_
  refine L1 rfl rfl H (y_pick (v := (.bool _)) rfl rfl rfl) ?_
  refine e_list ?_; (repeat (first | (with_reducible first | refine e_then ?_ | refine e_block ?_ | refine e_then_ret ?_ | refine e_block_ret ?_ | refine e_then_exit ?_ | refine e_block_here ?_ | refine e_then_panic ?_ | refine e_block_panic ?_) | refine e_block_on rfl ?_))
  refine c_f rfl ?_   -- if 0
  refine wp_skip ?_; (repeat (first | (with_reducible first | refine e_then ?_ | refine e_block ?_ | refine e_then_ret ?_ | refine e_block_ret ?_ | refine e_then_exit ?_ | refine e_block_here ?_ | refine e_then_panic ?_ | refine e_block_panic ?_) | refine e_block_on rfl ?_))
  refine wp_seq ?_
  refine wp_seq ?_
  -- R7
  refine c_region ?_
  refine L1 rfl rfl H (y_move (v := (.slice _ _ _)) rfl rfl) ?_
  refine L1 rfl rfl H (y_len_slice rfl rfl Try.underlying22) ?_
  refine L1 rfl rfl H (y_gtr rfl rfl rfl) ?_
  refine e_list ?_; (repeat (first | (with_reducible first | refine e_then ?_ | refine e_block ?_ | refine e_then_ret ?_ | refine e_block_ret ?_ | refine e_then_exit ?_ | refine e_block_here ?_ | refine e_then_panic ?_ | refine e_block_panic ?_) | refine e_block_on rfl ?_))
  refine c_if rfl (fun h1 => ?_) (fun h1 => ?_)   -- if 1
  · skip
    -- R8
    refine c_region ?_
    refine L1 rfl rfl H (y_move (v := (.slice _ _ _)) rfl rfl) ?_
    refine L1 rfl rfl H (y_move (v := (.int .i64 _)) rfl rfl) ?_
    refine L1 rfl rfl H (y_move (v := (.slice _ _ _)) rfl rfl) ?_
    refine L1 rfl rfl H (y_len_slice rfl rfl Try.underlying22) ?_
    refine Lfn rfl rfl rfl (xa := [(.int .i64 _), (.int .i64 _)]) rfl Try.call13 ?_   -- portage/portagekit.Pick
    refine (pick_calls (k := k) (n := b.length) (by omega) (by omega)).mono ?_
    rintro e w' ⟨r1, hr1, rfl, K⟩
    replace H := H.app0 K
    clear K
    refine ⟨_, rfl, ?_⟩
    refine L1 rfl rfl H (y_move (v := (.slice _ _ _)) rfl rfl) ?_
    refine L1 rfl rfl H (y_move (v := (.int .i64 _)) rfl rfl) ?_
    refine L1 rfl rfl H (y_move (v := (.slice _ _ _)) rfl rfl) ?_
    refine L1 rfl rfl H (y_len_slice rfl rfl Try.underlying22) ?_
    refine Lfn rfl rfl rfl (xa := [(.int .i64 _), (.int .i64 _)]) rfl Try.call13 ?_   -- portage/portagekit.Pick
    refine (pick_calls (k := k) (n := b.length) (by omega) (by omega)).mono ?_
    rintro e w' ⟨r2, hr2, rfl, K⟩
    replace H := H.app0 K
    clear K
    refine ⟨_, rfl, ?_⟩
    obtain ⟨a5, hA5, _⟩ := (rd_row (H.get 4 rfl)).some (j := 0) (by rw [List.length_map]; omega)
    refine L1 rfl rfl H (y_indexSlA hA5 rfl rfl rfl Try.underlying22 Try.sizeOf5 (by omega) (by omega)) ?_
    refine L1 rfl rfl H (y_load (v := bv ((lentB b).getD r2 0)) rfl rfl Try.isAgg5 (cell_rowA (k := 4) rfl hA5 (Nat.mul_one _) (map_get (by omega)))) ?_
    refine L1 rfl rfl H (y_add (r := (((lentB b).getD r2 0 + 1).toNat : Nat)) rfl rfl rfl (by have := Eng.u8_add ((lentB b).getD r2 0) 1; exact this)) ?_
    refine L1 rfl rfl H (y_indexSlA hA5 rfl rfl rfl Try.underlying22 Try.sizeOf5 (by omega) (by omega)) ?_
    refine LstoreRow 4 r1 hA5 (Nat.mul_one _) rfl rfl rfl rfl rfl H rfl rfl Try.sizeOf5 rfl (by omega) ?_; intro w H
    replace H : Heap w0 [rowB w0 A10 c10 (openL b).1, rowT w0 A11 c11 (openL b).2, rowB w0 A7 c7 (openL b).1, rowT w0 A8 c8 (openL b).2, Ent.row w0.heap.size 5 1 (.slice A5 (lentB b).length c5) (lentB b).length (((lentB b).map bv).set r1 (bv ((lentB b).getD r2 0 + 1)))] w := H
    rw [show ((lentB b).map bv).set r1 (bv ((lentB b).getD r2 0 + 1)) = ((lentB b).set r1 ((lentB b).getD r2 0 + 1)).map bv from List.map_set.symm, show (lentB b).length = ((lentB b).set r1 ((lentB b).getD r2 0 + 1)).length from by simp] at H
    obtain ⟨b2, hb2, H⟩ : ∃ b2 : By, b2.length = b.length ∧ Heap w0 [rowB w0 A10 c10 (openL b).1, rowT w0 A11 c11 (openL b).2, rowB w0 A7 c7 (openL b).1, rowT w0 A8 c8 (openL b).2, rowB w0 A5 c5 b2] w := ⟨((lentB b).set r1 ((lentB b).getD r2 0 + 1)).take b.length, (by rw [List.length_take]; have h9 : ((lentB b).set r1 ((lentB b).getD r2 0 + 1)).length = b.length + 64 := (by simp [lentB_length]); omega), in_row 4 H rfl (by rw [show ((lentB b).set r1 ((lentB b).getD r2 0 + 1)).length = b.length + 64 from by simp [lentB_length]]; omega)⟩
    refine e_list ?_; (repeat (first | (with_reducible first | refine e_then ?_ | refine e_block ?_ | refine e_then_ret ?_ | refine e_block_ret ?_ | refine e_then_exit ?_ | refine e_block_here ?_ | refine e_then_panic ?_ | refine e_block_panic ?_) | refine e_block_on rfl ?_))
    refine wp_seq ?_
    -- R9
    refine c_region ?_
    refine L1 rfl rfl H (y_move (v := (.slice _ _ _)) rfl rfl) ?_
    refine Lfn rfl rfl rfl (xa := [(.slice _ _ _)]) rfl Try.call11 ?_   -- portage/portagelaw30.opened
    have ho := opened_calls (b := b2) (rd_row (H.get 4 rfl)) (by omega : b2.length ≤ c5) (by omega)
    rw [hb2] at ho
    refine ho.mono ?_
    rintro e w' ⟨A13, c13, A14, c14, rfl, hc13, hc14, K⟩
    replace H := join2 H K
    clear K ho
    refine ⟨_, rfl, ?_⟩
    refine L1 rfl rfl H (y_move (v := (.tuple _)) rfl rfl) ?_
    refine L1 rfl rfl H (y_extract (v := (.slice _ _ _)) rfl rfl rfl) ?_
    refine L1 rfl rfl H (y_extract (v := (.slice _ _ _)) rfl rfl rfl) ?_
    refine L1 rfl rfl H (y_extract (v := (.bool _)) rfl rfl rfl) ?_
    refine L1 rfl rfl H (y_assign (v := (.slice _ _ _)) rfl rfl) ?_
    refine L1 rfl rfl H (y_assign (v := (.slice _ _ _)) rfl rfl) ?_
    refine L1 rfl rfl H (y_assign (v := (.bool _)) rfl rfl) ?_
    refine e_list ?_; (repeat (first | (with_reducible first | refine e_then ?_ | refine e_block ?_ | refine e_then_ret ?_ | refine e_block_ret ?_ | refine e_then_exit ?_ | refine e_block_here ?_ | refine e_then_panic ?_ | refine e_block_panic ?_) | refine e_block_on rfl ?_))
    refine wp_seq ?_
    refine wp_seq ?_
    -- R10
    refine c_region ?_
    refine L1 rfl rfl H (y_move (v := (.bool _)) rfl rfl) ?_
    refine L1 rfl rfl H (y_not rfl rfl) ?_
    refine L1 rfl rfl H (y_move (v := (.bool _)) rfl rfl) ?_
    refine L1g rfl rfl rfl rfl H (y_move (v := (.slice _ _ _)) rfl rfl) ?_
    refine L1g rfl rfl rfl rfl H (y_move (v := (.slice _ _ _)) rfl rfl) ?_
    refine Lfng rfl rfl rfl rfl rfl (xa := [.slice A7 (openL b).1.length c7, .slice A10 (openL b).1.length c10]) rfl Try.call14 ?_   -- portage/portageref0.SameBytes
    refine (sameBytes_calls (l := (openL b).1) (m := (openL b).1) (rd_row (H.get 4 rfl)) (rd_row (H.get 2 rfl)) (Nat.le_trans hf1 (by decide))).mono ?_
    rintro e w' ⟨rfl, K⟩
    replace H := H.app0 K
    clear K
    rw [decide_eq_true rfl]
    refine ⟨.bool true, rfl, ?_⟩
    refine L1g rfl rfl rfl rfl H (y_not rfl rfl) ?_
    refine L1 rfl rfl H (y_pick (v := (.bool _)) rfl rfl rfl) ?_
    refine L1 rfl rfl H (y_move (v := (.bool _)) rfl rfl) ?_
    refine L1g rfl rfl rfl rfl H (y_move (v := (.slice _ _ _)) rfl rfl) ?_
    refine L1g rfl rfl rfl rfl H (y_move (v := (.slice _ _ _)) rfl rfl) ?_
    refine Lfng rfl rfl rfl rfl rfl (xa := [.slice A8 (openL b).2.length c8, .slice A11 (openL b).2.length c11]) rfl Try.call15 ?_   -- portage/portageref0.SameTexts
    refine (sameTexts_calls (l := (openL b).2) (m := (openL b).2) (rd_row (H.get 5 rfl)) (rd_row (H.get 3 rfl)) (Nat.le_trans hf2 (by decide))).mono ?_
    rintro e w' ⟨rfl, K⟩
    replace H := H.app0 K
    clear K
    rw [decide_eq_true rfl]
    refine ⟨.bool true, rfl, ?_⟩
    refine L1g rfl rfl rfl rfl H (y_not rfl rfl) ?_
    refine L1 rfl rfl H (y_pick (v := (.bool _)) rfl rfl rfl) ?_
    refine e_list ?_; (repeat (first | (with_reducible first | refine e_then ?_ | refine e_block ?_ | refine e_then_ret ?_ | refine e_block_ret ?_ | refine e_then_exit ?_ | refine e_block_here ?_ | refine e_then_panic ?_ | refine e_block_panic ?_) | refine e_block_on rfl ?_))
    refine c_f rfl ?_   -- if 2
    refine wp_skip ?_; (repeat (first | (with_reducible first | refine e_then ?_ | refine e_block ?_ | refine e_then_ret ?_ | refine e_block_ret ?_ | refine e_then_exit ?_ | refine e_block_here ?_ | refine e_then_panic ?_ | refine e_block_panic ?_) | refine e_block_on rfl ?_))
    refine wp_seq ?_
    refine wp_seq ?_
    -- R12
    refine c_region ?_
    refine L1 rfl rfl H (y_move (v := (.slice _ _ _)) rfl rfl) ?_
    refine L1 rfl rfl H (y_move (v := (.slice _ _ _)) rfl rfl) ?_
    refine L1 rfl rfl H (y_move (v := (.slice _ _ _)) rfl rfl) ?_
    obtain ⟨hg1, hg2, -⟩ := openL_fits b2
    refine LbuildSlice (cs := [.slice A8 (openL b).2.length c8, .slice A11 (openL b).2.length c11, .slice A14 (openL b2).2.length c14]) (e := 24) rfl rfl rfl H (fun w => by simp [Instr.buildSlice, Instr.fill, go_sem] <;> rfl) ?_; intro b86 w H
    refine Lfn rfl rfl rfl (xa := [.slice (some ⟨b86, 0, none⟩) 3 3]) rfl Try.call16 ?_   -- portage/portagekit.ApartTexts
    replace H := (((H.pick 2 rfl).pick 4 rfl).pick 6 rfl).pick 3 rfl
    refine (apartTexts_calls (w0 := w0) (m := 3) (A := f3 A8 A11 A14) (n := f3 (openL b).2.length (openL b).2.length (openL b2).2.length) (c := f3 c8 c11 c14) (xs0 := f3 ((openL b).2.map tv) ((openL b).2.map tv) ((openL b2).2.map tv)) (R := [rowB w0 A13 c13 (openL b2).1, rowB w0 A10 c10 (openL b).1, rowB w0 A7 c7 (openL b).1, rowB w0 A5 c5 b2]) (by decide) (f3_le hf2 hf2 hg2) H).mono ?_
    rintro e w ⟨rfl, H⟩
    refine ⟨_, rfl, ?_⟩
    refine L1 rfl rfl H (y_not rfl rfl) ?_
    refine e_list ?_; (repeat (first | (with_reducible first | refine e_then ?_ | refine e_block ?_ | refine e_then_ret ?_ | refine e_block_ret ?_ | refine e_then_exit ?_ | refine e_block_here ?_ | refine e_then_panic ?_ | refine e_block_panic ?_) | refine e_block_on rfl ?_))
    refine c_f rfl ?_   -- if 3
    refine wp_skip ?_; (repeat (first | (with_reducible first | refine e_then ?_ | refine e_block ?_ | refine e_then_ret ?_ | refine e_block_ret ?_ | refine e_then_exit ?_ | refine e_block_here ?_ | refine e_then_panic ?_ | refine e_block_panic ?_) | refine e_block_on rfl ?_))
    refine wp_seq ?_
    -- R14
    refine c_region ?_
    refine L1 rfl rfl H (y_move (v := (.slice _ _ _)) rfl rfl) ?_
    refine L1 rfl rfl H (y_move (v := (.slice _ _ _)) rfl rfl) ?_
    refine L1 rfl rfl H (y_move (v := (.slice _ _ _)) rfl rfl) ?_
    refine L1 rfl rfl H (y_move (v := (.slice _ _ _)) rfl rfl) ?_
    replace H : Heap w0 [rowB w0 A13 c13 (openL b2).1, rowB w0 A10 c10 (openL b).1, rowB w0 A7 c7 (openL b).1, Ent.row w0.heap.size 5 1 (.slice A5 b.length c5) b.length (b2.map bv)] w := by rw [← hb2]; exact H
    refine LbuildSlice (cs := [.slice A7 (openL b).1.length c7, .slice A10 (openL b).1.length c10, .slice A13 (openL b2).1.length c13, .slice A5 b.length c5]) (e := 22) rfl rfl rfl H (fun w => by simp [Instr.buildSlice, Instr.fill, go_sem] <;> rfl) ?_; intro b93 w H
    refine Lfn rfl rfl rfl (xa := [.slice (some ⟨b93, 0, none⟩) 4 4]) rfl Try.call17 ?_   -- portage/portagekit.Apart
    replace H := (((H.pick 1 rfl).pick 2 rfl).pick 3 rfl).pick 3 rfl
    refine (apart_calls (w0 := w0) (m := 4) (A := f4 A7 A10 A13 A5) (n := f4 (openL b).1.length (openL b).1.length (openL b2).1.length b.length) (c := f4 c7 c10 c13 c5) (xs0 := f4 ((openL b).1.map bv) ((openL b).1.map bv) ((openL b2).1.map bv) (b2.map bv)) (R := []) (by decide) (f4_le (Nat.le_trans hf1 (by decide)) (Nat.le_trans hf1 (by decide)) (Nat.le_trans hg1 (by decide)) (by omega)) H).mono ?_
    rintro e w' ⟨rfl, H⟩
    refine ⟨_, rfl, ?_⟩
    refine L1 rfl rfl H (y_assign (v := (.bool _)) rfl rfl) ?_
    refine e_list ?_; (repeat (first | (with_reducible first | refine e_then ?_ | refine e_block ?_ | refine e_then_ret ?_ | refine e_block_ret ?_ | refine e_then_exit ?_ | refine e_block_here ?_ | refine e_then_panic ?_ | refine e_block_panic ?_) | refine e_block_on rfl ?_))
    refine wp_ret ?_; (repeat (first | (with_reducible first | refine e_then ?_ | refine e_block ?_ | refine e_then_ret ?_ | refine e_block_ret ?_ | refine e_then_exit ?_ | refine e_block_here ?_ | refine e_then_panic ?_ | refine e_block_panic ?_) | refine e_block_on rfl ?_))
    refine r_1 (v := (.bool _)) rfl rfl ?_
    exact ⟨rfl, H⟩
  · skip
    obtain ⟨b2, hb2, H⟩ : ∃ b2 : By, b2.length = b.length ∧ Heap w0 [rowB w0 A10 c10 (openL b).1, rowT w0 A11 c11 (openL b).2, rowB w0 A7 c7 (openL b).1, rowT w0 A8 c8 (openL b).2, rowB w0 A5 c5 b2] w' := ⟨(lentB b).take b.length, (by rw [List.length_take]; have h9 : (lentB b).length = b.length + 64 := (by simp [lentB_length]); omega), in_row 4 H rfl (by rw [show (lentB b).length = b.length + 64 from by simp [lentB_length]]; omega)⟩
    refine wp_skip ?_; (repeat (first | (with_reducible first | refine e_then ?_ | refine e_block ?_ | refine e_then_ret ?_ | refine e_block_ret ?_ | refine e_then_exit ?_ | refine e_block_here ?_ | refine e_then_panic ?_ | refine e_block_panic ?_) | refine e_block_on rfl ?_))
    refine wp_seq ?_
    -- R9
    refine c_region ?_
    refine L1 rfl rfl H (y_move (v := (.slice _ _ _)) rfl rfl) ?_
    refine Lfn rfl rfl rfl (xa := [(.slice _ _ _)]) rfl Try.call11 ?_   -- portage/portagelaw30.opened
    have ho := opened_calls (b := b2) (rd_row (H.get 4 rfl)) (by omega : b2.length ≤ c5) (by omega)
    rw [hb2] at ho
    refine ho.mono ?_
    rintro e w' ⟨A13, c13, A14, c14, rfl, hc13, hc14, K⟩
    replace H := join2 H K
    clear K ho
    refine ⟨_, rfl, ?_⟩
    refine L1 rfl rfl H (y_move (v := (.tuple _)) rfl rfl) ?_
    refine L1 rfl rfl H (y_extract (v := (.slice _ _ _)) rfl rfl rfl) ?_
    refine L1 rfl rfl H (y_extract (v := (.slice _ _ _)) rfl rfl rfl) ?_
    refine L1 rfl rfl H (y_extract (v := (.bool _)) rfl rfl rfl) ?_
    refine L1 rfl rfl H (y_assign (v := (.slice _ _ _)) rfl rfl) ?_
    refine L1 rfl rfl H (y_assign (v := (.slice _ _ _)) rfl rfl) ?_
    refine L1 rfl rfl H (y_assign (v := (.bool _)) rfl rfl) ?_
    refine e_list ?_; (repeat (first | (with_reducible first | refine e_then ?_ | refine e_block ?_ | refine e_then_ret ?_ | refine e_block_ret ?_ | refine e_then_exit ?_ | refine e_block_here ?_ | refine e_then_panic ?_ | refine e_block_panic ?_) | refine e_block_on rfl ?_))
    refine wp_seq ?_
    refine wp_seq ?_
    -- R10
    refine c_region ?_
    refine L1 rfl rfl H (y_move (v := (.bool _)) rfl rfl) ?_
    refine L1 rfl rfl H (y_not rfl rfl) ?_
    refine L1 rfl rfl H (y_move (v := (.bool _)) rfl rfl) ?_
    refine L1g rfl rfl rfl rfl H (y_move (v := (.slice _ _ _)) rfl rfl) ?_
    refine L1g rfl rfl rfl rfl H (y_move (v := (.slice _ _ _)) rfl rfl) ?_
    refine Lfng rfl rfl rfl rfl rfl (xa := [.slice A7 (openL b).1.length c7, .slice A10 (openL b).1.length c10]) rfl Try.call14 ?_   -- portage/portageref0.SameBytes
    refine (sameBytes_calls (l := (openL b).1) (m := (openL b).1) (rd_row (H.get 4 rfl)) (rd_row (H.get 2 rfl)) (Nat.le_trans hf1 (by decide))).mono ?_
    rintro e w' ⟨rfl, K⟩
    replace H := H.app0 K
    clear K
    rw [decide_eq_true rfl]
    refine ⟨.bool true, rfl, ?_⟩
    refine L1g rfl rfl rfl rfl H (y_not rfl rfl) ?_
    refine L1 rfl rfl H (y_pick (v := (.bool _)) rfl rfl rfl) ?_
    refine L1 rfl rfl H (y_move (v := (.bool _)) rfl rfl) ?_
    refine L1g rfl rfl rfl rfl H (y_move (v := (.slice _ _ _)) rfl rfl) ?_
    refine L1g rfl rfl rfl rfl H (y_move (v := (.slice _ _ _)) rfl rfl) ?_
    refine Lfng rfl rfl rfl rfl rfl (xa := [.slice A8 (openL b).2.length c8, .slice A11 (openL b).2.length c11]) rfl Try.call15 ?_   -- portage/portageref0.SameTexts
    refine (sameTexts_calls (l := (openL b).2) (m := (openL b).2) (rd_row (H.get 5 rfl)) (rd_row (H.get 3 rfl)) (Nat.le_trans hf2 (by decide))).mono ?_
    rintro e w' ⟨rfl, K⟩
    replace H := H.app0 K
    clear K
    rw [decide_eq_true rfl]
    refine ⟨.bool true, rfl, ?_⟩
    refine L1g rfl rfl rfl rfl H (y_not rfl rfl) ?_
    refine L1 rfl rfl H (y_pick (v := (.bool _)) rfl rfl rfl) ?_
    refine e_list ?_; (repeat (first | (with_reducible first | refine e_then ?_ | refine e_block ?_ | refine e_then_ret ?_ | refine e_block_ret ?_ | refine e_then_exit ?_ | refine e_block_here ?_ | refine e_then_panic ?_ | refine e_block_panic ?_) | refine e_block_on rfl ?_))
    refine c_f rfl ?_   -- if 4
    refine wp_skip ?_; (repeat (first | (with_reducible first | refine e_then ?_ | refine e_block ?_ | refine e_then_ret ?_ | refine e_block_ret ?_ | refine e_then_exit ?_ | refine e_block_here ?_ | refine e_then_panic ?_ | refine e_block_panic ?_) | refine e_block_on rfl ?_))
    refine wp_seq ?_
    refine wp_seq ?_
    -- R12
    refine c_region ?_
    refine L1 rfl rfl H (y_move (v := (.slice _ _ _)) rfl rfl) ?_
    refine L1 rfl rfl H (y_move (v := (.slice _ _ _)) rfl rfl) ?_
    refine L1 rfl rfl H (y_move (v := (.slice _ _ _)) rfl rfl) ?_
    obtain ⟨hg1, hg2, -⟩ := openL_fits b2
    refine LbuildSlice (cs := [.slice A8 (openL b).2.length c8, .slice A11 (openL b).2.length c11, .slice A14 (openL b2).2.length c14]) (e := 24) rfl rfl rfl H (fun w => by simp [Instr.buildSlice, Instr.fill, go_sem] <;> rfl) ?_; intro b86 w H
    refine Lfn rfl rfl rfl (xa := [.slice (some ⟨b86, 0, none⟩) 3 3]) rfl Try.call16 ?_   -- portage/portagekit.ApartTexts
    replace H := (((H.pick 2 rfl).pick 4 rfl).pick 6 rfl).pick 3 rfl
    refine (apartTexts_calls (w0 := w0) (m := 3) (A := f3 A8 A11 A14) (n := f3 (openL b).2.length (openL b).2.length (openL b2).2.length) (c := f3 c8 c11 c14) (xs0 := f3 ((openL b).2.map tv) ((openL b).2.map tv) ((openL b2).2.map tv)) (R := [rowB w0 A13 c13 (openL b2).1, rowB w0 A10 c10 (openL b).1, rowB w0 A7 c7 (openL b).1, rowB w0 A5 c5 b2]) (by decide) (f3_le hf2 hf2 hg2) H).mono ?_
    rintro e w ⟨rfl, H⟩
    refine ⟨_, rfl, ?_⟩
    refine L1 rfl rfl H (y_not rfl rfl) ?_
    refine e_list ?_; (repeat (first | (with_reducible first | refine e_then ?_ | refine e_block ?_ | refine e_then_ret ?_ | refine e_block_ret ?_ | refine e_then_exit ?_ | refine e_block_here ?_ | refine e_then_panic ?_ | refine e_block_panic ?_) | refine e_block_on rfl ?_))
    refine c_f rfl ?_   -- if 5
    refine wp_skip ?_; (repeat (first | (with_reducible first | refine e_then ?_ | refine e_block ?_ | refine e_then_ret ?_ | refine e_block_ret ?_ | refine e_then_exit ?_ | refine e_block_here ?_ | refine e_then_panic ?_ | refine e_block_panic ?_) | refine e_block_on rfl ?_))
    refine wp_seq ?_
    -- R14
    refine c_region ?_
    refine L1 rfl rfl H (y_move (v := (.slice _ _ _)) rfl rfl) ?_
    refine L1 rfl rfl H (y_move (v := (.slice _ _ _)) rfl rfl) ?_
    refine L1 rfl rfl H (y_move (v := (.slice _ _ _)) rfl rfl) ?_
    refine L1 rfl rfl H (y_move (v := (.slice _ _ _)) rfl rfl) ?_
    replace H : Heap w0 [rowB w0 A13 c13 (openL b2).1, rowB w0 A10 c10 (openL b).1, rowB w0 A7 c7 (openL b).1, Ent.row w0.heap.size 5 1 (.slice A5 b.length c5) b.length (b2.map bv)] w := by rw [← hb2]; exact H
    refine LbuildSlice (cs := [.slice A7 (openL b).1.length c7, .slice A10 (openL b).1.length c10, .slice A13 (openL b2).1.length c13, .slice A5 b.length c5]) (e := 22) rfl rfl rfl H (fun w => by simp [Instr.buildSlice, Instr.fill, go_sem] <;> rfl) ?_; intro b93 w H
    refine Lfn rfl rfl rfl (xa := [.slice (some ⟨b93, 0, none⟩) 4 4]) rfl Try.call17 ?_   -- portage/portagekit.Apart
    replace H := (((H.pick 1 rfl).pick 2 rfl).pick 3 rfl).pick 3 rfl
    refine (apart_calls (w0 := w0) (m := 4) (A := f4 A7 A10 A13 A5) (n := f4 (openL b).1.length (openL b).1.length (openL b2).1.length b.length) (c := f4 c7 c10 c13 c5) (xs0 := f4 ((openL b).1.map bv) ((openL b).1.map bv) ((openL b2).1.map bv) (b2.map bv)) (R := []) (by decide) (f4_le (Nat.le_trans hf1 (by decide)) (Nat.le_trans hf1 (by decide)) (Nat.le_trans hg1 (by decide)) (by omega)) H).mono ?_
    rintro e w' ⟨rfl, H⟩
    refine ⟨_, rfl, ?_⟩
    refine L1 rfl rfl H (y_assign (v := (.bool _)) rfl rfl) ?_
    refine e_list ?_; (repeat (first | (with_reducible first | refine e_then ?_ | refine e_block ?_ | refine e_then_ret ?_ | refine e_block_ret ?_ | refine e_then_exit ?_ | refine e_block_here ?_ | refine e_then_panic ?_ | refine e_block_panic ?_) | refine e_block_on rfl ?_))
    refine wp_ret ?_; (repeat (first | (with_reducible first | refine e_then ?_ | refine e_block ?_ | refine e_then_ret ?_ | refine e_block_ret ?_ | refine e_then_exit ?_ | refine e_block_here ?_ | refine e_then_panic ?_ | refine e_block_panic ?_) | refine e_block_on rfl ?_))
    refine r_1 (v := (.bool _)) rfl rfl ?_
    exact ⟨rfl, H⟩
-- »opens
end
end Go.Ref
