/-
  The laws' own functions: RelayBack at one input, RelayOne.
-/
import Derived.Test.YtjfifehofflaeaaParcel1
namespace Go.Ref
open Go.RowKit Go.Eng Go.Proofs Go.Wire Go.Relay
set_option linter.unusedSimpArgs false
set_option linter.unusedVariables false
attribute [local irreducible] wpList wpQuiet wpStill wpMix wpMixE

section
variable {P : Program} {C : World → Prop} {o : Oper} {ρ : Operand → Value} {t t2 : TypeId} {x y : Operand} {k : IntKind} {a b : Int}
theorem y_eqlT (h : a = b) (ho : o.op = .binOp .eql t x y t2) (hx : ρ x = .int k a) (hy : ρ y = .int k b) : Gives P C o ρ (.bool true) := by
  have := y_eql (P := P) (C := C) ho hx hy
  rw [decide_eq_true h] at this
  exact this
theorem y_geqT (h : b ≤ a) (ho : o.op = .binOp .geq t x y t2) (hx : ρ x = .int k a) (hy : ρ y = .int k b) : Gives P C o ρ (.bool true) := by
  have := y_geq (P := P) (C := C) ho hx hy
  rw [decide_eq_true h] at this
  exact this
theorem y_leqT (h : a ≤ b) (ho : o.op = .binOp .leq t x y t2) (hx : ρ x = .int k a) (hy : ρ y = .int k b) : Gives P C o ρ (.bool true) := by
  have := y_leq (P := P) (C := C) ho hx hy
  rw [decide_eq_true h] at this
  exact this
end
theorem openL_seal {img : By} {ts : List By} (h : fitsS img ts) : openL (sealS (bodyS img ts)) = (img, ts) := by unfold openL; rw [open_seal h]
theorem openK_seal {img : By} {ts : List By} (h : fitsS img ts) : openK (sealS (bodyS img ts)) = 0 := by unfold openK; rw [open_seal h]
theorem openL_err {b : By} (h : openK b ≠ 0) : openL b = ([], []) ∧ 2 ≤ openK b ∧ openK b ≤ 5 := by
  unfold openK openL at *
  cases ho : openS b with
  | ok p => rw [ho] at h; exact absurd rfl h
  | error k => exact ⟨rfl, open_err ho⟩
theorem openL_ok {b : By} (h : openK b = 0) : b = sealS (bodyS (openL b).1 (openL b).2) := by
  unfold openK openL at *
  cases ho : openS b with
  | ok p => exact (open_back (img := p.1) (ts := p.2) ho).1
  | error k => rw [ho] at h; have := open_err ho; simp only at h; omega
section
variable {w0 w : World} {R : List Ent} {g : Nat} {A : Option Addr} {cap : Nat} {b img : By} {ts : List By}
-- «back»
theorem back_calls {A1 A2 : Option Addr} {c1 c2 : Nat} (hf : fitsS img ts) (hA : Rd w0 A1 (img.map bv)) (hT : Rd w0 A2 (ts.map tv)) :
    Calls Try.prog 19 #[.slice A1 img.length c1, .slice A2 ts.length c2] w0 fun e w' => e = .returned (.bool true) ∧ Heap w0 [] w' := by
  refine c_enter (xa := [.slice A1 img.length c1, .slice A2 ts.length c2]) 52 Try.func19 rfl rfl rfl ?_
  have H := Heap.init w0
  have hsl : (sealS (bodyS img ts)).length ≤ 5000000044 := by rw [sealS_length]; have := bodyS_len hf; omega
  refine wp_seq ?_
  -- R0
  refine c_region ?_
  refine L1 rfl rfl H (y_assign (v := (.bool _)) rfl rfl) ?_
  refine e_list ?_; (repeat (first | (with_reducible first | refine e_then ?_ | refine e_block ?_ | refine e_then_ret ?_ | refine e_block_ret ?_ | refine e_then_exit ?_ | refine e_block_here ?_ | refine e_then_panic ?_ | refine e_block_panic ?_) | refine e_block_on rfl ?_))
  refine wp_seq ?_
  -- R1
  refine c_region ?_
  refine L1 rfl rfl H (y_move (v := (.slice _ _ _)) rfl rfl) ?_
  refine L1 rfl rfl H (y_move (v := (.slice _ _ _)) rfl rfl) ?_
  refine Lfn rfl rfl rfl (xa := [.slice A1 img.length c1, .slice A2 ts.length c2]) rfl Try.call22 ?_   -- portage/relay.Parcel
  refine (parcel_calls hf hA hT).mono ?_
  rintro e w ⟨A5, c5, rfl, hc5, H⟩
  refine ⟨_, rfl, ?_⟩
  refine L1 rfl rfl H (y_move (v := (.tuple _)) rfl rfl) ?_
  refine L1 rfl rfl H (y_extract (v := (.slice _ _ _)) rfl rfl rfl) ?_
  refine L1 rfl rfl H (y_extract (v := (.int .i64 _)) rfl rfl rfl) ?_
  refine L1 rfl rfl H (y_assign (v := (.slice _ _ _)) rfl rfl) ?_
  refine L1 rfl rfl H (y_assign (v := (.int .i64 _)) rfl rfl) ?_
  refine e_list ?_; (repeat (first | (with_reducible first | refine e_then ?_ | refine e_block ?_ | refine e_then_ret ?_ | refine e_block_ret ?_ | refine e_then_exit ?_ | refine e_block_here ?_ | refine e_then_panic ?_ | refine e_block_panic ?_) | refine e_block_on rfl ?_))
  refine wp_seq ?_
  refine wp_seq ?_
  -- R2
  refine c_region ?_
  refine L1 rfl rfl H (y_move (v := (.slice _ _ _)) rfl rfl) ?_
  refine L1 rfl rfl H (y_move (v := (.slice _ _ _)) rfl rfl) ?_
  refine Lfn rfl rfl rfl (xa := [.slice A1 img.length c1, .slice A2 ts.length c2]) rfl Try.call51 ?_   -- portage/portagelaw30.fits
  refine (fits_calls hf (hT.old H)).mono ?_
  rintro e w' ⟨rfl, K⟩
  replace H := H.app0 K
  clear K
  refine ⟨_, rfl, ?_⟩
  refine L1 rfl rfl H (y_not rfl rfl) ?_
  refine e_list ?_; (repeat (first | (with_reducible first | refine e_then ?_ | refine e_block ?_ | refine e_then_ret ?_ | refine e_block_ret ?_ | refine e_then_exit ?_ | refine e_block_here ?_ | refine e_then_panic ?_ | refine e_block_panic ?_) | refine e_block_on rfl ?_))
  refine c_f rfl ?_   -- if 0
  refine wp_skip ?_; (repeat (first | (with_reducible first | refine e_then ?_ | refine e_block ?_ | refine e_then_ret ?_ | refine e_block_ret ?_ | refine e_then_exit ?_ | refine e_block_here ?_ | refine e_then_panic ?_ | refine e_block_panic ?_) | refine e_block_on rfl ?_))
  refine wp_seq ?_
  -- R4
  refine c_region ?_
  refine L1 rfl rfl H (y_move (v := (.slice _ _ _)) rfl rfl) ?_
  refine Lfn rfl rfl rfl (xa := [.slice A5 (sealS (bodyS img ts)).length c5]) rfl Try.call20 ?_   -- portage/relay.Open
  refine (open_calls (b := sealS (bodyS img ts)) (rd_row (H.get 0 rfl)) hc5 (by omega)).mono ?_
  intro e w' hu
  replace hu := unite hu
  rw [openL_seal hf, openK_seal hf] at hu
  obtain ⟨A3, c3, A4, c4, rfl, hc3, hc4, K⟩ := hu
  replace H := join2 H K
  clear K
  refine ⟨_, rfl, ?_⟩
  refine L1 rfl rfl H (y_move (v := (.tuple _)) rfl rfl) ?_
  refine L1 rfl rfl H (y_extract (v := (.slice _ _ _)) rfl rfl rfl) ?_
  refine L1 rfl rfl H (y_extract (v := (.slice _ _ _)) rfl rfl rfl) ?_
  refine L1 rfl rfl H (y_extract (v := (.int .i64 _)) rfl rfl rfl) ?_
  refine L1 rfl rfl H (y_assign (v := (.slice _ _ _)) rfl rfl) ?_
  refine L1 rfl rfl H (y_assign (v := (.slice _ _ _)) rfl rfl) ?_
  refine L1 rfl rfl H (y_assign (v := (.int .i64 _)) rfl rfl) ?_
  refine e_list ?_; (repeat (first | (with_reducible first | refine e_then ?_ | refine e_block ?_ | refine e_then_ret ?_ | refine e_block_ret ?_ | refine e_then_exit ?_ | refine e_block_here ?_ | refine e_then_panic ?_ | refine e_block_panic ?_) | refine e_block_on rfl ?_))
  refine wp_seq ?_
  -- R5
  refine c_region ?_
  refine L1 rfl rfl H (y_move (v := (.int .i64 _)) rfl rfl) ?_
  refine Lfn rfl rfl rfl (xa := [(.int .i64 _)]) rfl Try.call21 ?_   -- portage/portagekit.Num
  refine num_calls.mono ?_
  rintro e w' ⟨rfl, K⟩
  replace H := H.app0 K
  clear K
  refine ⟨.int .i64 0, rfl, ?_⟩
  refine L1 rfl rfl H (y_eqlT rfl rfl rfl rfl) ?_
  refine L1 rfl rfl H (y_move (v := (.bool _)) rfl rfl) ?_
  refine L1g rfl rfl rfl rfl H (y_move (v := (.int .i64 _)) rfl rfl) ?_
  refine Lfng rfl rfl rfl rfl rfl (xa := [(.int .i64 _)]) rfl Try.call21 ?_   -- portage/portagekit.Num
  refine num_calls.mono ?_
  rintro e w' ⟨rfl, K⟩
  replace H := H.app0 K
  clear K
  refine ⟨.int .i64 ((0 : Nat) : Int), rfl, ?_⟩
  refine L1g rfl rfl rfl rfl H (y_eqlT rfl rfl rfl rfl) ?_
  refine L1 rfl rfl H (y_pick (v := (.bool _)) rfl rfl rfl) ?_
  refine L1 rfl rfl H (y_move (v := (.bool _)) rfl rfl) ?_
  refine L1g rfl rfl rfl rfl H (y_move (v := (.slice _ _ _)) rfl rfl) ?_
  refine L1g rfl rfl rfl rfl H (y_move (v := (.slice _ _ _)) rfl rfl) ?_
  refine Lfng rfl rfl rfl rfl rfl (xa := [.slice A3 img.length c3, .slice A1 img.length c1]) rfl Try.call14 ?_   -- portage/portageref0.SameBytes
  refine (sameBytes_calls (l := img) (m := img) (rd_row (H.get 0 rfl)) (hA.old H) (Nat.le_trans hf.1 (by decide))).mono ?_
  rintro e w' ⟨rfl, K⟩
  replace H := H.app0 K
  clear K
  rw [decide_eq_true rfl]
  refine ⟨.bool true, rfl, ?_⟩
  refine L1 rfl rfl H (y_pick (v := (.bool _)) rfl rfl rfl) ?_
  refine L1 rfl rfl H (y_move (v := (.bool _)) rfl rfl) ?_
  refine L1g rfl rfl rfl rfl H (y_move (v := (.slice _ _ _)) rfl rfl) ?_
  refine L1g rfl rfl rfl rfl H (y_move (v := (.slice _ _ _)) rfl rfl) ?_
  refine Lfng rfl rfl rfl rfl rfl (xa := [.slice A4 ts.length c4, .slice A2 ts.length c2]) rfl Try.call15 ?_   -- portage/portageref0.SameTexts
  refine (sameTexts_calls (l := ts) (m := ts) (rd_row (H.get 1 rfl)) (hT.old H) (Nat.le_trans hf.2.1 (by decide))).mono ?_
  rintro e w' ⟨rfl, K⟩
  replace H := H.app0 K
  clear K
  rw [decide_eq_true rfl]
  refine ⟨.bool true, rfl, ?_⟩
  refine L1 rfl rfl H (y_pick (v := (.bool _)) rfl rfl rfl) ?_
  refine L1 rfl rfl H (y_assign (v := (.bool _)) rfl rfl) ?_
  refine e_list ?_; (repeat (first | (with_reducible first | refine e_then ?_ | refine e_block ?_ | refine e_then_ret ?_ | refine e_block_ret ?_ | refine e_then_exit ?_ | refine e_block_here ?_ | refine e_then_panic ?_ | refine e_block_panic ?_) | refine e_block_on rfl ?_))
  refine wp_ret ?_; (repeat (first | (with_reducible first | refine e_then ?_ | refine e_block ?_ | refine e_then_ret ?_ | refine e_block_ret ?_ | refine e_then_exit ?_ | refine e_block_here ?_ | refine e_then_panic ?_ | refine e_block_panic ?_) | refine e_block_on rfl ?_))
  refine r_1 (v := (.bool _)) rfl rfl ?_
  exact ⟨rfl, H.clear⟩
-- »back
-- «one»
theorem relayOne_calls {A0 : Option Addr} {c0 : Nat} (hR : Rd w0 A0 (b.map bv)) (hc0 : b.length ≤ c0) (hb : b.length ≤ 140737488355328) :
    Calls Try.prog 5 #[.slice A0 b.length c0] w0 fun e w' => e = .returned (.bool true) ∧ Heap w0 [] w' := by
  refine c_enter (xa := [.slice A0 b.length c0]) 52 Try.func5 rfl rfl rfl ?_
  have H := Heap.init w0
  have hf := openL_fits b
  refine wp_seq ?_
  -- R0
  refine c_region ?_
  refine L1 rfl rfl H (y_assign (v := (.bool _)) rfl rfl) ?_
  refine e_list ?_; (repeat (first | (with_reducible first | refine e_then ?_ | refine e_block ?_ | refine e_then_ret ?_ | refine e_block_ret ?_ | refine e_then_exit ?_ | refine e_block_here ?_ | refine e_then_panic ?_ | refine e_block_panic ?_) | refine e_block_on rfl ?_))
  refine wp_seq ?_
  refine wp_seq ?_
  -- R1
  refine c_region ?_
  refine LbuildSlice (cs := [[97], []].map tv) (e := 9) rfl rfl rfl H (fun w => by simp [Instr.buildSlice, Instr.fill, go_sem] <;> rfl) ?_; intro b8 w H
  refine Lfn rfl rfl rfl (xa := [.slice none 0 0, .slice (some ⟨b8, 0, none⟩) 2 2]) rfl Try.call19 ?_   -- portage/portagelaw30.RelayBack
  refine (back_calls (img := []) (ts := [[97], []]) ⟨by decide, by decide, by decide⟩ (Rd.nil _ _) (rd_blk H 0 rfl)).mono ?_
  rintro e w' ⟨rfl, K⟩
  replace H := (H.app0 K).clear
  clear K
  refine ⟨_, rfl, ?_⟩
  refine L1 rfl rfl H (y_not rfl rfl) ?_
  refine e_list ?_; (repeat (first | (with_reducible first | refine e_then ?_ | refine e_block ?_ | refine e_then_ret ?_ | refine e_block_ret ?_ | refine e_then_exit ?_ | refine e_block_here ?_ | refine e_then_panic ?_ | refine e_block_panic ?_) | refine e_block_on rfl ?_))
  refine c_f rfl ?_   -- if 0
  refine wp_skip ?_; (repeat (first | (with_reducible first | refine e_then ?_ | refine e_block ?_ | refine e_then_ret ?_ | refine e_block_ret ?_ | refine e_then_exit ?_ | refine e_block_here ?_ | refine e_then_panic ?_ | refine e_block_panic ?_) | refine e_block_on rfl ?_))
  refine wp_seq ?_
  -- R3
  refine c_region ?_
  refine L1 rfl rfl H (y_move (v := (.slice _ _ _)) rfl rfl) ?_
  refine Lfn rfl rfl rfl (xa := [.slice A0 b.length c0]) rfl Try.call20 ?_   -- portage/relay.Open
  refine (open_calls (b := b) (hR.old H) hc0 (by omega)).mono ?_
  intro e w' hu
  obtain ⟨A3, c3, A4, c4, rfl, hc3, hc4, K⟩ := unite hu
  clear hu
  replace H := join2 H K
  clear K
  refine ⟨_, rfl, ?_⟩
  refine L1 rfl rfl H (y_move (v := (.tuple _)) rfl rfl) ?_
  refine L1 rfl rfl H (y_extract (v := (.slice _ _ _)) rfl rfl rfl) ?_
  refine L1 rfl rfl H (y_extract (v := (.slice _ _ _)) rfl rfl rfl) ?_
  refine L1 rfl rfl H (y_extract (v := (.int .i64 _)) rfl rfl rfl) ?_
  refine L1 rfl rfl H (y_assign (v := (.slice _ _ _)) rfl rfl) ?_
  refine L1 rfl rfl H (y_assign (v := (.slice _ _ _)) rfl rfl) ?_
  refine L1 rfl rfl H (y_assign (v := (.int .i64 _)) rfl rfl) ?_
  refine e_list ?_; (repeat (first | (with_reducible first | refine e_then ?_ | refine e_block ?_ | refine e_then_ret ?_ | refine e_block_ret ?_ | refine e_then_exit ?_ | refine e_block_here ?_ | refine e_then_panic ?_ | refine e_block_panic ?_) | refine e_block_on rfl ?_))
  refine wp_seq ?_
  refine wp_seq ?_
  -- R4
  refine c_region ?_
  refine L1 rfl rfl H (y_move (v := (.int .i64 _)) rfl rfl) ?_
  refine Lfn rfl rfl rfl (xa := [(.int .i64 _)]) rfl Try.call21 ?_   -- portage/portagekit.Num
  refine num_calls.mono ?_
  rintro e w' ⟨rfl, K⟩
  replace H := H.app0 K
  clear K
  refine ⟨.int .i64 (openK b : Nat), rfl, ?_⟩
  refine L1 rfl rfl H (y_neq rfl rfl rfl) ?_
  refine e_list ?_; (repeat (first | (with_reducible first | refine e_then ?_ | refine e_block ?_ | refine e_then_ret ?_ | refine e_block_ret ?_ | refine e_then_exit ?_ | refine e_block_here ?_ | refine e_then_panic ?_ | refine e_block_panic ?_) | refine e_block_on rfl ?_))
  refine c_if rfl (fun hd => ?_) (fun hd => ?_)   -- if 1
  · skip
    have hk : openK b ≠ 0 := by omega
    obtain ⟨hl0, hk2, hk5⟩ := openL_err hk
    refine wp_seq ?_
    -- R5
    refine c_region ?_
    refine L1 rfl rfl H (y_move (v := (.slice _ _ _)) rfl rfl) ?_
    refine L1 rfl rfl H (y_len_slice rfl rfl Try.underlying22) ?_
    refine L1 rfl rfl H (y_eqlT (by rw [hl0]; rfl) rfl rfl rfl) ?_
    refine L1 rfl rfl H (y_move (v := (.bool _)) rfl rfl) ?_
    refine L1g rfl rfl rfl rfl H (y_move (v := (.slice _ _ _)) rfl rfl) ?_
    refine L1g rfl rfl rfl rfl H (y_len_slice rfl rfl Try.underlying24) ?_
    refine L1g rfl rfl rfl rfl H (y_eqlT (by rw [hl0]; rfl) rfl rfl rfl) ?_
    refine L1 rfl rfl H (y_pick (v := (.bool _)) rfl rfl rfl) ?_
    refine L1 rfl rfl H (y_move (v := (.bool _)) rfl rfl) ?_
    refine L1g rfl rfl rfl rfl H (y_move (v := (.int .i64 _)) rfl rfl) ?_
    refine Lfng rfl rfl rfl rfl rfl (xa := [(.int .i64 _)]) rfl Try.call21 ?_   -- portage/portagekit.Num
    refine num_calls.mono ?_
    rintro e w' ⟨rfl, K⟩
    replace H := H.app0 K
    clear K
    refine ⟨.int .i64 (openK b : Nat), rfl, ?_⟩
    refine L1g rfl rfl rfl rfl H (y_geqT (by omega) rfl rfl rfl) ?_
    refine L1 rfl rfl H (y_pick (v := (.bool _)) rfl rfl rfl) ?_
    refine L1 rfl rfl H (y_move (v := (.bool _)) rfl rfl) ?_
    refine L1g rfl rfl rfl rfl H (y_move (v := (.int .i64 _)) rfl rfl) ?_
    refine Lfng rfl rfl rfl rfl rfl (xa := [(.int .i64 _)]) rfl Try.call21 ?_   -- portage/portagekit.Num
    refine num_calls.mono ?_
    rintro e w' ⟨rfl, K⟩
    replace H := H.app0 K
    clear K
    refine ⟨.int .i64 (openK b : Nat), rfl, ?_⟩
    refine L1g rfl rfl rfl rfl H (y_leqT (by omega) rfl rfl rfl) ?_
    refine L1 rfl rfl H (y_pick (v := (.bool _)) rfl rfl rfl) ?_
    refine L1 rfl rfl H (y_assign (v := (.bool _)) rfl rfl) ?_
    refine e_list ?_; (repeat (first | (with_reducible first | refine e_then ?_ | refine e_block ?_ | refine e_then_ret ?_ | refine e_block_ret ?_ | refine e_then_exit ?_ | refine e_block_here ?_ | refine e_then_panic ?_ | refine e_block_panic ?_) | refine e_block_on rfl ?_))
    refine wp_ret ?_; (repeat (first | (with_reducible first | refine e_then ?_ | refine e_block ?_ | refine e_then_ret ?_ | refine e_block_ret ?_ | refine e_then_exit ?_ | refine e_block_here ?_ | refine e_then_panic ?_ | refine e_block_panic ?_) | refine e_block_on rfl ?_))
    refine r_1 (v := (.bool _)) rfl rfl ?_
    exact ⟨rfl, H.clear⟩
  · skip
    have hk0 : openK b = 0 := by omega
    refine wp_skip ?_; (repeat (first | (with_reducible first | refine e_then ?_ | refine e_block ?_ | refine e_then_ret ?_ | refine e_block_ret ?_ | refine e_then_exit ?_ | refine e_block_here ?_ | refine e_then_panic ?_ | refine e_block_panic ?_) | refine e_block_on rfl ?_))
    refine wp_seq ?_
    -- R6
    refine c_region ?_
    refine L1 rfl rfl H (y_move (v := (.slice _ _ _)) rfl rfl) ?_
    refine L1 rfl rfl H (y_move (v := (.slice _ _ _)) rfl rfl) ?_
    refine Lfn rfl rfl rfl (xa := [.slice A3 (openL b).1.length c3, .slice A4 (openL b).2.length c4]) rfl Try.call22 ?_   -- portage/relay.Parcel
    refine (parcel_calls hf (rd_row (H.get 0 rfl)) (rd_row (H.get 1 rfl))).mono ?_
    rintro e w' ⟨A5, c5, rfl, hc5, K⟩
    replace H := H.app_row K
    clear K
    rw [← openL_ok hk0] at H ⊢
    refine ⟨.tuple #[.slice A5 b.length c5, .int .i64 0], rfl, ?_⟩
    refine L1 rfl rfl H (y_move (v := (.tuple _)) rfl rfl) ?_
    refine L1 rfl rfl H (y_extract (v := (.slice _ _ _)) rfl rfl rfl) ?_
    refine L1 rfl rfl H (y_extract (v := (.int .i64 _)) rfl rfl rfl) ?_
    refine L1 rfl rfl H (y_assign (v := (.slice _ _ _)) rfl rfl) ?_
    refine L1 rfl rfl H (y_assign (v := (.int .i64 _)) rfl rfl) ?_
    refine e_list ?_; (repeat (first | (with_reducible first | refine e_then ?_ | refine e_block ?_ | refine e_then_ret ?_ | refine e_block_ret ?_ | refine e_then_exit ?_ | refine e_block_here ?_ | refine e_then_panic ?_ | refine e_block_panic ?_) | refine e_block_on rfl ?_))
    refine wp_seq ?_
    -- R7
    refine c_region ?_
    refine L1 rfl rfl H (y_move (v := (.int .i64 _)) rfl rfl) ?_
    refine Lfn rfl rfl rfl (xa := [(.int .i64 _)]) rfl Try.call21 ?_   -- portage/portagekit.Num
    refine num_calls.mono ?_
    rintro e w' ⟨rfl, K⟩
    replace H := H.app0 K
    clear K
    refine ⟨.int .i64 0, rfl, ?_⟩
    refine L1 rfl rfl H (y_eqlT rfl rfl rfl rfl) ?_
    refine L1 rfl rfl H (y_move (v := (.bool _)) rfl rfl) ?_
    refine L1g rfl rfl rfl rfl H (y_move (v := (.slice _ _ _)) rfl rfl) ?_
    refine L1g rfl rfl rfl rfl H (y_move (v := (.slice _ _ _)) rfl rfl) ?_
    refine Lfng rfl rfl rfl rfl rfl (xa := [.slice A0 b.length c0, .slice A5 b.length c5]) rfl Try.call14 ?_   -- portage/portageref0.SameBytes
    refine (sameBytes_calls (l := b) (m := b) (hR.old H) (rd_row (H.get 0 rfl)) (by omega)).mono ?_
    rintro e w' ⟨rfl, K⟩
    replace H := H.app0 K
    clear K
    rw [decide_eq_true rfl]
    refine ⟨.bool true, rfl, ?_⟩
    refine L1 rfl rfl H (y_pick (v := (.bool _)) rfl rfl rfl) ?_
    refine L1 rfl rfl H (y_assign (v := (.bool _)) rfl rfl) ?_
    refine e_list ?_; (repeat (first | (with_reducible first | refine e_then ?_ | refine e_block ?_ | refine e_then_ret ?_ | refine e_block_ret ?_ | refine e_then_exit ?_ | refine e_block_here ?_ | refine e_then_panic ?_ | refine e_block_panic ?_) | refine e_block_on rfl ?_))
    refine wp_ret ?_; (repeat (first | (with_reducible first | refine e_then ?_ | refine e_block ?_ | refine e_then_ret ?_ | refine e_block_ret ?_ | refine e_then_exit ?_ | refine e_block_here ?_ | refine e_then_panic ?_ | refine e_block_panic ?_) | refine e_block_on rfl ?_))
    refine r_1 (v := (.bool _)) rfl rfl ?_
    exact ⟨rfl, H.clear⟩
-- »one
end
end Go.Ref
