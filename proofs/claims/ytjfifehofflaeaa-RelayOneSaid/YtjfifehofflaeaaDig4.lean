/-
  SHA-256 in the program: what one writes into a hash on its way.
-/
import Derived.Test.YtjfifehofflaeaaDig3
import Derived.Test.YtjfifehofflaeaaWire4
namespace Go.Dig
open Go.RowKit Go.Eng Go.Proofs
set_option linter.unusedSimpArgs false
set_option linter.unusedVariables false
attribute [local irreducible] wpList wpQuiet wpStill wpMix wpMixE

section
variable {w0 w : World} {R : List Ent}
-- «write»
theorem write_calls {m tot c : Nat} {s0 : S8} {buf bs : By} {A : Option Addr} (H : Heap w0 (Ent.blk m 182 (markC s0 (restC buf) tot) :: R) w) (hbuf : tot % 64 = buf.length) (htot : tot + bs.length < 2 ^ 64) (hb : bs.length ≤ 140737488355328) (hc : bs.length ≤ c)
    (hR : ∀ s r t w', Heap w0 (Ent.blk m 182 (markC s r t) :: R) w' → Rd w' A (bs.map bv)) :
    Calls Try.prog 118 #[.pointer (some ⟨m, 0, none⟩), .slice A bs.length c] w fun e w' =>
      e = .returned (.tuple #[]) ∧ Heap w0 (Ent.blk m 182 (markC (absorb s0 (buf ++ bs)).1 (restC (absorb s0 (buf ++ bs)).2) (tot + bs.length)) :: R) w' := by
  have h63 : tot % 64 < 64 := Nat.mod_lt _ (by decide)
  refine c_enter (xa := [.pointer (some ⟨m, 0, none⟩), .slice A bs.length c]) 56 Try.func118 rfl rfl rfl ?_
  obtain ⟨tt, htt⟩ : ∃ tt, tt = tot + bs.length := ⟨_, rfl⟩
  refine wp_seq ?_
  -- R0
  refine c_region ?_
  refine L1 rfl rfl H (y_move (v := (.pointer _)) rfl rfl) ?_
  refine L1 rfl rfl H (y_nilCheck rfl rfl) ?_
  refine L1 rfl rfl H (y_fieldAddr 72 rfl rfl Try.underlying182 rfl Try.sizeOf86 rfl) ?_
  refine L1 rfl rfl H (y_load (v := .int .u64 (tot : Nat)) rfl rfl Try.isAgg86 (cell_blk (k := 0) rfl (markC_tot (restC_length (by omega))))) ?_
  refine L1 rfl rfl H (y_rem (r := ((tot % 64 : Nat) : Int)) rfl rfl rfl (by omega) (Int.ofNat_tmod tot 64).symm) ?_
  refine L1 rfl rfl H (y_conv (r := (buf.length : Nat)) rfl rfl Try.underlying86 Try.underlying3 (by rw [← hbuf]; exact wr_i64 (by omega) (by omega))) ?_
  refine L1 rfl rfl H (y_assign (v := (.int .i64 _)) rfl rfl) ?_
  refine e_list ?_; (repeat (first | (with_reducible first | refine e_then ?_ | refine e_block ?_ | refine e_then_ret ?_ | refine e_block_ret ?_ | refine e_then_exit ?_ | refine e_block_here ?_ | refine e_then_panic ?_ | refine e_block_panic ?_) | refine e_block_on rfl ?_))
  refine wp_seq ?_
  -- R1
  refine c_region ?_
  refine L1 rfl rfl H (y_move (v := (.pointer _)) rfl rfl) ?_
  refine L1 rfl rfl H (y_nilCheck rfl rfl) ?_
  refine L1 rfl rfl H (y_fieldAddr 72 rfl rfl Try.underlying182 rfl Try.sizeOf86 rfl) ?_
  refine L1 rfl rfl H (y_load (v := .int .u64 (tot : Nat)) rfl rfl Try.isAgg86 (cell_blk (k := 0) rfl (markC_tot (restC_length (by omega))))) ?_
  refine L1 rfl rfl H (y_move (v := (.slice _ _ _)) rfl rfl) ?_
  refine L1 rfl rfl H (y_len_slice rfl rfl Try.underlying22) ?_
  refine L1 rfl rfl H (y_conv rfl rfl Try.underlying3 Try.underlying86 (by first | exact wr_u64 (by omega) (by omega) | rfl)) ?_
  refine L1 rfl rfl H (y_add (r := (tt : Nat)) rfl rfl rfl (by rw [wr_u64 (by omega) (by omega)]; omega)) ?_
  refine L1 rfl rfl H (y_nilCheck rfl rfl) ?_
  refine L1 rfl rfl H (y_fieldAddr 72 rfl rfl Try.underlying182 rfl Try.sizeOf86 rfl) ?_
  refine Lset 0 72 rfl rfl rfl rfl (v := .int .u64 (tt : Nat)) rfl H rfl rfl Try.sizeOf86 rfl rfl (by rw [markC_length (restC_length (by omega))]; omega) ?_; intro w H
  replace H : Heap w0 (Ent.blk m 182 ((markC s0 (restC buf) tot).set 72 (.int .u64 (tt : Nat))) :: R) w := H
  rw [markC_setTot (restC_length (by omega))] at H
  refine e_list ?_; (repeat (first | (with_reducible first | refine e_then ?_ | refine e_block ?_ | refine e_then_ret ?_ | refine e_block_ret ?_ | refine e_then_exit ?_ | refine e_block_here ?_ | refine e_then_panic ?_ | refine e_block_panic ?_) | refine e_block_on rfl ?_))
  refine wp_block ?_   -- block 0
  refine c_loop (ι := S8 × By × By × Option Addr × Nat × Nat) (fun (s, u, rem, A, c, n) f w => (∃ gx, f = ov [(0, .pointer (some ⟨m, 0, none⟩)), (1, .slice A n c), (4, .int .i64 (u.length : Nat))] gx) ∧ Heap w0 (Ent.blk m 182 (markC s (restC u) tt) :: R) w ∧ u.length < 64 ∧ n = rem.length ∧ rem.length ≤ bs.length ∧ rem.length ≤ c ∧ absorb s (u ++ rem) = absorb s0 (buf ++ bs) ∧ (∀ s r t w', Heap w0 (Ent.blk m 182 (markC s r t) :: R) w' → Rd w' A (rem.map bv))) (fun (s, u, rem, A, c, n) => rem.length) (s0, buf, bs, A, c, bs.length) ?_ ?_
  · exact ⟨ov_ex _ ⟨rfl, rfl, rfl, trivial⟩, H, by omega, rfl, Nat.le_refl _, hc, rfl, hR⟩
  rintro ⟨s, u, rem, A, c, n⟩ f w ⟨⟨gg, rfl⟩, H, hu, hn, hrb, hrc, habs, hR⟩
  refine wp_seq ?_
  refine wp_seq ?_
  -- R2
  refine c_region ?_
  refine L1 rfl rfl H (y_move (v := (.slice _ _ _)) rfl rfl) ?_
  refine L1 rfl rfl H (y_len_slice rfl rfl Try.underlying22) ?_
  refine L1 rfl rfl H (y_gtr rfl rfl rfl) ?_
  refine e_list ?_; (repeat (first | (with_reducible first | refine e_then ?_ | refine e_block ?_ | refine e_then_ret ?_ | refine e_block_ret ?_ | refine e_then_exit ?_ | refine e_block_here ?_ | refine e_then_panic ?_ | refine e_block_panic ?_) | refine e_block_on rfl ?_))
  refine c_if rfl (fun h0 => ?_) (fun h0 => ?_)   -- if 0
  · skip
    have h0 : 0 < rem.length := by omega
    refine wp_skip ?_; (repeat (first | (with_reducible first | refine e_then ?_ | refine e_block ?_ | refine e_then_ret ?_ | refine e_block_ret ?_ | refine e_then_exit ?_ | refine e_block_here ?_ | refine e_then_panic ?_ | refine e_block_panic ?_) | refine e_block_on rfl ?_))
    refine wp_block ?_   -- block 1
    refine wp_seq ?_
    -- R3
    refine c_region ?_
    refine L1 rfl rfl H (y_move (v := (.pointer _)) rfl rfl) ?_
    refine L1 rfl rfl H (y_nilCheck rfl rfl) ?_
    refine L1 rfl rfl H (y_fieldAddr 8 rfl rfl Try.underlying182 rfl Try.sizeOf180 rfl) ?_
    refine L1 rfl rfl H (y_move (v := (.int .i64 _)) rfl rfl) ?_
    refine L1 rfl rfl H (y_slice_arr_in u.length rfl rfl rfl Try.underlying180 Try.sizeOf5 (by omega)) ?_
    refine L1 rfl rfl H (y_move (v := (.slice _ _ _)) rfl rfl) ?_
    refine Lcopy 0 rfl rfl rfl rfl rfl H rfl Try.underlying22 Try.sizeOf5 (src := rem.map bv) (hR _ _ _ _ H) (by rw [List.length_map]; exact hn.symm) (Wire.bv_one rem) (by rw [markC_length (restC_length (by omega))]; omega) ?_
    intro w H
    replace H : Heap w0 (Ent.blk m 182 ((markC s (restC u) tt).take (0 + 8 + u.length * 1) ++ (rem.map bv).take (min n (64 - u.length)) ++ (markC s (restC u) tt).drop (0 + 8 + u.length * 1 + min n (64 - u.length))) :: R) w := H
    rw [mark_fill (by omega) (by omega) (by omega)] at H
    have hkl : (u ++ rem.take (min n (64 - u.length))).length = u.length + (min n (64 - u.length)) := by rw [List.length_append, List.length_take]; omega
    have hrl : (rem.drop (min n (64 - u.length))).length = rem.length - (min n (64 - u.length)) := by rw [List.length_drop]
    refine L1 rfl rfl H (y_assign (v := (.int .i64 _)) rfl rfl) ?_
    refine e_list ?_; (repeat (first | (with_reducible first | refine e_then ?_ | refine e_block ?_ | refine e_then_ret ?_ | refine e_block_ret ?_ | refine e_then_exit ?_ | refine e_block_here ?_ | refine e_then_panic ?_ | refine e_block_panic ?_) | refine e_block_on rfl ?_))
    refine wp_seq ?_
    -- R4
    refine c_region ?_
    refine L1 rfl rfl H (y_move (v := (.slice _ _ _)) rfl rfl) ?_
    refine L1 rfl rfl H (y_move (v := (.int .i64 _)) rfl rfl) ?_
    refine L1 rfl rfl H (y_slice_l rfl rfl rfl Try.underlying22 Try.sizeOf5 (by omega) (by omega)) ?_
    refine L1 rfl rfl H (y_assign (v := (.slice _ _ _)) rfl rfl) ?_
    refine e_list ?_; (repeat (first | (with_reducible first | refine e_then ?_ | refine e_block ?_ | refine e_then_ret ?_ | refine e_block_ret ?_ | refine e_then_exit ?_ | refine e_block_here ?_ | refine e_then_panic ?_ | refine e_block_panic ?_) | refine e_block_on rfl ?_))
    refine wp_seq ?_
    -- R5
    refine c_region ?_
    refine L1 rfl rfl H (y_move (v := (.int .i64 _)) rfl rfl) ?_
    refine L1 rfl rfl H (y_move (v := (.int .i64 _)) rfl rfl) ?_
    refine L1 rfl rfl H (y_add (r := ((u ++ rem.take (min n (64 - u.length))).length : Nat)) rfl rfl rfl (by rw [wr_i64 (by omega) (by omega)]; omega)) ?_
    refine L1 rfl rfl H (y_assign (v := (.int .i64 _)) rfl rfl) ?_
    refine e_list ?_; (repeat (first | (with_reducible first | refine e_then ?_ | refine e_block ?_ | refine e_then_ret ?_ | refine e_block_ret ?_ | refine e_then_exit ?_ | refine e_block_here ?_ | refine e_then_panic ?_ | refine e_block_panic ?_) | refine e_block_on rfl ?_))
    refine wp_seq ?_
    -- R6
    refine c_region ?_
    refine L1 rfl rfl H (y_move (v := (.int .i64 _)) rfl rfl) ?_
    refine L1 rfl rfl H (y_eql rfl rfl rfl) ?_
    refine e_list ?_; (repeat (first | (with_reducible first | refine e_then ?_ | refine e_block ?_ | refine e_then_ret ?_ | refine e_block_ret ?_ | refine e_then_exit ?_ | refine e_block_here ?_ | refine e_then_panic ?_ | refine e_block_panic ?_) | refine e_block_on rfl ?_))
    refine c_if rfl (fun h1 => ?_) (fun h1 => ?_)   -- if 1
    · skip
      have h64 : (u ++ rem.take (min n (64 - u.length))).length = 64 := by omega
      rw [restC_full h64] at H
      refine wp_seq ?_
      -- R7 draws
      refine c_mixE [true, true, true, true, true, true, true, true, true, false, false, false, false] (Heap w0 _) (by kernel_rfl) (by kernel_rfl) (by repeat (first | exact pk_body | refine pk_then ?_ | refine pk_block ?_)) H (fun w H => ⟨H, ?_⟩)
      refine N1 rfl rfl (y_move (v := (.pointer _)) rfl rfl) ?_
      refine N1 rfl rfl (y_move (v := (.pointer _)) rfl rfl) ?_
      refine N1 rfl rfl (y_nilCheck rfl rfl) ?_
      refine N1 rfl rfl (y_fieldAddr 0 rfl rfl Try.underlying182 rfl Try.sizeOf178 rfl) ?_
      refine N1 rfl rfl (y_loadAgg (vs := s.list.map wv) rfl rfl Try.isAgg178 Try.sizeOf178 (cells_blk (k := 0) (off := 0) rfl markC_words)) ?_
      refine N1 rfl rfl (y_move (v := (.pointer _)) rfl rfl) ?_
      refine N1 rfl rfl (y_nilCheck rfl rfl) ?_
      refine N1 rfl rfl (y_fieldAddr 8 rfl rfl Try.underlying182 rfl Try.sizeOf180 rfl) ?_
      refine N1 rfl rfl (y_loadAgg (vs := (u ++ rem.take (min n (64 - u.length))).map bv) rfl rfl Try.isAgg180 (by rw [List.length_map, h64]; exact Try.sizeOf180) (cells_blk (k := 0) (off := 8) rfl (markC_rest (by rw [List.length_map, h64])))) ?_
      refine N2 ?_
      refine Lfn rfl rfl rfl (xa := [sv s, .agg ((u ++ rem.take (min n (64 - u.length))).map bv).toArray]) rfl Try.call151 ?_   -- (portage/digest.state).behind
      refine (behind_calls h64).mono ?_
      rintro e w' ⟨rfl, K⟩
      replace H := H.app0 K
      clear K
      refine ⟨_, rfl, ?_⟩
      refine e_list (e_then ⟨fun _ => H, ?_⟩)
      refine N2 ?_
      refine L1 rfl rfl H (y_nilCheck rfl rfl) ?_
      refine e_list (e_then ⟨fun _ => H, ?_⟩)
      refine N2 ?_
      refine L1 rfl rfl H (y_fieldAddr 0 rfl rfl Try.underlying182 rfl Try.sizeOf178 rfl) ?_
      refine e_list (e_then ⟨fun _ => H, ?_⟩)
      refine N2 ?_
      refine Lstore 0 rfl rfl rfl rfl (v := sv (behind s (u ++ rem.take (min n (64 - u.length))))) rfl H rfl (vs := (behind s (u ++ rem.take (min n (64 - u.length)))).list.map wv) rfl Try.sizeOf178 rfl (by rw [markC_length (by rw [List.length_map, h64])]; rfl) ?_; intro w H
      replace H : Heap w0 (Ent.blk m 182 ((markC s ((u ++ rem.take (min n (64 - u.length))).map bv) tt).take 0 ++ (behind s (u ++ rem.take (min n (64 - u.length)))).list.map wv ++ (markC s ((u ++ rem.take (min n (64 - u.length))).map bv) tt).drop (0 + ((behind s (u ++ rem.take (min n (64 - u.length)))).list.map wv).length)) :: R) w := H
      rw [markC_setWords] at H
      refine e_list (e_then ⟨fun h => absurd rfl h, ?_⟩)
      refine Nend ?_; (repeat (first | (with_reducible first | refine e_then ?_ | refine e_block ?_ | refine e_then_ret ?_ | refine e_block_ret ?_ | refine e_then_exit ?_ | refine e_block_here ?_ | refine e_then_panic ?_ | refine e_block_panic ?_) | refine e_block_on rfl ?_))
      refine wp_seq ?_
      -- R8
      refine c_region ?_
      refine L1 rfl rfl H (y_move (v := (.pointer _)) rfl rfl) ?_
      refine L1 rfl rfl H (y_build (v := .agg ((restC []).toArray)) rfl (vals := []) rfl (by intro w; simp [Instr.build, Instr.fill, go_sem] <;> rfl)) ?_
      refine L1 rfl rfl H (y_nilCheck rfl rfl) ?_
      refine L1 rfl rfl H (y_fieldAddr 8 rfl rfl Try.underlying182 rfl Try.sizeOf180 rfl) ?_
      refine Lstore 0 rfl rfl rfl rfl (v := .agg (restC []).toArray) rfl H rfl (vs := restC []) rfl Try.sizeOf180 rfl (by rw [markC_length (by rw [List.length_map, h64])]; rfl) ?_; intro w H
      replace H : Heap w0 (Ent.blk m 182 ((markC (behind s (u ++ rem.take (min n (64 - u.length)))) ((u ++ rem.take (min n (64 - u.length))).map bv) tt).take 8 ++ restC [] ++ (markC (behind s (u ++ rem.take (min n (64 - u.length)))) ((u ++ rem.take (min n (64 - u.length))).map bv) tt).drop (8 + (restC []).length)) :: R) w := H
      rw [markC_setRest (by rw [List.length_map, h64]) rfl] at H
      refine e_list ?_; (repeat (first | (with_reducible first | refine e_then ?_ | refine e_block ?_ | refine e_then_ret ?_ | refine e_block_ret ?_ | refine e_then_exit ?_ | refine e_block_here ?_ | refine e_then_panic ?_ | refine e_block_panic ?_) | refine e_block_on rfl ?_))
      -- R9
      refine c_region ?_
      refine L1 rfl rfl H (y_assign (v := (.int .i64 _)) rfl rfl) ?_
      refine e_list ?_; (repeat (first | (with_reducible first | refine e_then ?_ | refine e_block ?_ | refine e_then_ret ?_ | refine e_block_ret ?_ | refine e_then_exit ?_ | refine e_block_here ?_ | refine e_then_panic ?_ | refine e_block_panic ?_) | refine e_block_on rfl ?_))
      exact ⟨(behind s (u ++ rem.take (min n (64 - u.length))), [], rem.drop (min n (64 - u.length)), subA A c (min n (64 - u.length)) 1, c - (min n (64 - u.length)), n - (min n (64 - u.length))), _, rfl, ⟨ov_ex _ ⟨rfl, rfl, rfl, trivial⟩, H, ⟨by decide, by omega, by omega, by omega, by rw [List.nil_append, ← absorb_block s h64, List.append_assoc, List.take_append_drop]; exact habs, fun s r t w' K => by have := (hR s r t w' K).sub (cap := c) (l := (min n (64 - u.length))) (size := 1) (by rw [List.length_map]; omega); rw [Nat.mul_one, ← List.map_drop] at this; exact this⟩⟩, by show (rem.drop (min n (64 - u.length))).length < rem.length; omega⟩
    · skip
      have h64 : ¬ (u ++ rem.take (min n (64 - u.length))).length = 64 := by omega
      refine wp_skip ?_; (repeat (first | (with_reducible first | refine e_then ?_ | refine e_block ?_ | refine e_then_ret ?_ | refine e_block_ret ?_ | refine e_then_exit ?_ | refine e_block_here ?_ | refine e_then_panic ?_ | refine e_block_panic ?_) | refine e_block_on rfl ?_))
      exact ⟨(s, (u ++ rem.take (min n (64 - u.length))), rem.drop (min n (64 - u.length)), subA A c (min n (64 - u.length)) 1, c - (min n (64 - u.length)), n - (min n (64 - u.length))), _, rfl, ⟨ov_ex _ ⟨rfl, rfl, rfl, trivial⟩, H, ⟨by omega, by omega, by omega, by omega, by rw [List.append_assoc, List.take_append_drop]; exact habs, fun s r t w' K => by have := (hR s r t w' K).sub (cap := c) (l := (min n (64 - u.length))) (size := 1) (by rw [List.length_map]; omega); rw [Nat.mul_one, ← List.map_drop] at this; exact this⟩⟩, by show (rem.drop (min n (64 - u.length))).length < rem.length; omega⟩
  · skip
    have hz : rem = [] := List.length_eq_zero_iff.1 (by omega)
    subst hz
    rw [List.append_nil, absorb_lt s hu] at habs
    refine wp_exit ?_; (repeat (first | (with_reducible first | refine e_then ?_ | refine e_block ?_ | refine e_then_ret ?_ | refine e_block_ret ?_ | refine e_then_exit ?_ | refine e_block_here ?_ | refine e_then_panic ?_ | refine e_block_panic ?_) | refine e_block_on rfl ?_))
    refine r_0n rfl ?_
    rw [← habs, ← htt]
    exact ⟨rfl, H⟩
-- »write
end
end Go.Dig
