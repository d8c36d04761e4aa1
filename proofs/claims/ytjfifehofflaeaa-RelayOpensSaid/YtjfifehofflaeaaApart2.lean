/-
  The laws' own tools: lists of texts that lie apart.
-/
import Derived.Test.YtjfifehofflaeaaApart1
namespace Go.Ref
open Go.RowKit Go.Eng Go.Proofs Go.Relay
set_option linter.unusedSimpArgs false
set_option linter.unusedVariables false
attribute [local irreducible] wpList wpQuiet wpStill wpMix wpMixE

def markL (k i : Nat) : List UInt8 := [35, UInt8.ofNat k, UInt8.ofNat (k / 256), UInt8.ofNat i, UInt8.ofNat (i / 256)]
def mkT (k i : Nat) : Value := .string ⟨(markL k i).toArray⟩
theorem y_str_neqF {P : Program} {C : World → Prop} {o : Oper} {ρ : Operand → Value} {t t2 : TypeId} {x y : Operand} {a b : ByteArray} (ho : o.op = .binOp .neq t x y t2) (hx : ρ x = .string a) (hy : ρ y = .string a) : Gives P C o ρ (.bool false) := by
  have := y_str_neq (P := P) (C := C) ho hx hy
  rw [decide_eq_false (by simp)] at this
  exact this
section
variable {w0 w : World} {R : List Ent} {gb m : Nat} {A : Nat → Option Addr} {n c : Nat → Nat} {xs0 : Nat → List Value}
-- «markText»
theorem shr8 (x : Nat) : (x : Int).fdiv (2 ^ min (8 : Int).toNat IntKind.i64.bits) = ((x / 256 : Nat) : Int) := by
  have e : min (8 : Int).toNat IntKind.i64.bits = 8 := rfl
  rw [e, show ((2 : Int) ^ 8) = ((256 : Nat) : Int) from rfl, Int.fdiv_eq_ediv_of_nonneg _ (Int.natCast_nonneg _), Int.natCast_ediv]
theorem markText_calls {k i : Nat} : Calls Try.prog 46 #[.int .i64 (k : Nat), .int .i64 (i : Nat)] w0 fun e w' => e = .returned (mkT k i) ∧ Heap w0 [] w' := by
  refine c_enter (xa := [.int .i64 (k : Nat), .int .i64 (i : Nat)]) 17 Try.func46 rfl rfl rfl ?_
  have H := Heap.init w0
  refine wp_seq ?_
  -- R0
  refine c_region ?_
  refine L1 rfl rfl H (y_assign (v := (.string _)) rfl rfl) ?_
  refine e_list ?_; (repeat (first | (with_reducible first | refine e_then ?_ | refine e_block ?_ | refine e_then_ret ?_ | refine e_block_ret ?_ | refine e_then_exit ?_ | refine e_block_here ?_ | refine e_then_panic ?_ | refine e_block_panic ?_) | refine e_block_on rfl ?_))
  refine wp_seq ?_
  -- R1
  refine c_region ?_
  refine L1 rfl rfl H (y_move (v := (.int .i64 _)) rfl rfl) ?_
  refine L1 rfl rfl H (y_conv (r := ((UInt8.ofNat (k)).toNat : Nat)) rfl rfl Try.underlying3 Try.underlying5 (Dig.u8_ofNat _)) ?_
  refine L1 rfl rfl H (y_move (v := (.int .i64 _)) rfl rfl) ?_
  refine L1 rfl rfl H (y_shr (r := ((k / 256 : Nat) : Int)) rfl rfl rfl (by omega) (by show _ = _; exact shr8 _)) ?_
  refine L1 rfl rfl H (y_conv (r := ((UInt8.ofNat (k / 256)).toNat : Nat)) rfl rfl Try.underlying3 Try.underlying5 (Dig.u8_ofNat _)) ?_
  refine L1 rfl rfl H (y_move (v := (.int .i64 _)) rfl rfl) ?_
  refine L1 rfl rfl H (y_conv (r := ((UInt8.ofNat (i)).toNat : Nat)) rfl rfl Try.underlying3 Try.underlying5 (Dig.u8_ofNat _)) ?_
  refine L1 rfl rfl H (y_move (v := (.int .i64 _)) rfl rfl) ?_
  refine L1 rfl rfl H (y_shr (r := ((i / 256 : Nat) : Int)) rfl rfl rfl (by omega) (by show _ = _; exact shr8 _)) ?_
  refine L1 rfl rfl H (y_conv (r := ((UInt8.ofNat (i / 256)).toNat : Nat)) rfl rfl Try.underlying3 Try.underlying5 (Dig.u8_ofNat _)) ?_
  refine LbuildSlice (cs := (markL k i).map bvv) (e := 5) rfl rfl rfl H (fun w => by simp [Instr.buildSlice, Instr.fill, go_sem] <;> rfl) ?_; intro b15 w H
  refine L1 rfl rfl H (y_conv_slice_string (n := 5) (markL k i) rfl rfl Try.underlying22 Try.underlying9 Try.underlying5 rfl (fun w H => rd_blk H 0 rfl)) ?_
  refine L1 rfl rfl H (y_assign (v := (.string _)) rfl rfl) ?_
  refine e_list ?_; (repeat (first | (with_reducible first | refine e_then ?_ | refine e_block ?_ | refine e_then_ret ?_ | refine e_block_ret ?_ | refine e_then_exit ?_ | refine e_block_here ?_ | refine e_then_panic ?_ | refine e_block_panic ?_) | refine e_block_on rfl ?_))
  refine wp_ret ?_; (repeat (first | (with_reducible first | refine e_then ?_ | refine e_block ?_ | refine e_then_ret ?_ | refine e_block_ret ?_ | refine e_then_exit ?_ | refine e_block_here ?_ | refine e_then_panic ?_ | refine e_block_panic ?_) | refine e_block_on rfl ?_))
  refine r_1 (v := (.string _)) rfl rfl ?_
  exact ⟨rfl, H.clear⟩
-- »markText
-- «apart»
theorem apartTexts_calls (hm : m ≤ 1000) (hn : ∀ j, j < m → n j ≤ 1048576) (H : Heap w0 (Ent.blk gb 24 ((List.range m).map (hdV A n c)) :: ((List.range m).map (rowF w0 9 A n c xs0) ++ R)) w) :
    Calls Try.prog 16 #[.slice (some ⟨gb, 0, none⟩) m m] w fun e w' => e = .returned (.bool true) ∧ Heap w0 R w' := by
  refine c_enter (xa := [.slice (some ⟨gb, 0, none⟩) m m]) 113 Try.func16 rfl rfl rfl ?_
  have hl : ∀ j, j < m → (xs0 j).length = n j := fun j hj => by have h := (H.get (j + 1) (at1 hj)).1; rw [Nat.mul_one] at h; exact h
  replace H : Heap w0 (Ent.blk gb 24 ((List.range m).map (hdV A n c)) :: ((List.range m).map (rowF w0 9 A n c (cont mkT n xs0 0 0)) ++ R)) w := by rw [cont_zero]; exact H
  refine wp_seq ?_
  -- R0
  refine c_region ?_
  refine L1 rfl rfl H (y_assign (v := (.bool _)) rfl rfl) ?_
  refine e_list ?_; (repeat (first | (with_reducible first | refine e_then ?_ | refine e_block ?_ | refine e_then_ret ?_ | refine e_block_ret ?_ | refine e_then_exit ?_ | refine e_block_here ?_ | refine e_then_panic ?_ | refine e_block_panic ?_) | refine e_block_on rfl ?_))
  refine wp_seq ?_
  refine wp_seq ?_
  -- R1
  refine c_region ?_
  refine L1 rfl rfl H (y_assign (v := (.int .i64 _)) rfl rfl) ?_
  refine e_list ?_; (repeat (first | (with_reducible first | refine e_then ?_ | refine e_block ?_ | refine e_then_ret ?_ | refine e_block_ret ?_ | refine e_then_exit ?_ | refine e_block_here ?_ | refine e_then_panic ?_ | refine e_block_panic ?_) | refine e_block_on rfl ?_))
  refine wp_block ?_   -- block 0
  refine c_loop (ι := Nat) (fun k f w => (∃ gx, f = ov [(0, .slice (some ⟨gb, 0, none⟩) m m), (3, .int .i64 (k : Nat))] gx) ∧ Heap w0 (Ent.blk gb 24 ((List.range m).map (hdV A n c)) :: ((List.range m).map (rowF w0 9 A n c (cont mkT n xs0 k 0)) ++ R)) w ∧ k ≤ m) (fun k => m - k) 0 ?_ ?_
  · exact ⟨ov_ex _ ⟨rfl, rfl, trivial⟩, H, Nat.zero_le _⟩
  rintro k f w ⟨⟨gg, rfl⟩, H, hkle⟩
  refine wp_seq ?_
  refine wp_seq ?_
  -- R2
  refine c_region ?_
  refine L1 rfl rfl H (y_move (v := (.int .i64 _)) rfl rfl) ?_
  refine L1 rfl rfl H (y_move (v := (.slice _ _ _)) rfl rfl) ?_
  refine L1 rfl rfl H (y_len_slice rfl rfl Try.underlying31) ?_
  refine L1 rfl rfl H (y_lss rfl rfl rfl) ?_
  refine e_list ?_; (repeat (first | (with_reducible first | refine e_then ?_ | refine e_block ?_ | refine e_then_ret ?_ | refine e_block_ret ?_ | refine e_then_exit ?_ | refine e_block_here ?_ | refine e_then_panic ?_ | refine e_block_panic ?_) | refine e_block_on rfl ?_))
  refine c_if rfl (fun h0 => ?_) (fun h0 => ?_)   -- if 0
  · skip
    have hkm : k < m := by omega
    have hnk := hn k hkm
    refine wp_skip ?_; (repeat (first | (with_reducible first | refine e_then ?_ | refine e_block ?_ | refine e_then_ret ?_ | refine e_block_ret ?_ | refine e_then_exit ?_ | refine e_block_here ?_ | refine e_then_panic ?_ | refine e_block_panic ?_) | refine e_block_on rfl ?_))
    refine wp_seq ?_
    refine wp_block ?_   -- block 1
    refine wp_seq ?_
    -- R4
    refine c_region ?_
    refine L1 rfl rfl H (y_assign (v := (.int .i64 _)) rfl rfl) ?_
    refine e_list ?_; (repeat (first | (with_reducible first | refine e_then ?_ | refine e_block ?_ | refine e_then_ret ?_ | refine e_block_ret ?_ | refine e_then_exit ?_ | refine e_block_here ?_ | refine e_then_panic ?_ | refine e_block_panic ?_) | refine e_block_on rfl ?_))
    refine wp_block ?_   -- block 2
    refine c_loop (ι := Nat) (fun i f w => (∃ gx, f = ov [(0, .slice (some ⟨gb, 0, none⟩) m m), (3, .int .i64 (k : Nat)), (4, .int .i64 (i : Nat))] gx) ∧ Heap w0 (Ent.blk gb 24 ((List.range m).map (hdV A n c)) :: ((List.range m).map (rowF w0 9 A n c (cont mkT n xs0 k i)) ++ R)) w ∧ i ≤ n k) (fun i => n k - i) 0 ?_ ?_
    · exact ⟨ov_ex _ ⟨rfl, rfl, rfl, trivial⟩, H, Nat.zero_le _⟩
    rintro i f w ⟨⟨gg, rfl⟩, H, hile⟩
    refine wp_seq ?_
    refine wp_seq ?_
    -- R5
    refine c_region ?_
    refine L1 rfl rfl H (y_move (v := (.int .i64 _)) rfl rfl) ?_
    refine L1 rfl rfl H (y_move (v := (.slice _ _ _)) rfl rfl) ?_
    refine L1 rfl rfl H (y_move (v := (.int .i64 _)) rfl rfl) ?_
    refine L1 rfl rfl H (y_indexSl rfl rfl rfl Try.underlying31 Try.sizeOf24 (by omega) (by omega)) ?_
    refine L1 rfl rfl H (y_load (v := hdV A n c k) rfl rfl Try.isAgg24 (cell_blkA (k := 0) rfl (Nat.mul_one _) (hd_get hkm))) ?_
    refine L1 rfl rfl H (y_len_sliceV rfl rfl rfl Try.underlying24) ?_
    refine L1 rfl rfl H (y_lss rfl rfl rfl) ?_
    refine e_list ?_; (repeat (first | (with_reducible first | refine e_then ?_ | refine e_block ?_ | refine e_then_ret ?_ | refine e_block_ret ?_ | refine e_then_exit ?_ | refine e_block_here ?_ | refine e_then_panic ?_ | refine e_block_panic ?_) | refine e_block_on rfl ?_))
    refine c_if rfl (fun h1 => ?_) (fun h1 => ?_)   -- if 1
    · skip
      refine wp_skip ?_; (repeat (first | (with_reducible first | refine e_then ?_ | refine e_block ?_ | refine e_then_ret ?_ | refine e_block_ret ?_ | refine e_then_exit ?_ | refine e_block_here ?_ | refine e_then_panic ?_ | refine e_block_panic ?_) | refine e_block_on rfl ?_))
      refine wp_seq ?_
      refine wp_block ?_   -- block 3
      -- R7 draws
      refine c_mixE [true, true, true, true, true, true, true, false, true, false] (Heap w0 _) (by kernel_rfl) (by kernel_rfl) (by repeat (first | exact pk_body | refine pk_then ?_ | refine pk_block ?_)) H (fun w H => ⟨H, ?_⟩)
      refine N1 rfl rfl (y_move (v := (.slice _ _ _)) rfl rfl) ?_
      refine N1 rfl rfl (y_move (v := (.int .i64 _)) rfl rfl) ?_
      refine N1 rfl rfl (y_indexSl rfl rfl rfl Try.underlying31 Try.sizeOf24 (by omega) (by omega)) ?_
      refine N1 rfl rfl (y_load (v := hdV A n c k) rfl rfl Try.isAgg24 (cell_blkA (k := 0) rfl (Nat.mul_one _) (hd_get hkm))) ?_
      refine N1 rfl rfl (y_move (v := (.int .i64 _)) rfl rfl) ?_
      refine N1 rfl rfl (y_move (v := (.int .i64 _)) rfl rfl) ?_
      refine N1 rfl rfl (y_move (v := (.int .i64 _)) rfl rfl) ?_
      refine N2 ?_
      refine Lfn rfl rfl rfl (xa := [(.int .i64 _), (.int .i64 _)]) rfl Try.call46 ?_   -- portage/portagekit.markText
      refine (markText_calls (k := k) (i := i)).mono ?_
      rintro e w' ⟨rfl, K⟩
      replace H := H.app0 K
      clear K
      refine ⟨_, rfl, ?_⟩
      refine e_list (e_then ⟨fun _ => H, ?_⟩)
      obtain ⟨a, ha, _⟩ := (rd_row (H.get (k + 1) (at1 hkm))).some (j := i) (by rw [(H.get (k + 1) (at1 hkm)).1]; omega)
      refine N1 rfl rfl (y_indexSlA ha rfl rfl rfl Try.underlying24 Try.sizeOf9 (by omega) (by omega)) ?_
      refine N2 ?_
      refine LstoreRow (k + 1) i ha (Nat.mul_one _) rfl rfl rfl rfl rfl H (at1 hkm) rfl Try.sizeOf9 rfl (by omega) ?_; intro w H
      replace H := H.mark hkm (hl k hkm) (by omega)
      refine e_list (e_then ⟨fun h => absurd rfl h, ?_⟩)
      refine Nend ?_; (repeat (first | (with_reducible first | refine e_then ?_ | refine e_block ?_ | refine e_then_ret ?_ | refine e_block_ret ?_ | refine e_then_exit ?_ | refine e_block_here ?_ | refine e_then_panic ?_ | refine e_block_panic ?_) | refine e_block_on rfl ?_))
      -- R6
      refine c_region ?_
      refine L1 rfl rfl H (y_move (v := (.int .i64 _)) rfl rfl) ?_
      refine L1 rfl rfl H (y_add (r := ((i + 1 : Nat) : Int)) rfl rfl rfl (by rw [wr_i64 (by omega) (by omega)]; omega)) ?_
      refine L1 rfl rfl H (y_assign (v := (.int .i64 _)) rfl rfl) ?_
      refine e_list ?_; (repeat (first | (with_reducible first | refine e_then ?_ | refine e_block ?_ | refine e_then_ret ?_ | refine e_block_ret ?_ | refine e_then_exit ?_ | refine e_block_here ?_ | refine e_then_panic ?_ | refine e_block_panic ?_) | refine e_block_on rfl ?_))
      exact ⟨i + 1, _, rfl, ⟨ov_ex _ ⟨rfl, rfl, rfl, trivial⟩, H, by omega⟩, by omega⟩
    · skip
      have hin : i = n k := by omega
      subst hin
      rw [cont_next (hl k hkm)] at H
      refine wp_exit ?_; (repeat (first | (with_reducible first | refine e_then ?_ | refine e_block ?_ | refine e_then_ret ?_ | refine e_block_ret ?_ | refine e_then_exit ?_ | refine e_block_here ?_ | refine e_then_panic ?_ | refine e_block_panic ?_) | refine e_block_on rfl ?_))
      -- R3
      refine c_region ?_
      refine L1 rfl rfl H (y_move (v := (.int .i64 _)) rfl rfl) ?_
      refine L1 rfl rfl H (y_add (r := ((k + 1 : Nat) : Int)) rfl rfl rfl (by rw [wr_i64 (by omega) (by omega)]; omega)) ?_
      refine L1 rfl rfl H (y_assign (v := (.int .i64 _)) rfl rfl) ?_
      refine e_list ?_; (repeat (first | (with_reducible first | refine e_then ?_ | refine e_block ?_ | refine e_then_ret ?_ | refine e_block_ret ?_ | refine e_then_exit ?_ | refine e_block_here ?_ | refine e_then_panic ?_ | refine e_block_panic ?_) | refine e_block_on rfl ?_))
      exact ⟨k + 1, _, rfl, ⟨ov_ex _ ⟨rfl, rfl, trivial⟩, H, by omega⟩, by omega⟩
  · skip
    have hkm : m = k := by omega
    subst hkm
    rw [map_range_congr (F := rowF w0 9 A n c (cont mkT n xs0 m 0)) (G := rowF w0 9 A n c (fun j => mks mkT j (n j))) (fun j hj => by unfold rowF; rw [cont_all hj])] at H
    replace H := (rows_to_row2 H).row0 24 1
    refine wp_exit ?_; (repeat (first | (with_reducible first | refine e_then ?_ | refine e_block ?_ | refine e_then_ret ?_ | refine e_block_ret ?_ | refine e_then_exit ?_ | refine e_block_here ?_ | refine e_then_panic ?_ | refine e_block_panic ?_) | refine e_block_on rfl ?_))
    refine wp_seq ?_
    -- R8
    refine c_region ?_
    refine L1 rfl rfl H (y_assign (v := (.slice _ _ _)) rfl rfl) ?_
    refine e_list ?_; (repeat (first | (with_reducible first | refine e_then ?_ | refine e_block ?_ | refine e_then_ret ?_ | refine e_block_ret ?_ | refine e_then_exit ?_ | refine e_block_here ?_ | refine e_then_panic ?_ | refine e_block_panic ?_) | refine e_block_on rfl ?_))
    refine wp_seq ?_
    refine wp_seq ?_
    -- R9
    refine c_region ?_
    refine L1 rfl rfl H (y_assign (v := (.int .i64 _)) rfl rfl) ?_
    refine e_list ?_; (repeat (first | (with_reducible first | refine e_then ?_ | refine e_block ?_ | refine e_then_ret ?_ | refine e_block_ret ?_ | refine e_then_exit ?_ | refine e_block_here ?_ | refine e_then_panic ?_ | refine e_block_panic ?_) | refine e_block_on rfl ?_))
    refine wp_block ?_   -- block 4
    refine c_loop (ι := Nat × (Nat → Value) × Option Addr × Nat) (fun (k, g, A5, c5) f w => (∃ gx, f = ov [(0, .slice (some ⟨gb, 0, none⟩) m m), (5, .slice A5 k c5), (6, .int .i64 (k : Nat))] gx) ∧ Heap w0 (Ent.row w0.heap.size 24 1 (.slice A5 k c5) k ((List.range k).map g) :: Ent.blk gb 24 ((List.range m).map (hdV A n c)) :: ((List.range m).map (row2F w0 9 A n mkT g (cntF n k 0)) ++ R)) w ∧ k ≤ m ∧ ∀ j, k ≤ j → g j = hdV A n c j) (fun (k, g, A5, c5) => m - k) (0, hdV A n c, none, 0) ?_ ?_
    · exact ⟨ov_ex _ ⟨rfl, rfl, rfl, trivial⟩, (by show Heap w0 (_ :: _ :: ((List.range m).map (row2F w0 _ A n _ (hdV A n c) (cntF n 0 0)) ++ R)) _; rw [cntF_zero]; exact H), Nat.zero_le _, fun _ _ => rfl⟩
    rintro ⟨k, g, A5, c5⟩ f w ⟨⟨gg, rfl⟩, H, hkle, hgj⟩
    refine wp_seq ?_
    refine wp_seq ?_
    -- R10
    refine c_region ?_
    refine L1 rfl rfl H (y_move (v := (.int .i64 _)) rfl rfl) ?_
    refine L1 rfl rfl H (y_move (v := (.slice _ _ _)) rfl rfl) ?_
    refine L1 rfl rfl H (y_len_slice rfl rfl Try.underlying31) ?_
    refine L1 rfl rfl H (y_lss rfl rfl rfl) ?_
    refine e_list ?_; (repeat (first | (with_reducible first | refine e_then ?_ | refine e_block ?_ | refine e_then_ret ?_ | refine e_block_ret ?_ | refine e_then_exit ?_ | refine e_block_here ?_ | refine e_then_panic ?_ | refine e_block_panic ?_) | refine e_block_on rfl ?_))
    refine c_if rfl (fun h2 => ?_) (fun h2 => ?_)   -- if 2
    · skip
      have hkm : k < m := by omega
      have hnk := hn k hkm
      refine wp_skip ?_; (repeat (first | (with_reducible first | refine e_then ?_ | refine e_block ?_ | refine e_then_ret ?_ | refine e_block_ret ?_ | refine e_then_exit ?_ | refine e_block_here ?_ | refine e_then_panic ?_ | refine e_block_panic ?_) | refine e_block_on rfl ?_))
      refine wp_seq ?_
      refine wp_block ?_   -- block 5
      refine wp_seq ?_
      -- R12
      refine c_region ?_
      refine L1 rfl rfl H (y_move (v := (.slice _ _ _)) rfl rfl) ?_
      refine L1 rfl rfl H (y_move (v := (.int .i64 _)) rfl rfl) ?_
      refine L1 rfl rfl H (y_indexSl rfl rfl rfl Try.underlying31 Try.sizeOf24 (by omega) (by omega)) ?_
      refine L1 rfl rfl H (y_load (v := hdV A n c k) rfl rfl Try.isAgg24 (cell_blkA (k := 1) rfl (Nat.mul_one _) (hd_get hkm))) ?_
      refine L1 rfl rfl H (y_assign (v := (.slice _ _ _)) rfl rfl) ?_
      refine e_list ?_; (repeat (first | (with_reducible first | refine e_then ?_ | refine e_block ?_ | refine e_then_ret ?_ | refine e_block_ret ?_ | refine e_then_exit ?_ | refine e_block_here ?_ | refine e_then_panic ?_ | refine e_block_panic ?_) | refine e_block_on rfl ?_))
      refine wp_seq ?_
      refine wp_seq ?_
      -- R13
      refine c_region ?_
      refine L1 rfl rfl H (y_assign (v := (.int .i64 _)) rfl rfl) ?_
      refine e_list ?_; (repeat (first | (with_reducible first | refine e_then ?_ | refine e_block ?_ | refine e_then_ret ?_ | refine e_block_ret ?_ | refine e_then_exit ?_ | refine e_block_here ?_ | refine e_then_panic ?_ | refine e_block_panic ?_) | refine e_block_on rfl ?_))
      refine wp_block ?_   -- block 6
      refine c_loop (ι := Nat × Option Addr × Nat) (fun (i, A1, c1) f w => (∃ gx, f = ov [(0, .slice (some ⟨gb, 0, none⟩) m m), (5, .slice A5 k c5), (6, .int .i64 (k : Nat)), (7, .slice A1 (n k + i) c1), (8, .int .i64 (i : Nat))] gx) ∧ Heap w0 (Ent.row w0.heap.size 24 1 (.slice A5 k c5) k ((List.range k).map g) :: Ent.blk gb 24 ((List.range m).map (hdV A n c)) :: ((List.range m).map (row2F w0 9 A n mkT (up g k (.slice A1 (n k + i) c1)) (cntF n k i)) ++ R)) w ∧ i ≤ 64) (fun (i, A1, c1) => 64 - i) (0, A k, c k) ?_ ?_
      · exact ⟨ov_ex _ ⟨rfl, rfl, rfl, rfl, rfl, trivial⟩, (by show Heap w0 (_ :: _ :: ((List.range m).map (row2F w0 _ A n _ (up g k (.slice (A k) (n k + 0) (c k))) (cntF n k 0)) ++ R)) _; rw [← up_self g k (.slice (A k) (n k + 0) (c k)) (hgj k (Nat.le_refl _))]; exact H), by omega⟩
      rintro ⟨i, A1, c1⟩ f w ⟨⟨gg, rfl⟩, H, hi64⟩
      refine wp_seq ?_
      refine wp_seq ?_
      -- R14
      refine c_region ?_
      refine L1 rfl rfl H (y_move (v := (.int .i64 _)) rfl rfl) ?_
      refine L1 rfl rfl H (y_lss rfl rfl rfl) ?_
      refine e_list ?_; (repeat (first | (with_reducible first | refine e_then ?_ | refine e_block ?_ | refine e_then_ret ?_ | refine e_block_ret ?_ | refine e_then_exit ?_ | refine e_block_here ?_ | refine e_then_panic ?_ | refine e_block_panic ?_) | refine e_block_on rfl ?_))
      refine c_if rfl (fun h3 => ?_) (fun h3 => ?_)   -- if 3
      · skip
        refine wp_skip ?_; (repeat (first | (with_reducible first | refine e_then ?_ | refine e_block ?_ | refine e_then_ret ?_ | refine e_block_ret ?_ | refine e_then_exit ?_ | refine e_block_here ?_ | refine e_then_panic ?_ | refine e_block_panic ?_) | refine e_block_on rfl ?_))
        refine wp_seq ?_
        refine wp_block ?_   -- block 7
        -- R16
        refine c_region ?_
        refine L1 rfl rfl H (y_move (v := (.slice _ _ _)) rfl rfl) ?_
        refine L1 rfl rfl H (y_move (v := (.int .i64 _)) rfl rfl) ?_
        refine L1 rfl rfl H (y_move (v := (.slice _ _ _)) rfl rfl) ?_
        refine L1 rfl rfl H (y_move (v := (.int .i64 _)) rfl rfl) ?_
        refine L1 rfl rfl H (y_indexSl rfl rfl rfl Try.underlying31 Try.sizeOf24 (by omega) (by omega)) ?_
        refine L1 rfl rfl H (y_load (v := hdV A n c k) rfl rfl Try.isAgg24 (cell_blkA (k := 1) rfl (Nat.mul_one _) (hd_get hkm))) ?_
        refine L1 rfl rfl H (y_len_sliceV rfl rfl rfl Try.underlying24) ?_
        refine L1 rfl rfl H (y_move (v := (.int .i64 _)) rfl rfl) ?_
        refine L1 rfl rfl H (y_add (r := ((n k + i : Nat) : Int)) rfl rfl rfl (by rw [wr_i64 (by omega) (by omega)]; omega)) ?_
        refine Lfn rfl rfl rfl (xa := [(.int .i64 _), (.int .i64 _)]) rfl Try.call46 ?_   -- portage/portagekit.markText
        refine (markText_calls (k := k) (i := n k + i)).mono ?_
        rintro e w' ⟨rfl, K⟩
        replace H := H.app0 K
        clear K
        refine ⟨_, rfl, ?_⟩
        refine LbuildSlice1 (v := (.string _)) rfl rfl rfl rfl H Try.underlying24 Try.sizeOf9 Try.zeroValue9 rfl rfl ?_; intro b60 w H
        refine LappKeep (k + 2) rfl rfl rfl rfl rfl H ((at2 hkm).trans (congrArg some row2F_at)) Try.underlying24 Try.underlying24 (i := Try.t9) (by kernel_rfl) (z := .string "".toUTF8) rfl rfl rfl rfl (by have := hn k hkm; show (_ + 1) * 16 ≤ _; omega) (by have := hn k hkm; simp only [maxLen]; omega) ?_
        intro A1 c1 w hc1 H
        replace H := H.grow hkm
        refine L1 rfl rfl H (y_assign (v := (.slice _ _ _)) rfl rfl) ?_
        refine e_list ?_; (repeat (first | (with_reducible first | refine e_then ?_ | refine e_block ?_ | refine e_then_ret ?_ | refine e_block_ret ?_ | refine e_then_exit ?_ | refine e_block_here ?_ | refine e_then_panic ?_ | refine e_block_panic ?_) | refine e_block_on rfl ?_))
        -- R15
        refine c_region ?_
        refine L1 rfl rfl H (y_move (v := (.int .i64 _)) rfl rfl) ?_
        refine L1 rfl rfl H (y_add (r := ((i + 1 : Nat) : Int)) rfl rfl rfl (by rw [wr_i64 (by omega) (by omega)]; omega)) ?_
        refine L1 rfl rfl H (y_assign (v := (.int .i64 _)) rfl rfl) ?_
        refine e_list ?_; (repeat (first | (with_reducible first | refine e_then ?_ | refine e_block ?_ | refine e_then_ret ?_ | refine e_block_ret ?_ | refine e_then_exit ?_ | refine e_block_here ?_ | refine e_then_panic ?_ | refine e_block_panic ?_) | refine e_block_on rfl ?_))
        exact ⟨(i + 1, A1, c1), _, rfl, ⟨ov_ex _ ⟨rfl, rfl, rfl, rfl, rfl, trivial⟩, H, by omega⟩, by show 64 - (i + 1) < 64 - i; omega⟩
      · skip
        have hi64 : i = 64 := by omega
        subst hi64
        refine wp_exit ?_; (repeat (first | (with_reducible first | refine e_then ?_ | refine e_block ?_ | refine e_then_ret ?_ | refine e_block_ret ?_ | refine e_then_exit ?_ | refine e_block_here ?_ | refine e_then_panic ?_ | refine e_block_panic ?_) | refine e_block_on rfl ?_))
        -- R17
        refine c_region ?_
        refine L1 rfl rfl H (y_move (v := (.slice _ _ _)) rfl rfl) ?_
        refine L1 rfl rfl H (y_move (v := (.slice _ _ _)) rfl rfl) ?_
        refine LbuildSlice1 (v := (.slice _ _ _)) rfl rfl rfl rfl H Try.underlying31 Try.sizeOf24 Try.zeroValue24 rfl rfl ?_; intro b64 w H
        refine Lapp1 0 rfl rfl rfl rfl rfl H rfl Try.underlying31 Try.underlying31 (i := Try.t24) (by kernel_rfl) (z := .slice none 0 0) rfl rfl rfl rfl (by show (_ + 1) * 24 ≤ _; omega) (by simp only [maxLen]; omega) ?_
        intro A5 c5 w hc5 H
        replace H : Heap w0 (Ent.row w0.heap.size 24 1 (.slice A5 (k + 1) c5) (k + 1) ((List.range k).map g ++ [.slice A1 (n k + 64) c1]) :: Ent.blk gb 24 ((List.range m).map (hdV A n c)) :: ((List.range m).map (row2F w0 9 A n mkT (up g k (.slice A1 (n k + 64) c1)) (cntF n k 64)) ++ R)) w := H
        rw [← up_range, cntF_next] at H
        refine L1 rfl rfl H (y_assign (v := (.slice _ _ _)) rfl rfl) ?_
        refine e_list ?_; (repeat (first | (with_reducible first | refine e_then ?_ | refine e_block ?_ | refine e_then_ret ?_ | refine e_block_ret ?_ | refine e_then_exit ?_ | refine e_block_here ?_ | refine e_then_panic ?_ | refine e_block_panic ?_) | refine e_block_on rfl ?_))
        -- R11
        refine c_region ?_
        refine L1 rfl rfl H (y_move (v := (.int .i64 _)) rfl rfl) ?_
        refine L1 rfl rfl H (y_add (r := ((k + 1 : Nat) : Int)) rfl rfl rfl (by rw [wr_i64 (by omega) (by omega)]; omega)) ?_
        refine L1 rfl rfl H (y_assign (v := (.int .i64 _)) rfl rfl) ?_
        refine e_list ?_; (repeat (first | (with_reducible first | refine e_then ?_ | refine e_block ?_ | refine e_then_ret ?_ | refine e_block_ret ?_ | refine e_then_exit ?_ | refine e_block_here ?_ | refine e_then_panic ?_ | refine e_block_panic ?_) | refine e_block_on rfl ?_))
        exact ⟨(k + 1, up g k (.slice A1 (n k + 64) c1), A5, c5), _, rfl, ⟨ov_ex _ ⟨rfl, rfl, rfl, trivial⟩, H, by omega, fun j hj => by rw [up_ne (by omega)]; exact hgj j (by omega)⟩, by show m - (k + 1) < m - k; omega⟩
    · skip
      have hkm : m = k := by omega
      subst hkm
      refine wp_exit ?_; (repeat (first | (with_reducible first | refine e_then ?_ | refine e_block ?_ | refine e_then_ret ?_ | refine e_block_ret ?_ | refine e_then_exit ?_ | refine e_block_here ?_ | refine e_then_panic ?_ | refine e_block_panic ?_) | refine e_block_on rfl ?_))
      refine wp_seq ?_
      refine wp_seq ?_
      -- R18
      refine c_region ?_
      refine L1 rfl rfl H (y_assign (v := (.int .i64 _)) rfl rfl) ?_
      refine e_list ?_; (repeat (first | (with_reducible first | refine e_then ?_ | refine e_block ?_ | refine e_then_ret ?_ | refine e_block_ret ?_ | refine e_then_exit ?_ | refine e_block_here ?_ | refine e_then_panic ?_ | refine e_block_panic ?_) | refine e_block_on rfl ?_))
      refine wp_block ?_   -- block 8
      refine c_loop (ι := Nat) (fun k f w => (∃ gx, f = ov [(0, .slice (some ⟨gb, 0, none⟩) m m), (5, .slice A5 m c5), (9, .int .i64 (k : Nat))] gx) ∧ Heap w0 (Ent.row w0.heap.size 24 1 (.slice A5 m c5) m ((List.range m).map g) :: Ent.blk gb 24 ((List.range m).map (hdV A n c)) :: ((List.range m).map (row2F w0 9 A n mkT g (cntF n m 0)) ++ R)) w ∧ k ≤ m) (fun k => m - k) 0 ?_ ?_
      · exact ⟨ov_ex _ ⟨rfl, rfl, rfl, trivial⟩, H, Nat.zero_le _⟩
      rintro k f w ⟨⟨gg, rfl⟩, H, hkle⟩
      refine wp_seq ?_
      refine wp_seq ?_
      -- R19
      refine c_region ?_
      refine L1 rfl rfl H (y_move (v := (.int .i64 _)) rfl rfl) ?_
      refine L1 rfl rfl H (y_move (v := (.slice _ _ _)) rfl rfl) ?_
      refine L1 rfl rfl H (y_len_slice rfl rfl Try.underlying31) ?_
      refine L1 rfl rfl H (y_lss rfl rfl rfl) ?_
      refine e_list ?_; (repeat (first | (with_reducible first | refine e_then ?_ | refine e_block ?_ | refine e_then_ret ?_ | refine e_block_ret ?_ | refine e_then_exit ?_ | refine e_block_here ?_ | refine e_then_panic ?_ | refine e_block_panic ?_) | refine e_block_on rfl ?_))
      refine c_if rfl (fun h4 => ?_) (fun h4 => ?_)   -- if 4
      · skip
        have hkm : k < m := by omega
        have hnk := hn k hkm
        obtain ⟨A1, c1, hgk⟩ := grown_form hkm H
        refine wp_skip ?_; (repeat (first | (with_reducible first | refine e_then ?_ | refine e_block ?_ | refine e_then_ret ?_ | refine e_block_ret ?_ | refine e_then_exit ?_ | refine e_block_here ?_ | refine e_then_panic ?_ | refine e_block_panic ?_) | refine e_block_on rfl ?_))
        refine wp_seq ?_
        refine wp_block ?_   -- block 9
        refine wp_seq ?_
        -- R21
        refine c_region ?_
        refine L1 rfl rfl H (y_assign (v := (.int .i64 _)) rfl rfl) ?_
        refine e_list ?_; (repeat (first | (with_reducible first | refine e_then ?_ | refine e_block ?_ | refine e_then_ret ?_ | refine e_block_ret ?_ | refine e_then_exit ?_ | refine e_block_here ?_ | refine e_then_panic ?_ | refine e_block_panic ?_) | refine e_block_on rfl ?_))
        refine wp_block ?_   -- block 10
        refine c_loop (ι := Nat) (fun i f w => (∃ gx, f = ov [(0, .slice (some ⟨gb, 0, none⟩) m m), (5, .slice A5 m c5), (9, .int .i64 (k : Nat)), (10, .int .i64 (i : Nat))] gx) ∧ Heap w0 (Ent.row w0.heap.size 24 1 (.slice A5 m c5) m ((List.range m).map g) :: Ent.blk gb 24 ((List.range m).map (hdV A n c)) :: ((List.range m).map (row2F w0 9 A n mkT g (cntF n m 0)) ++ R)) w ∧ i ≤ n k + 64) (fun i => n k + 64 - i) 0 ?_ ?_
        · exact ⟨ov_ex _ ⟨rfl, rfl, rfl, rfl, trivial⟩, H, Nat.zero_le _⟩
        rintro i f w ⟨⟨gg, rfl⟩, H, hile⟩
        refine wp_seq ?_
        refine wp_seq ?_
        -- R22
        refine c_region ?_
        refine L1 rfl rfl H (y_move (v := (.int .i64 _)) rfl rfl) ?_
        refine L1 rfl rfl H (y_move (v := (.slice _ _ _)) rfl rfl) ?_
        refine L1 rfl rfl H (y_move (v := (.int .i64 _)) rfl rfl) ?_
        obtain ⟨a5, hA5, _⟩ := (rd_row (H.get 0 rfl)).some (j := k) (by simpa using hkm)
        refine L1 rfl rfl H (y_indexSlA hA5 rfl rfl rfl Try.underlying31 Try.sizeOf24 (by omega) (by omega)) ?_
        refine L1 rfl rfl H (y_load (v := g k) rfl rfl Try.isAgg24 (cell_rowA (k := 0) rfl hA5 (Nat.mul_one _) (hd_get hkm))) ?_
        refine L1 rfl rfl H (y_len_sliceV rfl rfl hgk Try.underlying24) ?_
        refine L1 rfl rfl H (y_lss rfl rfl rfl) ?_
        refine e_list ?_; (repeat (first | (with_reducible first | refine e_then ?_ | refine e_block ?_ | refine e_then_ret ?_ | refine e_block_ret ?_ | refine e_then_exit ?_ | refine e_block_here ?_ | refine e_then_panic ?_ | refine e_block_panic ?_) | refine e_block_on rfl ?_))
        refine c_if rfl (fun h5 => ?_) (fun h5 => ?_)   -- if 5
        · skip
          refine wp_skip ?_; (repeat (first | (with_reducible first | refine e_then ?_ | refine e_block ?_ | refine e_then_ret ?_ | refine e_block_ret ?_ | refine e_then_exit ?_ | refine e_block_here ?_ | refine e_then_panic ?_ | refine e_block_panic ?_) | refine e_block_on rfl ?_))
          refine wp_seq ?_
          refine wp_block ?_   -- block 11
          refine wp_seq ?_
          -- R24
          refine c_region ?_
          refine L1 rfl rfl H (y_move (v := (.int .i64 _)) rfl rfl) ?_
          refine L1 rfl rfl H (y_move (v := (.int .i64 _)) rfl rfl) ?_
          refine Lfn rfl rfl rfl (xa := [(.int .i64 _), (.int .i64 _)]) rfl Try.call46 ?_   -- portage/portagekit.markText
          refine (markText_calls (k := k) (i := i)).mono ?_
          rintro e w' ⟨rfl, K⟩
          replace H := H.app0 K
          clear K
          refine ⟨_, rfl, ?_⟩
          refine L1 rfl rfl H (y_assign (v := (.string _)) rfl rfl) ?_
          refine e_list ?_; (repeat (first | (with_reducible first | refine e_then ?_ | refine e_block ?_ | refine e_then_ret ?_ | refine e_block_ret ?_ | refine e_then_exit ?_ | refine e_block_here ?_ | refine e_then_panic ?_ | refine e_block_panic ?_) | refine e_block_on rfl ?_))
          refine c_cutR [0, 5, 9, 10] 112 (False) (Ent.row w0.heap.size 24 1 (.slice A5 m c5) m ((List.range m).map g) :: Ent.blk gb 24 ((List.range m).map (hdV A n c)) :: ((List.range m).map (row2F w0 9 A n mkT g (cntF n m 0)) ++ R)) H ?_ ?_
          · skip
            -- R25
            refine c_region ?_
            refine L1 rfl rfl H (y_move (v := (.slice _ _ _)) rfl rfl) ?_
            refine L1 rfl rfl H (y_move (v := (.int .i64 _)) rfl rfl) ?_
            refine L1 rfl rfl H (y_indexSlA hA5 rfl rfl rfl Try.underlying31 Try.sizeOf24 (by omega) (by omega)) ?_
            refine L1 rfl rfl H (y_load (v := g k) rfl rfl Try.isAgg24 (cell_rowA (k := 0) rfl hA5 (Nat.mul_one _) (hd_get hkm))) ?_
            refine L1 rfl rfl H (y_move (v := (.int .i64 _)) rfl rfl) ?_
            obtain ⟨a1, rfl⟩ : ∃ a1, A1 = some a1 := by
              have h := (H.get (k + 2) (at2 hkm)).1
              rw [cntF_all hkm] at h
              have hl1 := h.1
              rw [hgk] at h
              obtain ⟨a1, h1, _⟩ := (rd_row h).some (j := i) (by omega)
              exact ⟨a1, h1⟩
            refine L1 rfl rfl H (y_indexSlA (A := some a1) rfl rfl hgk rfl Try.underlying24 Try.sizeOf9 (by omega) (by omega)) ?_
            refine L1 rfl rfl H (y_load (v := mkT k i) rfl rfl Try.isAgg9 (cell_row2 (k := k + 2) (at2 hkm) hgk (Nat.mul_one _) (by rw [cntF_all hkm]; exact mks_get (by omega)))) ?_
            refine L1 rfl rfl H (y_move (v := (.string _)) rfl rfl) ?_
            refine L1 rfl rfl H (y_str_neqF (b := default) rfl rfl rfl) ?_
            refine L1 rfl rfl H (y_move (v := (.bool _)) rfl rfl) ?_
            refine L1g rfl rfl rfl rfl H (y_move (v := (.int .i64 _)) rfl rfl) ?_
            refine L1g rfl rfl rfl rfl H (y_move (v := (.slice _ _ _)) rfl rfl) ?_
            refine L1g rfl rfl rfl rfl H (y_move (v := (.int .i64 _)) rfl rfl) ?_
            refine L1g rfl rfl rfl rfl H (y_indexSl rfl rfl rfl Try.underlying31 Try.sizeOf24 (by omega) (by omega)) ?_
            refine L1g rfl rfl rfl rfl H (y_load (v := hdV A n c k) rfl rfl Try.isAgg24 (cell_blkA (k := 1) rfl (Nat.mul_one _) (hd_get hkm))) ?_
            refine L1g rfl rfl rfl rfl H (y_len_sliceV rfl rfl rfl Try.underlying24) ?_
            refine L1g rfl rfl rfl rfl H (y_lss rfl rfl rfl) ?_
            refine L_splitg rfl rfl rfl rfl rfl rfl (fun hg25_17 => ?_) (fun hg25_17 => ?_)
            · skip
              refine L1g rfl rfl rfl rfl H (y_move (v := (.slice _ _ _)) rfl rfl) ?_
              refine L1g rfl rfl rfl rfl H (y_move (v := (.int .i64 _)) rfl rfl) ?_
              refine L1g rfl rfl rfl rfl H (y_indexSl rfl rfl rfl Try.underlying31 Try.sizeOf24 (by omega) (by omega)) ?_
              refine L1g rfl rfl rfl rfl H (y_load (v := hdV A n c k) rfl rfl Try.isAgg24 (cell_blkA (k := 1) rfl (Nat.mul_one _) (hd_get hkm))) ?_
              refine L1g rfl rfl rfl rfl H (y_move (v := (.int .i64 _)) rfl rfl) ?_
              have hin : i < n k := by omega
              obtain ⟨a, ha, _⟩ := (H.get (k + 2) (at2 hkm)).2.1.some (j := i) (by rw [mks_length]; exact hin)
              refine L1g rfl rfl rfl rfl H (y_indexSlA ha rfl rfl rfl Try.underlying24 Try.sizeOf9 (by omega) (by omega)) ?_
              refine L1g rfl rfl rfl rfl H (y_load (v := mkT k i) rfl rfl Try.isAgg9 (cell_row2o (k := k + 2) (at2 hkm) ha (Nat.mul_one _) (mks_get hin))) ?_
              refine L1g rfl rfl rfl rfl H (y_move (v := (.string _)) rfl rfl) ?_
              refine L1g rfl rfl rfl rfl H (y_str_neqF (b := default) rfl rfl rfl) ?_
              refine L1g rfl rfl rfl rfl H (y_pick (v := (.bool _)) rfl rfl rfl) ?_
              refine L1 rfl rfl H (y_pick (v := (.bool _)) rfl rfl rfl) ?_
              refine e_list ?_; (repeat (first | (with_reducible first | refine e_then ?_ | refine e_block ?_ | refine e_then_ret ?_ | refine e_block_ret ?_ | refine e_then_exit ?_ | refine e_block_here ?_ | refine e_then_panic ?_ | refine e_block_panic ?_) | refine e_block_on rfl ?_))
              refine ⟨_, rfl, rfl, ⟨rfl, rfl, rfl, rfl, trivial⟩, H⟩
            · skip
              refine Lno rfl rfl rfl rfl rfl ?_
              refine Lno rfl rfl rfl rfl rfl ?_
              refine Lno rfl rfl rfl rfl rfl ?_
              refine Lno rfl rfl rfl rfl rfl ?_
              refine Lno rfl rfl rfl rfl rfl ?_
              refine Lno rfl rfl rfl rfl rfl ?_
              refine Lno rfl rfl rfl rfl rfl ?_
              refine Lno rfl rfl rfl rfl rfl ?_
              refine Lno rfl rfl rfl rfl rfl ?_
              refine L1g rfl rfl rfl rfl H (y_pick (v := (.bool _)) rfl rfl rfl) ?_
              refine L1 rfl rfl H (y_pick (v := (.bool _)) rfl rfl rfl) ?_
              refine e_list ?_; (repeat (first | (with_reducible first | refine e_then ?_ | refine e_block ?_ | refine e_then_ret ?_ | refine e_block_ret ?_ | refine e_then_exit ?_ | refine e_block_here ?_ | refine e_then_panic ?_ | refine e_block_panic ?_) | refine e_block_on rfl ?_))
              refine ⟨_, rfl, rfl, ⟨rfl, rfl, rfl, rfl, trivial⟩, H⟩
          intro g25 w H
          refine c_f rfl ?_   -- if 6
          refine wp_skip ?_; (repeat (first | (with_reducible first | refine e_then ?_ | refine e_block ?_ | refine e_then_ret ?_ | refine e_block_ret ?_ | refine e_then_exit ?_ | refine e_block_here ?_ | refine e_then_panic ?_ | refine e_block_panic ?_) | refine e_block_on rfl ?_))
          -- R23
          refine c_region ?_
          refine L1 rfl rfl H (y_move (v := (.int .i64 _)) rfl rfl) ?_
          refine L1 rfl rfl H (y_add (r := ((i + 1 : Nat) : Int)) rfl rfl rfl (by rw [wr_i64 (by omega) (by omega)]; omega)) ?_
          refine L1 rfl rfl H (y_assign (v := (.int .i64 _)) rfl rfl) ?_
          refine e_list ?_; (repeat (first | (with_reducible first | refine e_then ?_ | refine e_block ?_ | refine e_then_ret ?_ | refine e_block_ret ?_ | refine e_then_exit ?_ | refine e_block_here ?_ | refine e_then_panic ?_ | refine e_block_panic ?_) | refine e_block_on rfl ?_))
          exact ⟨i + 1, _, rfl, ⟨ov_ex _ ⟨rfl, rfl, rfl, rfl, trivial⟩, H, by omega⟩, by omega⟩
        · skip
          refine wp_exit ?_; (repeat (first | (with_reducible first | refine e_then ?_ | refine e_block ?_ | refine e_then_ret ?_ | refine e_block_ret ?_ | refine e_then_exit ?_ | refine e_block_here ?_ | refine e_then_panic ?_ | refine e_block_panic ?_) | refine e_block_on rfl ?_))
          -- R20
          refine c_region ?_
          refine L1 rfl rfl H (y_move (v := (.int .i64 _)) rfl rfl) ?_
          refine L1 rfl rfl H (y_add (r := ((k + 1 : Nat) : Int)) rfl rfl rfl (by rw [wr_i64 (by omega) (by omega)]; omega)) ?_
          refine L1 rfl rfl H (y_assign (v := (.int .i64 _)) rfl rfl) ?_
          refine e_list ?_; (repeat (first | (with_reducible first | refine e_then ?_ | refine e_block ?_ | refine e_then_ret ?_ | refine e_block_ret ?_ | refine e_then_exit ?_ | refine e_block_here ?_ | refine e_then_panic ?_ | refine e_block_panic ?_) | refine e_block_on rfl ?_))
          exact ⟨k + 1, _, rfl, ⟨ov_ex _ ⟨rfl, rfl, rfl, trivial⟩, H, by omega⟩, by omega⟩
      · skip
        refine wp_exit ?_; (repeat (first | (with_reducible first | refine e_then ?_ | refine e_block ?_ | refine e_then_ret ?_ | refine e_block_ret ?_ | refine e_then_exit ?_ | refine e_block_here ?_ | refine e_then_panic ?_ | refine e_block_panic ?_) | refine e_block_on rfl ?_))
        refine wp_seq ?_
        -- R27
        refine c_region ?_
        refine L1 rfl rfl H (y_assign (v := (.bool _)) rfl rfl) ?_
        refine e_list ?_; (repeat (first | (with_reducible first | refine e_then ?_ | refine e_block ?_ | refine e_then_ret ?_ | refine e_block_ret ?_ | refine e_then_exit ?_ | refine e_block_here ?_ | refine e_then_panic ?_ | refine e_block_panic ?_) | refine e_block_on rfl ?_))
        refine wp_ret ?_; (repeat (first | (with_reducible first | refine e_then ?_ | refine e_block ?_ | refine e_then_ret ?_ | refine e_block_ret ?_ | refine e_then_exit ?_ | refine e_block_here ?_ | refine e_then_panic ?_ | refine e_block_panic ?_) | refine e_block_on rfl ?_))
        refine r_1 (v := (.bool _)) rfl rfl ?_
        exact ⟨rfl, H.sub (.cons _ (.cons _ (List.sublist_append_right _ _)))⟩
-- »apart
end
end Go.Ref
