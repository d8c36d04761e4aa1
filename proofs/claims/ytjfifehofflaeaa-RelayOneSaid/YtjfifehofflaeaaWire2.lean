/-
  The program's reader: one call's reading, its recovery from a fault.
-/
import Derived.Test.YtjfifehofflaeaaWire1
import Derived.Test.YtjfifehofflaeaaEng7
namespace Go.Wire
open Go.RowKit Go.Eng Go.Proofs
set_option linter.unusedSimpArgs false
set_option linter.unusedVariables false
attribute [local irreducible] wpList wpQuiet wpStill wpMix

theorem perm_in (a b c d : Ent) (X R : List Ent) : (a :: b :: c :: d :: (X ++ R)).Perm (c :: d :: (X ++ (a :: b :: R))) := by
  have h1 : (a :: b :: (X ++ R)).Perm (X ++ (a :: b :: R)) := by
    refine List.Perm.trans ?_ List.perm_middle.symm
    exact List.Perm.cons a List.perm_middle.symm
  have h2 : (a :: b :: c :: d :: (X ++ R)).Perm (c :: d :: a :: b :: (X ++ R)) := by
    have h := (List.perm_append_comm (l₁ := [a, b]) (l₂ := [c, d])).append_right (X ++ R)
    simpa using h
  exact h2.trans (List.Perm.cons c (List.Perm.cons d h1))
theorem perm_out (a b c d : Ent) (X R : List Ent) : (c :: d :: (X ++ (a :: b :: R))).Perm (c :: d :: a :: b :: (X ++ R)) := by
  refine List.Perm.cons c (List.Perm.cons d ?_)
  refine List.Perm.trans List.perm_middle ?_
  exact List.Perm.cons a List.perm_middle
theorem sub_in (c d a b : Ent) (Y X R : List Ent) : (c :: d :: (Y ++ (X ++ R))).Sublist (c :: d :: (Y ++ (X ++ (a :: b :: R)))) := by
  refine List.Sublist.cons_cons c (List.Sublist.cons_cons d ?_)
  refine List.Sublist.append (List.Sublist.refl _) (List.Sublist.append (List.Sublist.refl _) ?_)
  exact (List.Sublist.refl R).cons _ |>.cons _
theorem sub_two (c d a b : Ent) (Z : List Ent) : (c :: d :: Z).Sublist (c :: d :: a :: b :: Z) :=
  List.Sublist.cons_cons c (List.Sublist.cons_cons d (((List.Sublist.refl Z).cons _).cons _))

section
variable {w0 w : World} {R : List Ent} {g : Nat} {A : Option Addr} {cap : Nat} {b : By} {at_ : Nat} {err : Int}
-- «wire_reading_uint64__D1_ret»
theorem wire_reading_uint64__D1_ret {ga gr : Nat} {Rw : World → Prop} (hR : Rw w) :
    CallsD Try.prog 168 #[.pointer (some ⟨ga, 0, none⟩), .pointer (some ⟨gr, 0, none⟩)] .returning w fun e u' w' => (∃ v, e = .returned v) ∧ settle u' = .returning ∧ Rw w' := by
  refine d_enter (xa := [.pointer (some ⟨ga, 0, none⟩), .pointer (some ⟨gr, 0, none⟩)]) (v := .nilIface) (U := .returning) 25 Try.func168 rfl rfl rfl rfl rfl rfl rfl rfl rfl rfl rfl (fun c₀ cs hu => .inr ⟨by simp [recoverD, hu], rfl, rfl⟩) ?_
  have H := Heap.init w
  refine wp_seq ?_
  refine wp_seq ?_
  -- R1
  refine c_region ?_
  refine L1 rfl rfl H (y_move (v := .nilIface) rfl rfl) ?_
  refine L1 rfl rfl H (y_iface_eql_nil2 rfl rfl rfl Try.underlying20) ?_
  refine e_list ?_; (repeat (first | (with_reducible first | refine e_then ?_ | refine e_block ?_ | refine e_then_ret ?_ | refine e_block_ret ?_ | refine e_then_exit ?_ | refine e_block_here ?_ | refine e_then_panic ?_ | refine e_block_panic ?_) | refine e_block_on rfl ?_))
  refine c_t rfl ?_   -- if 0
  refine wp_ret ?_; (repeat (first | (with_reducible first | refine e_then ?_ | refine e_block ?_ | refine e_then_ret ?_ | refine e_block_ret ?_ | refine e_then_exit ?_ | refine e_block_here ?_ | refine e_then_panic ?_ | refine e_block_panic ?_) | refine e_block_on rfl ?_))
  refine r_0 rfl ?_
  exact ⟨⟨_, rfl⟩, rfl, hR⟩
-- »wire_reading_uint64__D1_ret
-- «wire_reading_uint64__D1_panic»
theorem wire_reading_uint64__D1_panic {ga gr a1 : Nat} {c : Int} (H : Heap w0 (rdr w0 g A cap b a1 err (Ent.blk ga 3 [.int .i64 at_] :: Ent.blk gr 88 [.pointer (some ⟨g, 0, none⟩)] :: R)) w) :
    CallsD Try.prog 168 #[.pointer (some ⟨ga, 0, none⟩), .pointer (some ⟨gr, 0, none⟩)] (.panicking (fault c)) w fun e u' w' => (∃ v, e = .returned v) ∧ settle u' = .returning ∧
      Heap w0 (rdr w0 g A cap b at_ c (Ent.blk ga 3 [.int .i64 at_] :: Ent.blk gr 88 [.pointer (some ⟨g, 0, none⟩)] :: R)) w' := by
  refine d_enter (xa := [.pointer (some ⟨ga, 0, none⟩), .pointer (some ⟨gr, 0, none⟩)]) (v := .iface 172 (.agg #[.int .i64 c])) (U := .panicking [{ v := .iface 172 (.agg #[.int .i64 c]), recovered := true }]) 25 Try.func168 rfl rfl rfl rfl rfl rfl rfl rfl rfl rfl rfl (fun c₀ cs hu => .inl (by simp [recoverD, hu])) ?_
  refine wp_seq ?_
  refine wp_seq ?_
  -- R1
  refine c_region ?_
  refine L1 rfl rfl H (y_move (v := .iface 172 (.agg #[.int .i64 c])) rfl rfl) ?_
  refine L1 rfl rfl H (y_iface_eql_nil rfl rfl rfl Try.underlying20) ?_
  refine e_list ?_; (repeat (first | (with_reducible first | refine e_then ?_ | refine e_block ?_ | refine e_then_ret ?_ | refine e_block_ret ?_ | refine e_then_exit ?_ | refine e_block_here ?_ | refine e_then_panic ?_ | refine e_block_panic ?_) | refine e_block_on rfl ?_))
  refine c_f rfl ?_   -- if 0
  refine wp_skip ?_; (repeat (first | (with_reducible first | refine e_then ?_ | refine e_block ?_ | refine e_then_ret ?_ | refine e_block_ret ?_ | refine e_then_exit ?_ | refine e_block_here ?_ | refine e_then_panic ?_ | refine e_block_panic ?_) | refine e_block_on rfl ?_))
  refine wp_seq ?_
  -- R2
  refine c_region ?_
  refine L1 rfl rfl H (y_move (v := .iface 172 (.agg #[.int .i64 c])) rfl rfl) ?_
  refine L1 rfl rfl H (y_assert_ok rfl rfl Try.underlying172 (by intro ms h; cases h)) ?_
  refine L1 rfl rfl H (y_move (v := (.tuple _)) rfl rfl) ?_
  refine L1 rfl rfl H (y_extract (v := (.agg _)) rfl rfl rfl) ?_
  refine L1 rfl rfl H (y_extract (v := (.bool _)) rfl rfl rfl) ?_
  refine Lalloc rfl rfl rfl H Try.zeroValue172 (cs := [_]) rfl ?_; intro b3 w H
  (first | refine Lstore 0 rfl rfl rfl rfl (v := (.agg _)) rfl H rfl (vs := [_]) rfl Try.sizeOf172 rfl rfl ?_ | refine Lstore 1 rfl rfl rfl rfl (v := (.agg _)) rfl H rfl (vs := [_]) rfl Try.sizeOf172 rfl rfl ?_ | refine Lstore 2 rfl rfl rfl rfl (v := (.agg _)) rfl H rfl (vs := [_]) rfl Try.sizeOf172 rfl rfl ?_ | refine Lstore 3 rfl rfl rfl rfl (v := (.agg _)) rfl H rfl (vs := [_]) rfl Try.sizeOf172 rfl rfl ?_ | refine Lstore 4 rfl rfl rfl rfl (v := (.agg _)) rfl H rfl (vs := [_]) rfl Try.sizeOf172 rfl rfl ?_ | refine Lstore 5 rfl rfl rfl rfl (v := (.agg _)) rfl H rfl (vs := [_]) rfl Try.sizeOf172 rfl rfl ?_ | refine Lstore 6 rfl rfl rfl rfl (v := (.agg _)) rfl H rfl (vs := [_]) rfl Try.sizeOf172 rfl rfl ?_); intro w H
  refine L1 rfl rfl H (y_assign (v := (.bool _)) rfl rfl) ?_
  refine e_list ?_; (repeat (first | (with_reducible first | refine e_then ?_ | refine e_block ?_ | refine e_then_ret ?_ | refine e_block_ret ?_ | refine e_then_exit ?_ | refine e_block_here ?_ | refine e_then_panic ?_ | refine e_block_panic ?_) | refine e_block_on rfl ?_))
  refine wp_seq ?_
  refine wp_seq ?_
  -- R3
  refine c_region ?_
  refine L1 rfl rfl H (y_move (v := (.bool _)) rfl rfl) ?_
  refine L1 rfl rfl H (y_not rfl rfl) ?_
  refine e_list ?_; (repeat (first | (with_reducible first | refine e_then ?_ | refine e_block ?_ | refine e_then_ret ?_ | refine e_block_ret ?_ | refine e_then_exit ?_ | refine e_block_here ?_ | refine e_then_panic ?_ | refine e_block_panic ?_) | refine e_block_on rfl ?_))
  refine c_f rfl ?_   -- if 1
  refine wp_skip ?_; (repeat (first | (with_reducible first | refine e_then ?_ | refine e_block ?_ | refine e_then_ret ?_ | refine e_block_ret ?_ | refine e_then_exit ?_ | refine e_block_here ?_ | refine e_then_panic ?_ | refine e_block_panic ?_) | refine e_block_on rfl ?_))
  -- R5 draws
  refine c_mix [true, true, true, true, true, true, true, false, true, true, false] (CellsAt [(⟨gr, 0, none⟩, .pointer (some ⟨g, 0, none⟩)), (⟨ga, 0, none⟩, .int .i64 (at_ : Nat)), (⟨b3, 0, none⟩, .int .i64 c)]) (by kernel_rfl) (by kernel_rfl) (by repeat (first | exact pk_body | refine pk_then ?_ | refine pk_block ?_)) H (fun w H => ⟨⟨cell_blk (k := 4) rfl rfl w H, cell_blk (k := 3) rfl rfl w H, cell_blk (k := 0) rfl rfl w H, trivial⟩, ?_⟩)
  refine M1 rfl rfl (y_load (v := (.pointer _)) rfl rfl Try.isAgg88 (fun w h => h.1)) ?_
  refine M1 rfl rfl (y_load (v := (.pointer _)) rfl rfl Try.isAgg88 (fun w h => h.1)) ?_
  refine M1 rfl rfl (y_load (v := (.int .i64 _)) rfl rfl Try.isAgg3 (fun w h => h.2.1)) ?_
  refine M1 rfl rfl (y_fieldAddr 0 rfl rfl Try.underlying172 rfl Try.sizeOf37 rfl) ?_
  refine M1 rfl rfl (y_load (v := (.int .i64 _)) rfl rfl Try.isAgg37 (fun w h => h.2.2.1)) ?_
  refine M1 rfl rfl (y_nilCheck rfl rfl) ?_
  refine M1 rfl rfl (y_fieldAddr 1 rfl rfl Try.underlying168 rfl Try.sizeOf3 rfl) ?_
  refine M2 ?_
  (first | refine Lstore 0 rfl rfl rfl rfl (v := (.int .i64 _)) rfl H rfl (vs := [_]) rfl Try.sizeOf3 rfl rfl ?_ | refine Lstore 1 rfl rfl rfl rfl (v := (.int .i64 _)) rfl H rfl (vs := [_]) rfl Try.sizeOf3 rfl rfl ?_ | refine Lstore 2 rfl rfl rfl rfl (v := (.int .i64 _)) rfl H rfl (vs := [_]) rfl Try.sizeOf3 rfl rfl ?_ | refine Lstore 3 rfl rfl rfl rfl (v := (.int .i64 _)) rfl H rfl (vs := [_]) rfl Try.sizeOf3 rfl rfl ?_ | refine Lstore 4 rfl rfl rfl rfl (v := (.int .i64 _)) rfl H rfl (vs := [_]) rfl Try.sizeOf3 rfl rfl ?_ | refine Lstore 5 rfl rfl rfl rfl (v := (.int .i64 _)) rfl H rfl (vs := [_]) rfl Try.sizeOf3 rfl rfl ?_ | refine Lstore 6 rfl rfl rfl rfl (v := (.int .i64 _)) rfl H rfl (vs := [_]) rfl Try.sizeOf3 rfl rfl ?_); intro w H
  refine e_list (e_then ⟨⟨cell_blk (k := 4) rfl rfl w H, cell_blk (k := 3) rfl rfl w H, cell_blk (k := 0) rfl rfl w H, trivial⟩, ?_⟩)
  refine M1 rfl rfl (y_nilCheck rfl rfl) ?_
  refine M1 rfl rfl (y_fieldAddr 2 rfl rfl Try.underlying168 rfl Try.sizeOf37 rfl) ?_
  refine M2 ?_
  (first | refine Lstore 0 rfl rfl rfl rfl (v := (.int .i64 _)) rfl H rfl (vs := [_]) rfl Try.sizeOf37 rfl rfl ?_ | refine Lstore 1 rfl rfl rfl rfl (v := (.int .i64 _)) rfl H rfl (vs := [_]) rfl Try.sizeOf37 rfl rfl ?_ | refine Lstore 2 rfl rfl rfl rfl (v := (.int .i64 _)) rfl H rfl (vs := [_]) rfl Try.sizeOf37 rfl rfl ?_ | refine Lstore 3 rfl rfl rfl rfl (v := (.int .i64 _)) rfl H rfl (vs := [_]) rfl Try.sizeOf37 rfl rfl ?_ | refine Lstore 4 rfl rfl rfl rfl (v := (.int .i64 _)) rfl H rfl (vs := [_]) rfl Try.sizeOf37 rfl rfl ?_ | refine Lstore 5 rfl rfl rfl rfl (v := (.int .i64 _)) rfl H rfl (vs := [_]) rfl Try.sizeOf37 rfl rfl ?_ | refine Lstore 6 rfl rfl rfl rfl (v := (.int .i64 _)) rfl H rfl (vs := [_]) rfl Try.sizeOf37 rfl rfl ?_); intro w H
  refine e_list (e_then ⟨⟨cell_blk (k := 4) rfl rfl w H, cell_blk (k := 3) rfl rfl w H, cell_blk (k := 0) rfl rfl w H, trivial⟩, ?_⟩)
  refine Mend ?_; (repeat (first | (with_reducible first | refine e_then ?_ | refine e_block ?_ | refine e_then_ret ?_ | refine e_block_ret ?_ | refine e_then_exit ?_ | refine e_block_here ?_ | refine e_then_panic ?_ | refine e_block_panic ?_) | refine e_block_on rfl ?_))
  refine r_0n rfl ?_
  exact ⟨⟨_, rfl⟩, rfl, H.tail⟩
-- »wire_reading_uint64__D1_panic
-- «wire_reading_int__D1_ret»
theorem wire_reading_int__D1_ret {ga gr : Nat} {Rw : World → Prop} (hR : Rw w) :
    CallsD Try.prog 148 #[.pointer (some ⟨ga, 0, none⟩), .pointer (some ⟨gr, 0, none⟩)] .returning w fun e u' w' => (∃ v, e = .returned v) ∧ settle u' = .returning ∧ Rw w' := by
  refine d_enter (xa := [.pointer (some ⟨ga, 0, none⟩), .pointer (some ⟨gr, 0, none⟩)]) (v := .nilIface) (U := .returning) 25 Try.func148 rfl rfl rfl rfl rfl rfl rfl rfl rfl rfl rfl (fun c₀ cs hu => .inr ⟨by simp [recoverD, hu], rfl, rfl⟩) ?_
  have H := Heap.init w
  refine wp_seq ?_
  refine wp_seq ?_
  -- R1
  refine c_region ?_
  refine L1 rfl rfl H (y_move (v := .nilIface) rfl rfl) ?_
  refine L1 rfl rfl H (y_iface_eql_nil2 rfl rfl rfl Try.underlying20) ?_
  refine e_list ?_; (repeat (first | (with_reducible first | refine e_then ?_ | refine e_block ?_ | refine e_then_ret ?_ | refine e_block_ret ?_ | refine e_then_exit ?_ | refine e_block_here ?_ | refine e_then_panic ?_ | refine e_block_panic ?_) | refine e_block_on rfl ?_))
  refine c_t rfl ?_   -- if 0
  refine wp_ret ?_; (repeat (first | (with_reducible first | refine e_then ?_ | refine e_block ?_ | refine e_then_ret ?_ | refine e_block_ret ?_ | refine e_then_exit ?_ | refine e_block_here ?_ | refine e_then_panic ?_ | refine e_block_panic ?_) | refine e_block_on rfl ?_))
  refine r_0 rfl ?_
  exact ⟨⟨_, rfl⟩, rfl, hR⟩
-- »wire_reading_int__D1_ret
-- «wire_reading_int__D1_panic»
theorem wire_reading_int__D1_panic {ga gr a1 : Nat} {c : Int} (H : Heap w0 (rdr w0 g A cap b a1 err (Ent.blk ga 3 [.int .i64 at_] :: Ent.blk gr 88 [.pointer (some ⟨g, 0, none⟩)] :: R)) w) :
    CallsD Try.prog 148 #[.pointer (some ⟨ga, 0, none⟩), .pointer (some ⟨gr, 0, none⟩)] (.panicking (fault c)) w fun e u' w' => (∃ v, e = .returned v) ∧ settle u' = .returning ∧
      Heap w0 (rdr w0 g A cap b at_ c (Ent.blk ga 3 [.int .i64 at_] :: Ent.blk gr 88 [.pointer (some ⟨g, 0, none⟩)] :: R)) w' := by
  refine d_enter (xa := [.pointer (some ⟨ga, 0, none⟩), .pointer (some ⟨gr, 0, none⟩)]) (v := .iface 172 (.agg #[.int .i64 c])) (U := .panicking [{ v := .iface 172 (.agg #[.int .i64 c]), recovered := true }]) 25 Try.func148 rfl rfl rfl rfl rfl rfl rfl rfl rfl rfl rfl (fun c₀ cs hu => .inl (by simp [recoverD, hu])) ?_
  refine wp_seq ?_
  refine wp_seq ?_
  -- R1
  refine c_region ?_
  refine L1 rfl rfl H (y_move (v := .iface 172 (.agg #[.int .i64 c])) rfl rfl) ?_
  refine L1 rfl rfl H (y_iface_eql_nil rfl rfl rfl Try.underlying20) ?_
  refine e_list ?_; (repeat (first | (with_reducible first | refine e_then ?_ | refine e_block ?_ | refine e_then_ret ?_ | refine e_block_ret ?_ | refine e_then_exit ?_ | refine e_block_here ?_ | refine e_then_panic ?_ | refine e_block_panic ?_) | refine e_block_on rfl ?_))
  refine c_f rfl ?_   -- if 0
  refine wp_skip ?_; (repeat (first | (with_reducible first | refine e_then ?_ | refine e_block ?_ | refine e_then_ret ?_ | refine e_block_ret ?_ | refine e_then_exit ?_ | refine e_block_here ?_ | refine e_then_panic ?_ | refine e_block_panic ?_) | refine e_block_on rfl ?_))
  refine wp_seq ?_
  -- R2
  refine c_region ?_
  refine L1 rfl rfl H (y_move (v := .iface 172 (.agg #[.int .i64 c])) rfl rfl) ?_
  refine L1 rfl rfl H (y_assert_ok rfl rfl Try.underlying172 (by intro ms h; cases h)) ?_
  refine L1 rfl rfl H (y_move (v := (.tuple _)) rfl rfl) ?_
  refine L1 rfl rfl H (y_extract (v := (.agg _)) rfl rfl rfl) ?_
  refine L1 rfl rfl H (y_extract (v := (.bool _)) rfl rfl rfl) ?_
  refine Lalloc rfl rfl rfl H Try.zeroValue172 (cs := [_]) rfl ?_; intro b3 w H
  (first | refine Lstore 0 rfl rfl rfl rfl (v := (.agg _)) rfl H rfl (vs := [_]) rfl Try.sizeOf172 rfl rfl ?_ | refine Lstore 1 rfl rfl rfl rfl (v := (.agg _)) rfl H rfl (vs := [_]) rfl Try.sizeOf172 rfl rfl ?_ | refine Lstore 2 rfl rfl rfl rfl (v := (.agg _)) rfl H rfl (vs := [_]) rfl Try.sizeOf172 rfl rfl ?_ | refine Lstore 3 rfl rfl rfl rfl (v := (.agg _)) rfl H rfl (vs := [_]) rfl Try.sizeOf172 rfl rfl ?_ | refine Lstore 4 rfl rfl rfl rfl (v := (.agg _)) rfl H rfl (vs := [_]) rfl Try.sizeOf172 rfl rfl ?_ | refine Lstore 5 rfl rfl rfl rfl (v := (.agg _)) rfl H rfl (vs := [_]) rfl Try.sizeOf172 rfl rfl ?_ | refine Lstore 6 rfl rfl rfl rfl (v := (.agg _)) rfl H rfl (vs := [_]) rfl Try.sizeOf172 rfl rfl ?_); intro w H
  refine L1 rfl rfl H (y_assign (v := (.bool _)) rfl rfl) ?_
  refine e_list ?_; (repeat (first | (with_reducible first | refine e_then ?_ | refine e_block ?_ | refine e_then_ret ?_ | refine e_block_ret ?_ | refine e_then_exit ?_ | refine e_block_here ?_ | refine e_then_panic ?_ | refine e_block_panic ?_) | refine e_block_on rfl ?_))
  refine wp_seq ?_
  refine wp_seq ?_
  -- R3
  refine c_region ?_
  refine L1 rfl rfl H (y_move (v := (.bool _)) rfl rfl) ?_
  refine L1 rfl rfl H (y_not rfl rfl) ?_
  refine e_list ?_; (repeat (first | (with_reducible first | refine e_then ?_ | refine e_block ?_ | refine e_then_ret ?_ | refine e_block_ret ?_ | refine e_then_exit ?_ | refine e_block_here ?_ | refine e_then_panic ?_ | refine e_block_panic ?_) | refine e_block_on rfl ?_))
  refine c_f rfl ?_   -- if 1
  refine wp_skip ?_; (repeat (first | (with_reducible first | refine e_then ?_ | refine e_block ?_ | refine e_then_ret ?_ | refine e_block_ret ?_ | refine e_then_exit ?_ | refine e_block_here ?_ | refine e_then_panic ?_ | refine e_block_panic ?_) | refine e_block_on rfl ?_))
  -- R5 draws
  refine c_mix [true, true, true, true, true, true, true, false, true, true, false] (CellsAt [(⟨gr, 0, none⟩, .pointer (some ⟨g, 0, none⟩)), (⟨ga, 0, none⟩, .int .i64 (at_ : Nat)), (⟨b3, 0, none⟩, .int .i64 c)]) (by kernel_rfl) (by kernel_rfl) (by repeat (first | exact pk_body | refine pk_then ?_ | refine pk_block ?_)) H (fun w H => ⟨⟨cell_blk (k := 4) rfl rfl w H, cell_blk (k := 3) rfl rfl w H, cell_blk (k := 0) rfl rfl w H, trivial⟩, ?_⟩)
  refine M1 rfl rfl (y_load (v := (.pointer _)) rfl rfl Try.isAgg88 (fun w h => h.1)) ?_
  refine M1 rfl rfl (y_load (v := (.pointer _)) rfl rfl Try.isAgg88 (fun w h => h.1)) ?_
  refine M1 rfl rfl (y_load (v := (.int .i64 _)) rfl rfl Try.isAgg3 (fun w h => h.2.1)) ?_
  refine M1 rfl rfl (y_fieldAddr 0 rfl rfl Try.underlying172 rfl Try.sizeOf37 rfl) ?_
  refine M1 rfl rfl (y_load (v := (.int .i64 _)) rfl rfl Try.isAgg37 (fun w h => h.2.2.1)) ?_
  refine M1 rfl rfl (y_nilCheck rfl rfl) ?_
  refine M1 rfl rfl (y_fieldAddr 1 rfl rfl Try.underlying168 rfl Try.sizeOf3 rfl) ?_
  refine M2 ?_
  (first | refine Lstore 0 rfl rfl rfl rfl (v := (.int .i64 _)) rfl H rfl (vs := [_]) rfl Try.sizeOf3 rfl rfl ?_ | refine Lstore 1 rfl rfl rfl rfl (v := (.int .i64 _)) rfl H rfl (vs := [_]) rfl Try.sizeOf3 rfl rfl ?_ | refine Lstore 2 rfl rfl rfl rfl (v := (.int .i64 _)) rfl H rfl (vs := [_]) rfl Try.sizeOf3 rfl rfl ?_ | refine Lstore 3 rfl rfl rfl rfl (v := (.int .i64 _)) rfl H rfl (vs := [_]) rfl Try.sizeOf3 rfl rfl ?_ | refine Lstore 4 rfl rfl rfl rfl (v := (.int .i64 _)) rfl H rfl (vs := [_]) rfl Try.sizeOf3 rfl rfl ?_ | refine Lstore 5 rfl rfl rfl rfl (v := (.int .i64 _)) rfl H rfl (vs := [_]) rfl Try.sizeOf3 rfl rfl ?_ | refine Lstore 6 rfl rfl rfl rfl (v := (.int .i64 _)) rfl H rfl (vs := [_]) rfl Try.sizeOf3 rfl rfl ?_); intro w H
  refine e_list (e_then ⟨⟨cell_blk (k := 4) rfl rfl w H, cell_blk (k := 3) rfl rfl w H, cell_blk (k := 0) rfl rfl w H, trivial⟩, ?_⟩)
  refine M1 rfl rfl (y_nilCheck rfl rfl) ?_
  refine M1 rfl rfl (y_fieldAddr 2 rfl rfl Try.underlying168 rfl Try.sizeOf37 rfl) ?_
  refine M2 ?_
  (first | refine Lstore 0 rfl rfl rfl rfl (v := (.int .i64 _)) rfl H rfl (vs := [_]) rfl Try.sizeOf37 rfl rfl ?_ | refine Lstore 1 rfl rfl rfl rfl (v := (.int .i64 _)) rfl H rfl (vs := [_]) rfl Try.sizeOf37 rfl rfl ?_ | refine Lstore 2 rfl rfl rfl rfl (v := (.int .i64 _)) rfl H rfl (vs := [_]) rfl Try.sizeOf37 rfl rfl ?_ | refine Lstore 3 rfl rfl rfl rfl (v := (.int .i64 _)) rfl H rfl (vs := [_]) rfl Try.sizeOf37 rfl rfl ?_ | refine Lstore 4 rfl rfl rfl rfl (v := (.int .i64 _)) rfl H rfl (vs := [_]) rfl Try.sizeOf37 rfl rfl ?_ | refine Lstore 5 rfl rfl rfl rfl (v := (.int .i64 _)) rfl H rfl (vs := [_]) rfl Try.sizeOf37 rfl rfl ?_ | refine Lstore 6 rfl rfl rfl rfl (v := (.int .i64 _)) rfl H rfl (vs := [_]) rfl Try.sizeOf37 rfl rfl ?_); intro w H
  refine e_list (e_then ⟨⟨cell_blk (k := 4) rfl rfl w H, cell_blk (k := 3) rfl rfl w H, cell_blk (k := 0) rfl rfl w H, trivial⟩, ?_⟩)
  refine Mend ?_; (repeat (first | (with_reducible first | refine e_then ?_ | refine e_block ?_ | refine e_then_ret ?_ | refine e_block_ret ?_ | refine e_then_exit ?_ | refine e_block_here ?_ | refine e_then_panic ?_ | refine e_block_panic ?_) | refine e_block_on rfl ?_))
  refine r_0n rfl ?_
  exact ⟨⟨_, rfl⟩, rfl, H.tail⟩
-- »wire_reading_int__D1_panic
-- «wire_reading_string__D1_ret»
theorem wire_reading_string__D1_ret {ga gr : Nat} {Rw : World → Prop} (hR : Rw w) :
    CallsD Try.prog 150 #[.pointer (some ⟨ga, 0, none⟩), .pointer (some ⟨gr, 0, none⟩)] .returning w fun e u' w' => (∃ v, e = .returned v) ∧ settle u' = .returning ∧ Rw w' := by
  refine d_enter (xa := [.pointer (some ⟨ga, 0, none⟩), .pointer (some ⟨gr, 0, none⟩)]) (v := .nilIface) (U := .returning) 25 Try.func150 rfl rfl rfl rfl rfl rfl rfl rfl rfl rfl rfl (fun c₀ cs hu => .inr ⟨by simp [recoverD, hu], rfl, rfl⟩) ?_
  have H := Heap.init w
  refine wp_seq ?_
  refine wp_seq ?_
  -- R1
  refine c_region ?_
  refine L1 rfl rfl H (y_move (v := .nilIface) rfl rfl) ?_
  refine L1 rfl rfl H (y_iface_eql_nil2 rfl rfl rfl Try.underlying20) ?_
  refine e_list ?_; (repeat (first | (with_reducible first | refine e_then ?_ | refine e_block ?_ | refine e_then_ret ?_ | refine e_block_ret ?_ | refine e_then_exit ?_ | refine e_block_here ?_ | refine e_then_panic ?_ | refine e_block_panic ?_) | refine e_block_on rfl ?_))
  refine c_t rfl ?_   -- if 0
  refine wp_ret ?_; (repeat (first | (with_reducible first | refine e_then ?_ | refine e_block ?_ | refine e_then_ret ?_ | refine e_block_ret ?_ | refine e_then_exit ?_ | refine e_block_here ?_ | refine e_then_panic ?_ | refine e_block_panic ?_) | refine e_block_on rfl ?_))
  refine r_0 rfl ?_
  exact ⟨⟨_, rfl⟩, rfl, hR⟩
-- »wire_reading_string__D1_ret
-- «wire_reading_string__D1_panic»
theorem wire_reading_string__D1_panic {ga gr a1 : Nat} {c : Int} (H : Heap w0 (rdr w0 g A cap b a1 err (Ent.blk ga 3 [.int .i64 at_] :: Ent.blk gr 88 [.pointer (some ⟨g, 0, none⟩)] :: R)) w) :
    CallsD Try.prog 150 #[.pointer (some ⟨ga, 0, none⟩), .pointer (some ⟨gr, 0, none⟩)] (.panicking (fault c)) w fun e u' w' => (∃ v, e = .returned v) ∧ settle u' = .returning ∧
      Heap w0 (rdr w0 g A cap b at_ c (Ent.blk ga 3 [.int .i64 at_] :: Ent.blk gr 88 [.pointer (some ⟨g, 0, none⟩)] :: R)) w' := by
  refine d_enter (xa := [.pointer (some ⟨ga, 0, none⟩), .pointer (some ⟨gr, 0, none⟩)]) (v := .iface 172 (.agg #[.int .i64 c])) (U := .panicking [{ v := .iface 172 (.agg #[.int .i64 c]), recovered := true }]) 25 Try.func150 rfl rfl rfl rfl rfl rfl rfl rfl rfl rfl rfl (fun c₀ cs hu => .inl (by simp [recoverD, hu])) ?_
  refine wp_seq ?_
  refine wp_seq ?_
  -- R1
  refine c_region ?_
  refine L1 rfl rfl H (y_move (v := .iface 172 (.agg #[.int .i64 c])) rfl rfl) ?_
  refine L1 rfl rfl H (y_iface_eql_nil rfl rfl rfl Try.underlying20) ?_
  refine e_list ?_; (repeat (first | (with_reducible first | refine e_then ?_ | refine e_block ?_ | refine e_then_ret ?_ | refine e_block_ret ?_ | refine e_then_exit ?_ | refine e_block_here ?_ | refine e_then_panic ?_ | refine e_block_panic ?_) | refine e_block_on rfl ?_))
  refine c_f rfl ?_   -- if 0
  refine wp_skip ?_; (repeat (first | (with_reducible first | refine e_then ?_ | refine e_block ?_ | refine e_then_ret ?_ | refine e_block_ret ?_ | refine e_then_exit ?_ | refine e_block_here ?_ | refine e_then_panic ?_ | refine e_block_panic ?_) | refine e_block_on rfl ?_))
  refine wp_seq ?_
  -- R2
  refine c_region ?_
  refine L1 rfl rfl H (y_move (v := .iface 172 (.agg #[.int .i64 c])) rfl rfl) ?_
  refine L1 rfl rfl H (y_assert_ok rfl rfl Try.underlying172 (by intro ms h; cases h)) ?_
  refine L1 rfl rfl H (y_move (v := (.tuple _)) rfl rfl) ?_
  refine L1 rfl rfl H (y_extract (v := (.agg _)) rfl rfl rfl) ?_
  refine L1 rfl rfl H (y_extract (v := (.bool _)) rfl rfl rfl) ?_
  refine Lalloc rfl rfl rfl H Try.zeroValue172 (cs := [_]) rfl ?_; intro b3 w H
  (first | refine Lstore 0 rfl rfl rfl rfl (v := (.agg _)) rfl H rfl (vs := [_]) rfl Try.sizeOf172 rfl rfl ?_ | refine Lstore 1 rfl rfl rfl rfl (v := (.agg _)) rfl H rfl (vs := [_]) rfl Try.sizeOf172 rfl rfl ?_ | refine Lstore 2 rfl rfl rfl rfl (v := (.agg _)) rfl H rfl (vs := [_]) rfl Try.sizeOf172 rfl rfl ?_ | refine Lstore 3 rfl rfl rfl rfl (v := (.agg _)) rfl H rfl (vs := [_]) rfl Try.sizeOf172 rfl rfl ?_ | refine Lstore 4 rfl rfl rfl rfl (v := (.agg _)) rfl H rfl (vs := [_]) rfl Try.sizeOf172 rfl rfl ?_ | refine Lstore 5 rfl rfl rfl rfl (v := (.agg _)) rfl H rfl (vs := [_]) rfl Try.sizeOf172 rfl rfl ?_ | refine Lstore 6 rfl rfl rfl rfl (v := (.agg _)) rfl H rfl (vs := [_]) rfl Try.sizeOf172 rfl rfl ?_); intro w H
  refine L1 rfl rfl H (y_assign (v := (.bool _)) rfl rfl) ?_
  refine e_list ?_; (repeat (first | (with_reducible first | refine e_then ?_ | refine e_block ?_ | refine e_then_ret ?_ | refine e_block_ret ?_ | refine e_then_exit ?_ | refine e_block_here ?_ | refine e_then_panic ?_ | refine e_block_panic ?_) | refine e_block_on rfl ?_))
  refine wp_seq ?_
  refine wp_seq ?_
  -- R3
  refine c_region ?_
  refine L1 rfl rfl H (y_move (v := (.bool _)) rfl rfl) ?_
  refine L1 rfl rfl H (y_not rfl rfl) ?_
  refine e_list ?_; (repeat (first | (with_reducible first | refine e_then ?_ | refine e_block ?_ | refine e_then_ret ?_ | refine e_block_ret ?_ | refine e_then_exit ?_ | refine e_block_here ?_ | refine e_then_panic ?_ | refine e_block_panic ?_) | refine e_block_on rfl ?_))
  refine c_f rfl ?_   -- if 1
  refine wp_skip ?_; (repeat (first | (with_reducible first | refine e_then ?_ | refine e_block ?_ | refine e_then_ret ?_ | refine e_block_ret ?_ | refine e_then_exit ?_ | refine e_block_here ?_ | refine e_then_panic ?_ | refine e_block_panic ?_) | refine e_block_on rfl ?_))
  -- R5 draws
  refine c_mix [true, true, true, true, true, true, true, false, true, true, false] (CellsAt [(⟨gr, 0, none⟩, .pointer (some ⟨g, 0, none⟩)), (⟨ga, 0, none⟩, .int .i64 (at_ : Nat)), (⟨b3, 0, none⟩, .int .i64 c)]) (by kernel_rfl) (by kernel_rfl) (by repeat (first | exact pk_body | refine pk_then ?_ | refine pk_block ?_)) H (fun w H => ⟨⟨cell_blk (k := 4) rfl rfl w H, cell_blk (k := 3) rfl rfl w H, cell_blk (k := 0) rfl rfl w H, trivial⟩, ?_⟩)
  refine M1 rfl rfl (y_load (v := (.pointer _)) rfl rfl Try.isAgg88 (fun w h => h.1)) ?_
  refine M1 rfl rfl (y_load (v := (.pointer _)) rfl rfl Try.isAgg88 (fun w h => h.1)) ?_
  refine M1 rfl rfl (y_load (v := (.int .i64 _)) rfl rfl Try.isAgg3 (fun w h => h.2.1)) ?_
  refine M1 rfl rfl (y_fieldAddr 0 rfl rfl Try.underlying172 rfl Try.sizeOf37 rfl) ?_
  refine M1 rfl rfl (y_load (v := (.int .i64 _)) rfl rfl Try.isAgg37 (fun w h => h.2.2.1)) ?_
  refine M1 rfl rfl (y_nilCheck rfl rfl) ?_
  refine M1 rfl rfl (y_fieldAddr 1 rfl rfl Try.underlying168 rfl Try.sizeOf3 rfl) ?_
  refine M2 ?_
  (first | refine Lstore 0 rfl rfl rfl rfl (v := (.int .i64 _)) rfl H rfl (vs := [_]) rfl Try.sizeOf3 rfl rfl ?_ | refine Lstore 1 rfl rfl rfl rfl (v := (.int .i64 _)) rfl H rfl (vs := [_]) rfl Try.sizeOf3 rfl rfl ?_ | refine Lstore 2 rfl rfl rfl rfl (v := (.int .i64 _)) rfl H rfl (vs := [_]) rfl Try.sizeOf3 rfl rfl ?_ | refine Lstore 3 rfl rfl rfl rfl (v := (.int .i64 _)) rfl H rfl (vs := [_]) rfl Try.sizeOf3 rfl rfl ?_ | refine Lstore 4 rfl rfl rfl rfl (v := (.int .i64 _)) rfl H rfl (vs := [_]) rfl Try.sizeOf3 rfl rfl ?_ | refine Lstore 5 rfl rfl rfl rfl (v := (.int .i64 _)) rfl H rfl (vs := [_]) rfl Try.sizeOf3 rfl rfl ?_ | refine Lstore 6 rfl rfl rfl rfl (v := (.int .i64 _)) rfl H rfl (vs := [_]) rfl Try.sizeOf3 rfl rfl ?_); intro w H
  refine e_list (e_then ⟨⟨cell_blk (k := 4) rfl rfl w H, cell_blk (k := 3) rfl rfl w H, cell_blk (k := 0) rfl rfl w H, trivial⟩, ?_⟩)
  refine M1 rfl rfl (y_nilCheck rfl rfl) ?_
  refine M1 rfl rfl (y_fieldAddr 2 rfl rfl Try.underlying168 rfl Try.sizeOf37 rfl) ?_
  refine M2 ?_
  (first | refine Lstore 0 rfl rfl rfl rfl (v := (.int .i64 _)) rfl H rfl (vs := [_]) rfl Try.sizeOf37 rfl rfl ?_ | refine Lstore 1 rfl rfl rfl rfl (v := (.int .i64 _)) rfl H rfl (vs := [_]) rfl Try.sizeOf37 rfl rfl ?_ | refine Lstore 2 rfl rfl rfl rfl (v := (.int .i64 _)) rfl H rfl (vs := [_]) rfl Try.sizeOf37 rfl rfl ?_ | refine Lstore 3 rfl rfl rfl rfl (v := (.int .i64 _)) rfl H rfl (vs := [_]) rfl Try.sizeOf37 rfl rfl ?_ | refine Lstore 4 rfl rfl rfl rfl (v := (.int .i64 _)) rfl H rfl (vs := [_]) rfl Try.sizeOf37 rfl rfl ?_ | refine Lstore 5 rfl rfl rfl rfl (v := (.int .i64 _)) rfl H rfl (vs := [_]) rfl Try.sizeOf37 rfl rfl ?_ | refine Lstore 6 rfl rfl rfl rfl (v := (.int .i64 _)) rfl H rfl (vs := [_]) rfl Try.sizeOf37 rfl rfl ?_); intro w H
  refine e_list (e_then ⟨⟨cell_blk (k := 4) rfl rfl w H, cell_blk (k := 3) rfl rfl w H, cell_blk (k := 0) rfl rfl w H, trivial⟩, ?_⟩)
  refine Mend ?_; (repeat (first | (with_reducible first | refine e_then ?_ | refine e_block ?_ | refine e_then_ret ?_ | refine e_block_ret ?_ | refine e_then_exit ?_ | refine e_block_here ?_ | refine e_then_panic ?_ | refine e_block_panic ?_) | refine e_block_on rfl ?_))
  refine r_0n rfl ?_
  exact ⟨⟨_, rfl⟩, rfl, H.tail⟩
-- »wire_reading_string__D1_panic
-- «wire_reading_L_byte__D1_ret»
theorem wire_reading_L_byte__D1_ret {ga gr : Nat} {Rw : World → Prop} (hR : Rw w) :
    CallsD Try.prog 147 #[.pointer (some ⟨ga, 0, none⟩), .pointer (some ⟨gr, 0, none⟩)] .returning w fun e u' w' => (∃ v, e = .returned v) ∧ settle u' = .returning ∧ Rw w' := by
  refine d_enter (xa := [.pointer (some ⟨ga, 0, none⟩), .pointer (some ⟨gr, 0, none⟩)]) (v := .nilIface) (U := .returning) 25 Try.func147 rfl rfl rfl rfl rfl rfl rfl rfl rfl rfl rfl (fun c₀ cs hu => .inr ⟨by simp [recoverD, hu], rfl, rfl⟩) ?_
  have H := Heap.init w
  refine wp_seq ?_
  refine wp_seq ?_
  -- R1
  refine c_region ?_
  refine L1 rfl rfl H (y_move (v := .nilIface) rfl rfl) ?_
  refine L1 rfl rfl H (y_iface_eql_nil2 rfl rfl rfl Try.underlying20) ?_
  refine e_list ?_; (repeat (first | (with_reducible first | refine e_then ?_ | refine e_block ?_ | refine e_then_ret ?_ | refine e_block_ret ?_ | refine e_then_exit ?_ | refine e_block_here ?_ | refine e_then_panic ?_ | refine e_block_panic ?_) | refine e_block_on rfl ?_))
  refine c_t rfl ?_   -- if 0
  refine wp_ret ?_; (repeat (first | (with_reducible first | refine e_then ?_ | refine e_block ?_ | refine e_then_ret ?_ | refine e_block_ret ?_ | refine e_then_exit ?_ | refine e_block_here ?_ | refine e_then_panic ?_ | refine e_block_panic ?_) | refine e_block_on rfl ?_))
  refine r_0 rfl ?_
  exact ⟨⟨_, rfl⟩, rfl, hR⟩
-- »wire_reading_L_byte__D1_ret
-- «wire_reading_L_byte__D1_panic»
theorem wire_reading_L_byte__D1_panic {ga gr a1 : Nat} {c : Int} (H : Heap w0 (rdr w0 g A cap b a1 err (Ent.blk ga 3 [.int .i64 at_] :: Ent.blk gr 88 [.pointer (some ⟨g, 0, none⟩)] :: R)) w) :
    CallsD Try.prog 147 #[.pointer (some ⟨ga, 0, none⟩), .pointer (some ⟨gr, 0, none⟩)] (.panicking (fault c)) w fun e u' w' => (∃ v, e = .returned v) ∧ settle u' = .returning ∧
      Heap w0 (rdr w0 g A cap b at_ c (Ent.blk ga 3 [.int .i64 at_] :: Ent.blk gr 88 [.pointer (some ⟨g, 0, none⟩)] :: R)) w' := by
  refine d_enter (xa := [.pointer (some ⟨ga, 0, none⟩), .pointer (some ⟨gr, 0, none⟩)]) (v := .iface 172 (.agg #[.int .i64 c])) (U := .panicking [{ v := .iface 172 (.agg #[.int .i64 c]), recovered := true }]) 25 Try.func147 rfl rfl rfl rfl rfl rfl rfl rfl rfl rfl rfl (fun c₀ cs hu => .inl (by simp [recoverD, hu])) ?_
  refine wp_seq ?_
  refine wp_seq ?_
  -- R1
  refine c_region ?_
  refine L1 rfl rfl H (y_move (v := .iface 172 (.agg #[.int .i64 c])) rfl rfl) ?_
  refine L1 rfl rfl H (y_iface_eql_nil rfl rfl rfl Try.underlying20) ?_
  refine e_list ?_; (repeat (first | (with_reducible first | refine e_then ?_ | refine e_block ?_ | refine e_then_ret ?_ | refine e_block_ret ?_ | refine e_then_exit ?_ | refine e_block_here ?_ | refine e_then_panic ?_ | refine e_block_panic ?_) | refine e_block_on rfl ?_))
  refine c_f rfl ?_   -- if 0
  refine wp_skip ?_; (repeat (first | (with_reducible first | refine e_then ?_ | refine e_block ?_ | refine e_then_ret ?_ | refine e_block_ret ?_ | refine e_then_exit ?_ | refine e_block_here ?_ | refine e_then_panic ?_ | refine e_block_panic ?_) | refine e_block_on rfl ?_))
  refine wp_seq ?_
  -- R2
  refine c_region ?_
  refine L1 rfl rfl H (y_move (v := .iface 172 (.agg #[.int .i64 c])) rfl rfl) ?_
  refine L1 rfl rfl H (y_assert_ok rfl rfl Try.underlying172 (by intro ms h; cases h)) ?_
  refine L1 rfl rfl H (y_move (v := (.tuple _)) rfl rfl) ?_
  refine L1 rfl rfl H (y_extract (v := (.agg _)) rfl rfl rfl) ?_
  refine L1 rfl rfl H (y_extract (v := (.bool _)) rfl rfl rfl) ?_
  refine Lalloc rfl rfl rfl H Try.zeroValue172 (cs := [_]) rfl ?_; intro b3 w H
  (first | refine Lstore 0 rfl rfl rfl rfl (v := (.agg _)) rfl H rfl (vs := [_]) rfl Try.sizeOf172 rfl rfl ?_ | refine Lstore 1 rfl rfl rfl rfl (v := (.agg _)) rfl H rfl (vs := [_]) rfl Try.sizeOf172 rfl rfl ?_ | refine Lstore 2 rfl rfl rfl rfl (v := (.agg _)) rfl H rfl (vs := [_]) rfl Try.sizeOf172 rfl rfl ?_ | refine Lstore 3 rfl rfl rfl rfl (v := (.agg _)) rfl H rfl (vs := [_]) rfl Try.sizeOf172 rfl rfl ?_ | refine Lstore 4 rfl rfl rfl rfl (v := (.agg _)) rfl H rfl (vs := [_]) rfl Try.sizeOf172 rfl rfl ?_ | refine Lstore 5 rfl rfl rfl rfl (v := (.agg _)) rfl H rfl (vs := [_]) rfl Try.sizeOf172 rfl rfl ?_ | refine Lstore 6 rfl rfl rfl rfl (v := (.agg _)) rfl H rfl (vs := [_]) rfl Try.sizeOf172 rfl rfl ?_); intro w H
  refine L1 rfl rfl H (y_assign (v := (.bool _)) rfl rfl) ?_
  refine e_list ?_; (repeat (first | (with_reducible first | refine e_then ?_ | refine e_block ?_ | refine e_then_ret ?_ | refine e_block_ret ?_ | refine e_then_exit ?_ | refine e_block_here ?_ | refine e_then_panic ?_ | refine e_block_panic ?_) | refine e_block_on rfl ?_))
  refine wp_seq ?_
  refine wp_seq ?_
  -- R3
  refine c_region ?_
  refine L1 rfl rfl H (y_move (v := (.bool _)) rfl rfl) ?_
  refine L1 rfl rfl H (y_not rfl rfl) ?_
  refine e_list ?_; (repeat (first | (with_reducible first | refine e_then ?_ | refine e_block ?_ | refine e_then_ret ?_ | refine e_block_ret ?_ | refine e_then_exit ?_ | refine e_block_here ?_ | refine e_then_panic ?_ | refine e_block_panic ?_) | refine e_block_on rfl ?_))
  refine c_f rfl ?_   -- if 1
  refine wp_skip ?_; (repeat (first | (with_reducible first | refine e_then ?_ | refine e_block ?_ | refine e_then_ret ?_ | refine e_block_ret ?_ | refine e_then_exit ?_ | refine e_block_here ?_ | refine e_then_panic ?_ | refine e_block_panic ?_) | refine e_block_on rfl ?_))
  -- R5 draws
  refine c_mix [true, true, true, true, true, true, true, false, true, true, false] (CellsAt [(⟨gr, 0, none⟩, .pointer (some ⟨g, 0, none⟩)), (⟨ga, 0, none⟩, .int .i64 (at_ : Nat)), (⟨b3, 0, none⟩, .int .i64 c)]) (by kernel_rfl) (by kernel_rfl) (by repeat (first | exact pk_body | refine pk_then ?_ | refine pk_block ?_)) H (fun w H => ⟨⟨cell_blk (k := 4) rfl rfl w H, cell_blk (k := 3) rfl rfl w H, cell_blk (k := 0) rfl rfl w H, trivial⟩, ?_⟩)
  refine M1 rfl rfl (y_load (v := (.pointer _)) rfl rfl Try.isAgg88 (fun w h => h.1)) ?_
  refine M1 rfl rfl (y_load (v := (.pointer _)) rfl rfl Try.isAgg88 (fun w h => h.1)) ?_
  refine M1 rfl rfl (y_load (v := (.int .i64 _)) rfl rfl Try.isAgg3 (fun w h => h.2.1)) ?_
  refine M1 rfl rfl (y_fieldAddr 0 rfl rfl Try.underlying172 rfl Try.sizeOf37 rfl) ?_
  refine M1 rfl rfl (y_load (v := (.int .i64 _)) rfl rfl Try.isAgg37 (fun w h => h.2.2.1)) ?_
  refine M1 rfl rfl (y_nilCheck rfl rfl) ?_
  refine M1 rfl rfl (y_fieldAddr 1 rfl rfl Try.underlying168 rfl Try.sizeOf3 rfl) ?_
  refine M2 ?_
  (first | refine Lstore 0 rfl rfl rfl rfl (v := (.int .i64 _)) rfl H rfl (vs := [_]) rfl Try.sizeOf3 rfl rfl ?_ | refine Lstore 1 rfl rfl rfl rfl (v := (.int .i64 _)) rfl H rfl (vs := [_]) rfl Try.sizeOf3 rfl rfl ?_ | refine Lstore 2 rfl rfl rfl rfl (v := (.int .i64 _)) rfl H rfl (vs := [_]) rfl Try.sizeOf3 rfl rfl ?_ | refine Lstore 3 rfl rfl rfl rfl (v := (.int .i64 _)) rfl H rfl (vs := [_]) rfl Try.sizeOf3 rfl rfl ?_ | refine Lstore 4 rfl rfl rfl rfl (v := (.int .i64 _)) rfl H rfl (vs := [_]) rfl Try.sizeOf3 rfl rfl ?_ | refine Lstore 5 rfl rfl rfl rfl (v := (.int .i64 _)) rfl H rfl (vs := [_]) rfl Try.sizeOf3 rfl rfl ?_ | refine Lstore 6 rfl rfl rfl rfl (v := (.int .i64 _)) rfl H rfl (vs := [_]) rfl Try.sizeOf3 rfl rfl ?_); intro w H
  refine e_list (e_then ⟨⟨cell_blk (k := 4) rfl rfl w H, cell_blk (k := 3) rfl rfl w H, cell_blk (k := 0) rfl rfl w H, trivial⟩, ?_⟩)
  refine M1 rfl rfl (y_nilCheck rfl rfl) ?_
  refine M1 rfl rfl (y_fieldAddr 2 rfl rfl Try.underlying168 rfl Try.sizeOf37 rfl) ?_
  refine M2 ?_
  (first | refine Lstore 0 rfl rfl rfl rfl (v := (.int .i64 _)) rfl H rfl (vs := [_]) rfl Try.sizeOf37 rfl rfl ?_ | refine Lstore 1 rfl rfl rfl rfl (v := (.int .i64 _)) rfl H rfl (vs := [_]) rfl Try.sizeOf37 rfl rfl ?_ | refine Lstore 2 rfl rfl rfl rfl (v := (.int .i64 _)) rfl H rfl (vs := [_]) rfl Try.sizeOf37 rfl rfl ?_ | refine Lstore 3 rfl rfl rfl rfl (v := (.int .i64 _)) rfl H rfl (vs := [_]) rfl Try.sizeOf37 rfl rfl ?_ | refine Lstore 4 rfl rfl rfl rfl (v := (.int .i64 _)) rfl H rfl (vs := [_]) rfl Try.sizeOf37 rfl rfl ?_ | refine Lstore 5 rfl rfl rfl rfl (v := (.int .i64 _)) rfl H rfl (vs := [_]) rfl Try.sizeOf37 rfl rfl ?_ | refine Lstore 6 rfl rfl rfl rfl (v := (.int .i64 _)) rfl H rfl (vs := [_]) rfl Try.sizeOf37 rfl rfl ?_); intro w H
  refine e_list (e_then ⟨⟨cell_blk (k := 4) rfl rfl w H, cell_blk (k := 3) rfl rfl w H, cell_blk (k := 0) rfl rfl w H, trivial⟩, ?_⟩)
  refine Mend ?_; (repeat (first | (with_reducible first | refine e_then ?_ | refine e_block ?_ | refine e_then_ret ?_ | refine e_block_ret ?_ | refine e_then_exit ?_ | refine e_block_here ?_ | refine e_then_panic ?_ | refine e_block_panic ?_) | refine e_block_on rfl ?_))
  refine r_0n rfl ?_
  exact ⟨⟨_, rfl⟩, rfl, H.tail⟩
-- »wire_reading_L_byte__D1_panic
-- «wire_reading_byte__D1_ret»
theorem wire_reading_byte__D1_ret {ga gr : Nat} {Rw : World → Prop} (hR : Rw w) :
    CallsD Try.prog 185 #[.pointer (some ⟨ga, 0, none⟩), .pointer (some ⟨gr, 0, none⟩)] .returning w fun e u' w' => (∃ v, e = .returned v) ∧ settle u' = .returning ∧ Rw w' := by
  refine d_enter (xa := [.pointer (some ⟨ga, 0, none⟩), .pointer (some ⟨gr, 0, none⟩)]) (v := .nilIface) (U := .returning) 25 Try.func185 rfl rfl rfl rfl rfl rfl rfl rfl rfl rfl rfl (fun c₀ cs hu => .inr ⟨by simp [recoverD, hu], rfl, rfl⟩) ?_
  have H := Heap.init w
  refine wp_seq ?_
  refine wp_seq ?_
  -- R1
  refine c_region ?_
  refine L1 rfl rfl H (y_move (v := .nilIface) rfl rfl) ?_
  refine L1 rfl rfl H (y_iface_eql_nil2 rfl rfl rfl Try.underlying20) ?_
  refine e_list ?_; (repeat (first | (with_reducible first | refine e_then ?_ | refine e_block ?_ | refine e_then_ret ?_ | refine e_block_ret ?_ | refine e_then_exit ?_ | refine e_block_here ?_ | refine e_then_panic ?_ | refine e_block_panic ?_) | refine e_block_on rfl ?_))
  refine c_t rfl ?_   -- if 0
  refine wp_ret ?_; (repeat (first | (with_reducible first | refine e_then ?_ | refine e_block ?_ | refine e_then_ret ?_ | refine e_block_ret ?_ | refine e_then_exit ?_ | refine e_block_here ?_ | refine e_then_panic ?_ | refine e_block_panic ?_) | refine e_block_on rfl ?_))
  refine r_0 rfl ?_
  exact ⟨⟨_, rfl⟩, rfl, hR⟩
-- »wire_reading_byte__D1_ret
-- «wire_reading_byte__D1_panic»
theorem wire_reading_byte__D1_panic {ga gr a1 : Nat} {c : Int} (H : Heap w0 (rdr w0 g A cap b a1 err (Ent.blk ga 3 [.int .i64 at_] :: Ent.blk gr 88 [.pointer (some ⟨g, 0, none⟩)] :: R)) w) :
    CallsD Try.prog 185 #[.pointer (some ⟨ga, 0, none⟩), .pointer (some ⟨gr, 0, none⟩)] (.panicking (fault c)) w fun e u' w' => (∃ v, e = .returned v) ∧ settle u' = .returning ∧
      Heap w0 (rdr w0 g A cap b at_ c (Ent.blk ga 3 [.int .i64 at_] :: Ent.blk gr 88 [.pointer (some ⟨g, 0, none⟩)] :: R)) w' := by
  refine d_enter (xa := [.pointer (some ⟨ga, 0, none⟩), .pointer (some ⟨gr, 0, none⟩)]) (v := .iface 172 (.agg #[.int .i64 c])) (U := .panicking [{ v := .iface 172 (.agg #[.int .i64 c]), recovered := true }]) 25 Try.func185 rfl rfl rfl rfl rfl rfl rfl rfl rfl rfl rfl (fun c₀ cs hu => .inl (by simp [recoverD, hu])) ?_
  refine wp_seq ?_
  refine wp_seq ?_
  -- R1
  refine c_region ?_
  refine L1 rfl rfl H (y_move (v := .iface 172 (.agg #[.int .i64 c])) rfl rfl) ?_
  refine L1 rfl rfl H (y_iface_eql_nil rfl rfl rfl Try.underlying20) ?_
  refine e_list ?_; (repeat (first | (with_reducible first | refine e_then ?_ | refine e_block ?_ | refine e_then_ret ?_ | refine e_block_ret ?_ | refine e_then_exit ?_ | refine e_block_here ?_ | refine e_then_panic ?_ | refine e_block_panic ?_) | refine e_block_on rfl ?_))
  refine c_f rfl ?_   -- if 0
  refine wp_skip ?_; (repeat (first | (with_reducible first | refine e_then ?_ | refine e_block ?_ | refine e_then_ret ?_ | refine e_block_ret ?_ | refine e_then_exit ?_ | refine e_block_here ?_ | refine e_then_panic ?_ | refine e_block_panic ?_) | refine e_block_on rfl ?_))
  refine wp_seq ?_
  -- R2
  refine c_region ?_
  refine L1 rfl rfl H (y_move (v := .iface 172 (.agg #[.int .i64 c])) rfl rfl) ?_
  refine L1 rfl rfl H (y_assert_ok rfl rfl Try.underlying172 (by intro ms h; cases h)) ?_
  refine L1 rfl rfl H (y_move (v := (.tuple _)) rfl rfl) ?_
  refine L1 rfl rfl H (y_extract (v := (.agg _)) rfl rfl rfl) ?_
  refine L1 rfl rfl H (y_extract (v := (.bool _)) rfl rfl rfl) ?_
  refine Lalloc rfl rfl rfl H Try.zeroValue172 (cs := [_]) rfl ?_; intro b3 w H
  (first | refine Lstore 0 rfl rfl rfl rfl (v := (.agg _)) rfl H rfl (vs := [_]) rfl Try.sizeOf172 rfl rfl ?_ | refine Lstore 1 rfl rfl rfl rfl (v := (.agg _)) rfl H rfl (vs := [_]) rfl Try.sizeOf172 rfl rfl ?_ | refine Lstore 2 rfl rfl rfl rfl (v := (.agg _)) rfl H rfl (vs := [_]) rfl Try.sizeOf172 rfl rfl ?_ | refine Lstore 3 rfl rfl rfl rfl (v := (.agg _)) rfl H rfl (vs := [_]) rfl Try.sizeOf172 rfl rfl ?_ | refine Lstore 4 rfl rfl rfl rfl (v := (.agg _)) rfl H rfl (vs := [_]) rfl Try.sizeOf172 rfl rfl ?_ | refine Lstore 5 rfl rfl rfl rfl (v := (.agg _)) rfl H rfl (vs := [_]) rfl Try.sizeOf172 rfl rfl ?_ | refine Lstore 6 rfl rfl rfl rfl (v := (.agg _)) rfl H rfl (vs := [_]) rfl Try.sizeOf172 rfl rfl ?_); intro w H
  refine L1 rfl rfl H (y_assign (v := (.bool _)) rfl rfl) ?_
  refine e_list ?_; (repeat (first | (with_reducible first | refine e_then ?_ | refine e_block ?_ | refine e_then_ret ?_ | refine e_block_ret ?_ | refine e_then_exit ?_ | refine e_block_here ?_ | refine e_then_panic ?_ | refine e_block_panic ?_) | refine e_block_on rfl ?_))
  refine wp_seq ?_
  refine wp_seq ?_
  -- R3
  refine c_region ?_
  refine L1 rfl rfl H (y_move (v := (.bool _)) rfl rfl) ?_
  refine L1 rfl rfl H (y_not rfl rfl) ?_
  refine e_list ?_; (repeat (first | (with_reducible first | refine e_then ?_ | refine e_block ?_ | refine e_then_ret ?_ | refine e_block_ret ?_ | refine e_then_exit ?_ | refine e_block_here ?_ | refine e_then_panic ?_ | refine e_block_panic ?_) | refine e_block_on rfl ?_))
  refine c_f rfl ?_   -- if 1
  refine wp_skip ?_; (repeat (first | (with_reducible first | refine e_then ?_ | refine e_block ?_ | refine e_then_ret ?_ | refine e_block_ret ?_ | refine e_then_exit ?_ | refine e_block_here ?_ | refine e_then_panic ?_ | refine e_block_panic ?_) | refine e_block_on rfl ?_))
  -- R5 draws
  refine c_mix [true, true, true, true, true, true, true, false, true, true, false] (CellsAt [(⟨gr, 0, none⟩, .pointer (some ⟨g, 0, none⟩)), (⟨ga, 0, none⟩, .int .i64 (at_ : Nat)), (⟨b3, 0, none⟩, .int .i64 c)]) (by kernel_rfl) (by kernel_rfl) (by repeat (first | exact pk_body | refine pk_then ?_ | refine pk_block ?_)) H (fun w H => ⟨⟨cell_blk (k := 4) rfl rfl w H, cell_blk (k := 3) rfl rfl w H, cell_blk (k := 0) rfl rfl w H, trivial⟩, ?_⟩)
  refine M1 rfl rfl (y_load (v := (.pointer _)) rfl rfl Try.isAgg88 (fun w h => h.1)) ?_
  refine M1 rfl rfl (y_load (v := (.pointer _)) rfl rfl Try.isAgg88 (fun w h => h.1)) ?_
  refine M1 rfl rfl (y_load (v := (.int .i64 _)) rfl rfl Try.isAgg3 (fun w h => h.2.1)) ?_
  refine M1 rfl rfl (y_fieldAddr 0 rfl rfl Try.underlying172 rfl Try.sizeOf37 rfl) ?_
  refine M1 rfl rfl (y_load (v := (.int .i64 _)) rfl rfl Try.isAgg37 (fun w h => h.2.2.1)) ?_
  refine M1 rfl rfl (y_nilCheck rfl rfl) ?_
  refine M1 rfl rfl (y_fieldAddr 1 rfl rfl Try.underlying168 rfl Try.sizeOf3 rfl) ?_
  refine M2 ?_
  (first | refine Lstore 0 rfl rfl rfl rfl (v := (.int .i64 _)) rfl H rfl (vs := [_]) rfl Try.sizeOf3 rfl rfl ?_ | refine Lstore 1 rfl rfl rfl rfl (v := (.int .i64 _)) rfl H rfl (vs := [_]) rfl Try.sizeOf3 rfl rfl ?_ | refine Lstore 2 rfl rfl rfl rfl (v := (.int .i64 _)) rfl H rfl (vs := [_]) rfl Try.sizeOf3 rfl rfl ?_ | refine Lstore 3 rfl rfl rfl rfl (v := (.int .i64 _)) rfl H rfl (vs := [_]) rfl Try.sizeOf3 rfl rfl ?_ | refine Lstore 4 rfl rfl rfl rfl (v := (.int .i64 _)) rfl H rfl (vs := [_]) rfl Try.sizeOf3 rfl rfl ?_ | refine Lstore 5 rfl rfl rfl rfl (v := (.int .i64 _)) rfl H rfl (vs := [_]) rfl Try.sizeOf3 rfl rfl ?_ | refine Lstore 6 rfl rfl rfl rfl (v := (.int .i64 _)) rfl H rfl (vs := [_]) rfl Try.sizeOf3 rfl rfl ?_); intro w H
  refine e_list (e_then ⟨⟨cell_blk (k := 4) rfl rfl w H, cell_blk (k := 3) rfl rfl w H, cell_blk (k := 0) rfl rfl w H, trivial⟩, ?_⟩)
  refine M1 rfl rfl (y_nilCheck rfl rfl) ?_
  refine M1 rfl rfl (y_fieldAddr 2 rfl rfl Try.underlying168 rfl Try.sizeOf37 rfl) ?_
  refine M2 ?_
  (first | refine Lstore 0 rfl rfl rfl rfl (v := (.int .i64 _)) rfl H rfl (vs := [_]) rfl Try.sizeOf37 rfl rfl ?_ | refine Lstore 1 rfl rfl rfl rfl (v := (.int .i64 _)) rfl H rfl (vs := [_]) rfl Try.sizeOf37 rfl rfl ?_ | refine Lstore 2 rfl rfl rfl rfl (v := (.int .i64 _)) rfl H rfl (vs := [_]) rfl Try.sizeOf37 rfl rfl ?_ | refine Lstore 3 rfl rfl rfl rfl (v := (.int .i64 _)) rfl H rfl (vs := [_]) rfl Try.sizeOf37 rfl rfl ?_ | refine Lstore 4 rfl rfl rfl rfl (v := (.int .i64 _)) rfl H rfl (vs := [_]) rfl Try.sizeOf37 rfl rfl ?_ | refine Lstore 5 rfl rfl rfl rfl (v := (.int .i64 _)) rfl H rfl (vs := [_]) rfl Try.sizeOf37 rfl rfl ?_ | refine Lstore 6 rfl rfl rfl rfl (v := (.int .i64 _)) rfl H rfl (vs := [_]) rfl Try.sizeOf37 rfl rfl ?_); intro w H
  refine e_list (e_then ⟨⟨cell_blk (k := 4) rfl rfl w H, cell_blk (k := 3) rfl rfl w H, cell_blk (k := 0) rfl rfl w H, trivial⟩, ?_⟩)
  refine Mend ?_; (repeat (first | (with_reducible first | refine e_then ?_ | refine e_block ?_ | refine e_then_ret ?_ | refine e_block_ret ?_ | refine e_then_exit ?_ | refine e_block_here ?_ | refine e_then_panic ?_ | refine e_block_panic ?_) | refine e_block_on rfl ?_))
  refine r_0n rfl ?_
  exact ⟨⟨_, rfl⟩, rfl, H.tail⟩
-- »wire_reading_byte__D1_panic
-- «wire_reading_uint64»
theorem wire_reading_uint64_calls {fk : FuncId} {fi ca : List Value} {X R0 : List Ent} (Okp : Value → List Ent → Nat → Prop) (Er : Nat → Prop) (hfk : ∀ args w, (callFunc fk args).run Try.prog w = .ok (.enter fk args) w)
    (hclo : err = 0 → ∀ R' w, Heap w0 (rdr w0 g A cap b at_ 0 (X ++ R')) w → Calls Try.prog fk (fi ++ [] ++ ca).toArray w fun e w' =>
      (∃ v Y kk, Okp v Y kk ∧ e = .returned v ∧ Heap w0 (rdr w0 g A cap b (at_ + kk) 0 (Y ++ (X ++ R'))) w') ∨ (∃ c a' : Nat, Er c ∧ e = .panicked (fault c) ∧ Heap w0 (rdr w0 g A cap b a' 0 (X ++ R')) w'))
    (H : Heap w0 (rdr w0 g A cap b at_ err (X ++ R0)) w) :
    Calls Try.prog 145 #[.pointer (some ⟨g, 0, none⟩), .func (.func fk) fi.toArray ca.toArray] w fun e w' =>
      (err ≠ 0 ∧ e = .returned (.int .u64 0) ∧ Heap w0 (rdr w0 g A cap b at_ err (X ++ R0)) w') ∨
      (err = 0 ∧ ((∃ v Y kk, Okp v Y kk ∧ e = .returned v ∧ Heap w0 (rdr w0 g A cap b (at_ + kk) 0 (Y ++ (X ++ R0))) w') ∨
        (∃ c : Nat, Er c ∧ e = .returned (.int .u64 0) ∧ Heap w0 (rdr w0 g A cap b at_ c (X ++ R0)) w'))) := by
  refine c_enterD (xa := [(.pointer _), (.func (.func fk) fi.toArray ca.toArray)]) 19 Try.func145 rfl rfl rfl ?_
  refine wp_seq ?_
  -- R0
  refine c_region ?_
  refine Lbox rfl rfl rfl (z := (.pointer _)) rfl H (cs := [_]) rfl ?_; intro b2 w H
  refine L1 rfl rfl H (y_assign (v := .int .u64 0) rfl rfl) ?_
  refine e_list ?_; (repeat (first | (with_reducible first | refine e_then ?_ | refine e_block ?_ | refine e_then_ret ?_ | refine e_block_ret ?_ | refine e_then_exit ?_ | refine e_block_here ?_ | refine e_then_panic ?_ | refine e_block_panic ?_) | refine e_block_on rfl ?_))
  refine wp_seq ?_
  refine wp_seq ?_
  -- R1
  refine c_region ?_
  refine L1 rfl rfl H (y_load (v := (.pointer _)) rfl rfl Try.isAgg88 (by first | exact cell_blk (k := 0) rfl rfl | exact cell_blk (k := 1) rfl rfl | exact cell_blk (k := 2) rfl rfl | exact cell_blk (k := 3) rfl rfl | exact cell_blk (k := 4) rfl rfl | exact cell_blk (k := 5) rfl rfl | exact cell_blk (k := 6) rfl rfl | exact cell_blk (k := 7) rfl rfl)) ?_
  refine L1 rfl rfl H (y_nilCheck rfl rfl) ?_
  refine L1 rfl rfl H (y_fieldAddr 2 rfl rfl Try.underlying168 rfl Try.sizeOf37 rfl) ?_
  refine L1 rfl rfl H (y_load (v := (.int .i64 _)) rfl rfl Try.isAgg37 (by first | exact cell_blk (k := 0) rfl rfl | exact cell_blk (k := 1) rfl rfl | exact cell_blk (k := 2) rfl rfl | exact cell_blk (k := 3) rfl rfl | exact cell_blk (k := 4) rfl rfl | exact cell_blk (k := 5) rfl rfl | exact cell_blk (k := 6) rfl rfl | exact cell_blk (k := 7) rfl rfl)) ?_
  refine L1 rfl rfl H (y_neq rfl rfl rfl) ?_
  refine e_list ?_; (repeat (first | (with_reducible first | refine e_then ?_ | refine e_block ?_ | refine e_then_ret ?_ | refine e_block_ret ?_ | refine e_then_exit ?_ | refine e_block_here ?_ | refine e_then_panic ?_ | refine e_block_panic ?_) | refine e_block_on rfl ?_))
  refine c_if rfl (fun h0 => ?_) (fun h0 => ?_)   -- if 0
  · skip
    refine wp_seq ?_
    -- R2
    refine c_region ?_
    refine L1 rfl rfl H (y_move (v := .int .u64 0) rfl rfl) ?_
    refine L1 rfl rfl H (y_assign (v := .int .u64 0) rfl rfl) ?_
    refine e_list ?_; (repeat (first | (with_reducible first | refine e_then ?_ | refine e_block ?_ | refine e_then_ret ?_ | refine e_block_ret ?_ | refine e_then_exit ?_ | refine e_block_here ?_ | refine e_then_panic ?_ | refine e_block_panic ?_) | refine e_block_on rfl ?_))
    refine wp_ret ?_; (repeat (first | (with_reducible first | refine e_then ?_ | refine e_block ?_ | refine e_then_ret ?_ | refine e_block_ret ?_ | refine e_then_exit ?_ | refine e_block_here ?_ | refine e_then_panic ?_ | refine e_block_panic ?_) | refine e_block_on rfl ?_))
    refine rD_1 (v := .int .u64 0) rfl rfl ?_
    exact .inl ⟨h0, rfl, H.tail⟩
  · skip
    have herr : err = 0 := by omega
    subst herr
    refine wp_skip ?_; (repeat (first | (with_reducible first | refine e_then ?_ | refine e_block ?_ | refine e_then_ret ?_ | refine e_block_ret ?_ | refine e_then_exit ?_ | refine e_block_here ?_ | refine e_then_panic ?_ | refine e_block_panic ?_) | refine e_block_on rfl ?_))
    refine wp_seq ?_
    -- R3
    refine c_region ?_
    refine L1 rfl rfl H (y_load (v := (.pointer _)) rfl rfl Try.isAgg88 (by first | exact cell_blk (k := 0) rfl rfl | exact cell_blk (k := 1) rfl rfl | exact cell_blk (k := 2) rfl rfl | exact cell_blk (k := 3) rfl rfl | exact cell_blk (k := 4) rfl rfl | exact cell_blk (k := 5) rfl rfl | exact cell_blk (k := 6) rfl rfl | exact cell_blk (k := 7) rfl rfl)) ?_
    refine L1 rfl rfl H (y_nilCheck rfl rfl) ?_
    refine L1 rfl rfl H (y_fieldAddr 1 rfl rfl Try.underlying168 rfl Try.sizeOf3 rfl) ?_
    refine L1 rfl rfl H (y_load (v := (.int .i64 _)) rfl rfl Try.isAgg3 (by first | exact cell_blk (k := 0) rfl rfl | exact cell_blk (k := 1) rfl rfl | exact cell_blk (k := 2) rfl rfl | exact cell_blk (k := 3) rfl rfl | exact cell_blk (k := 4) rfl rfl | exact cell_blk (k := 5) rfl rfl | exact cell_blk (k := 6) rfl rfl | exact cell_blk (k := 7) rfl rfl)) ?_
    refine Lalloc rfl rfl rfl H Try.zeroValue3 (cs := [_]) rfl ?_; intro b5 w H
    (first | refine Lstore 0 rfl rfl rfl rfl (v := (.int .i64 _)) rfl H rfl (vs := [_]) rfl Try.sizeOf3 rfl rfl ?_ | refine Lstore 1 rfl rfl rfl rfl (v := (.int .i64 _)) rfl H rfl (vs := [_]) rfl Try.sizeOf3 rfl rfl ?_ | refine Lstore 2 rfl rfl rfl rfl (v := (.int .i64 _)) rfl H rfl (vs := [_]) rfl Try.sizeOf3 rfl rfl ?_ | refine Lstore 3 rfl rfl rfl rfl (v := (.int .i64 _)) rfl H rfl (vs := [_]) rfl Try.sizeOf3 rfl rfl ?_ | refine Lstore 4 rfl rfl rfl rfl (v := (.int .i64 _)) rfl H rfl (vs := [_]) rfl Try.sizeOf3 rfl rfl ?_ | refine Lstore 5 rfl rfl rfl rfl (v := (.int .i64 _)) rfl H rfl (vs := [_]) rfl Try.sizeOf3 rfl rfl ?_ | refine Lstore 6 rfl rfl rfl rfl (v := (.int .i64 _)) rfl H rfl (vs := [_]) rfl Try.sizeOf3 rfl rfl ?_); intro w H
    refine e_list ?_; (repeat (first | (with_reducible first | refine e_then ?_ | refine e_block ?_ | refine e_then_ret ?_ | refine e_block_ret ?_ | refine e_then_exit ?_ | refine e_block_here ?_ | refine e_then_panic ?_ | refine e_block_panic ?_) | refine e_block_on rfl ?_))
    refine wp_seq ?_
    -- R4
    refine c_region ?_
    refine L1 rfl rfl H (y_mkfunc (fi := []) (ca := [(.pointer _), (.pointer _)]) rfl rfl rfl) ?_
    refine Ldefer (fi := []) (ca := [_, _]) (xa := []) rfl rfl rfl rfl rfl ?_
    refine e_list ?_; (repeat (first | (with_reducible first | refine e_then ?_ | refine e_block ?_ | refine e_then_ret ?_ | refine e_block_ret ?_ | refine e_then_exit ?_ | refine e_block_here ?_ | refine e_then_panic ?_ | refine e_block_panic ?_) | refine e_block_on rfl ?_))
    refine wp_seq ?_
    -- R5
    refine c_region ?_
    refine L1 rfl rfl H (y_move (v := (.func (.func fk) fi.toArray ca.toArray)) rfl rfl) ?_
    refine LcloP rfl rfl rfl (fi := fi) (ca := ca) (xa := fi ++ [] ++ ca) rfl rfl hfk ?_
    refine (hclo rfl _ w (H.perm (perm_in _ _ _ _ X R0))).mono ?_
    rintro e w (⟨vv, Y, kk, hok, rfl, H⟩ | ⟨c, a', hno, rfl, H⟩)
    rotate_left
    · refine .inr ⟨_, rfl, ?_⟩
      (repeat (first | (with_reducible first | refine e_then ?_ | refine e_block ?_ | refine e_then_ret ?_ | refine e_block_ret ?_ | refine e_then_exit ?_ | refine e_block_here ?_ | refine e_then_panic ?_ | refine e_block_panic ?_) | refine e_block_on rfl ?_))
      refine rD_panic (xa := []) (ca := [_, _]) (v := .int .u64 0) rfl rfl Try.call168 ?_
      refine CallsD.mono (wire_reading_uint64__D1_panic (at_ := at_) (H.perm (perm_out _ _ _ _ X R0))) ?_
      rintro e u w ⟨h1, h2, H⟩
      exact ⟨h1, h2, .inr ⟨rfl, .inr ⟨c, hno, rfl, H.sub (sub_two _ _ _ _ _)⟩⟩⟩
    refine .inl ⟨vv, rfl, ?_⟩
    refine L1 rfl rfl H (y_assign (v := vv) rfl rfl) ?_
    refine e_list ?_; (repeat (first | (with_reducible first | refine e_then ?_ | refine e_block ?_ | refine e_then_ret ?_ | refine e_block_ret ?_ | refine e_then_exit ?_ | refine e_block_here ?_ | refine e_then_panic ?_ | refine e_block_panic ?_) | refine e_block_on rfl ?_))
    refine wp_ret ?_; (repeat (first | (with_reducible first | refine e_then ?_ | refine e_block ?_ | refine e_then_ret ?_ | refine e_block_ret ?_ | refine e_then_exit ?_ | refine e_block_here ?_ | refine e_then_panic ?_ | refine e_block_panic ?_) | refine e_block_on rfl ?_))
    refine rD_ret (xa := []) (ca := [_, _]) (v := vv) rfl rfl Try.call168 ?_
    refine CallsD.mono (wire_reading_uint64__D1_ret (Rw := fun w => Heap w0 _ w) H) ?_
    rintro e u w ⟨h1, h2, H⟩
    exact ⟨h1, h2, .inr ⟨rfl, .inl ⟨vv, Y, kk, hok, rfl, H.sub (sub_in _ _ _ _ Y X R0)⟩⟩⟩
-- »wire_reading_uint64
-- «wire_reading_int»
theorem wire_reading_int_calls {fk : FuncId} {fi ca : List Value} {X R0 : List Ent} (Okp : Value → List Ent → Nat → Prop) (Er : Nat → Prop) (hfk : ∀ args w, (callFunc fk args).run Try.prog w = .ok (.enter fk args) w)
    (hclo : err = 0 → ∀ R' w, Heap w0 (rdr w0 g A cap b at_ 0 (X ++ R')) w → Calls Try.prog fk (fi ++ [] ++ ca).toArray w fun e w' =>
      (∃ v Y kk, Okp v Y kk ∧ e = .returned v ∧ Heap w0 (rdr w0 g A cap b (at_ + kk) 0 (Y ++ (X ++ R'))) w') ∨ (∃ c a' : Nat, Er c ∧ e = .panicked (fault c) ∧ Heap w0 (rdr w0 g A cap b a' 0 (X ++ R')) w'))
    (H : Heap w0 (rdr w0 g A cap b at_ err (X ++ R0)) w) :
    Calls Try.prog 111 #[.pointer (some ⟨g, 0, none⟩), .func (.func fk) fi.toArray ca.toArray] w fun e w' =>
      (err ≠ 0 ∧ e = .returned (.int .i64 0) ∧ Heap w0 (rdr w0 g A cap b at_ err (X ++ R0)) w') ∨
      (err = 0 ∧ ((∃ v Y kk, Okp v Y kk ∧ e = .returned v ∧ Heap w0 (rdr w0 g A cap b (at_ + kk) 0 (Y ++ (X ++ R0))) w') ∨
        (∃ c : Nat, Er c ∧ e = .returned (.int .i64 0) ∧ Heap w0 (rdr w0 g A cap b at_ c (X ++ R0)) w'))) := by
  refine c_enterD (xa := [(.pointer _), (.func (.func fk) fi.toArray ca.toArray)]) 19 Try.func111 rfl rfl rfl ?_
  refine wp_seq ?_
  -- R0
  refine c_region ?_
  refine Lbox rfl rfl rfl (z := (.pointer _)) rfl H (cs := [_]) rfl ?_; intro b2 w H
  refine L1 rfl rfl H (y_assign (v := .int .i64 0) rfl rfl) ?_
  refine e_list ?_; (repeat (first | (with_reducible first | refine e_then ?_ | refine e_block ?_ | refine e_then_ret ?_ | refine e_block_ret ?_ | refine e_then_exit ?_ | refine e_block_here ?_ | refine e_then_panic ?_ | refine e_block_panic ?_) | refine e_block_on rfl ?_))
  refine wp_seq ?_
  refine wp_seq ?_
  -- R1
  refine c_region ?_
  refine L1 rfl rfl H (y_load (v := (.pointer _)) rfl rfl Try.isAgg88 (by first | exact cell_blk (k := 0) rfl rfl | exact cell_blk (k := 1) rfl rfl | exact cell_blk (k := 2) rfl rfl | exact cell_blk (k := 3) rfl rfl | exact cell_blk (k := 4) rfl rfl | exact cell_blk (k := 5) rfl rfl | exact cell_blk (k := 6) rfl rfl | exact cell_blk (k := 7) rfl rfl)) ?_
  refine L1 rfl rfl H (y_nilCheck rfl rfl) ?_
  refine L1 rfl rfl H (y_fieldAddr 2 rfl rfl Try.underlying168 rfl Try.sizeOf37 rfl) ?_
  refine L1 rfl rfl H (y_load (v := (.int .i64 _)) rfl rfl Try.isAgg37 (by first | exact cell_blk (k := 0) rfl rfl | exact cell_blk (k := 1) rfl rfl | exact cell_blk (k := 2) rfl rfl | exact cell_blk (k := 3) rfl rfl | exact cell_blk (k := 4) rfl rfl | exact cell_blk (k := 5) rfl rfl | exact cell_blk (k := 6) rfl rfl | exact cell_blk (k := 7) rfl rfl)) ?_
  refine L1 rfl rfl H (y_neq rfl rfl rfl) ?_
  refine e_list ?_; (repeat (first | (with_reducible first | refine e_then ?_ | refine e_block ?_ | refine e_then_ret ?_ | refine e_block_ret ?_ | refine e_then_exit ?_ | refine e_block_here ?_ | refine e_then_panic ?_ | refine e_block_panic ?_) | refine e_block_on rfl ?_))
  refine c_if rfl (fun h0 => ?_) (fun h0 => ?_)   -- if 0
  · skip
    refine wp_seq ?_
    -- R2
    refine c_region ?_
    refine L1 rfl rfl H (y_move (v := .int .i64 0) rfl rfl) ?_
    refine L1 rfl rfl H (y_assign (v := .int .i64 0) rfl rfl) ?_
    refine e_list ?_; (repeat (first | (with_reducible first | refine e_then ?_ | refine e_block ?_ | refine e_then_ret ?_ | refine e_block_ret ?_ | refine e_then_exit ?_ | refine e_block_here ?_ | refine e_then_panic ?_ | refine e_block_panic ?_) | refine e_block_on rfl ?_))
    refine wp_ret ?_; (repeat (first | (with_reducible first | refine e_then ?_ | refine e_block ?_ | refine e_then_ret ?_ | refine e_block_ret ?_ | refine e_then_exit ?_ | refine e_block_here ?_ | refine e_then_panic ?_ | refine e_block_panic ?_) | refine e_block_on rfl ?_))
    refine rD_1 (v := .int .i64 0) rfl rfl ?_
    exact .inl ⟨h0, rfl, H.tail⟩
  · skip
    have herr : err = 0 := by omega
    subst herr
    refine wp_skip ?_; (repeat (first | (with_reducible first | refine e_then ?_ | refine e_block ?_ | refine e_then_ret ?_ | refine e_block_ret ?_ | refine e_then_exit ?_ | refine e_block_here ?_ | refine e_then_panic ?_ | refine e_block_panic ?_) | refine e_block_on rfl ?_))
    refine wp_seq ?_
    -- R3
    refine c_region ?_
    refine L1 rfl rfl H (y_load (v := (.pointer _)) rfl rfl Try.isAgg88 (by first | exact cell_blk (k := 0) rfl rfl | exact cell_blk (k := 1) rfl rfl | exact cell_blk (k := 2) rfl rfl | exact cell_blk (k := 3) rfl rfl | exact cell_blk (k := 4) rfl rfl | exact cell_blk (k := 5) rfl rfl | exact cell_blk (k := 6) rfl rfl | exact cell_blk (k := 7) rfl rfl)) ?_
    refine L1 rfl rfl H (y_nilCheck rfl rfl) ?_
    refine L1 rfl rfl H (y_fieldAddr 1 rfl rfl Try.underlying168 rfl Try.sizeOf3 rfl) ?_
    refine L1 rfl rfl H (y_load (v := (.int .i64 _)) rfl rfl Try.isAgg3 (by first | exact cell_blk (k := 0) rfl rfl | exact cell_blk (k := 1) rfl rfl | exact cell_blk (k := 2) rfl rfl | exact cell_blk (k := 3) rfl rfl | exact cell_blk (k := 4) rfl rfl | exact cell_blk (k := 5) rfl rfl | exact cell_blk (k := 6) rfl rfl | exact cell_blk (k := 7) rfl rfl)) ?_
    refine Lalloc rfl rfl rfl H Try.zeroValue3 (cs := [_]) rfl ?_; intro b5 w H
    (first | refine Lstore 0 rfl rfl rfl rfl (v := (.int .i64 _)) rfl H rfl (vs := [_]) rfl Try.sizeOf3 rfl rfl ?_ | refine Lstore 1 rfl rfl rfl rfl (v := (.int .i64 _)) rfl H rfl (vs := [_]) rfl Try.sizeOf3 rfl rfl ?_ | refine Lstore 2 rfl rfl rfl rfl (v := (.int .i64 _)) rfl H rfl (vs := [_]) rfl Try.sizeOf3 rfl rfl ?_ | refine Lstore 3 rfl rfl rfl rfl (v := (.int .i64 _)) rfl H rfl (vs := [_]) rfl Try.sizeOf3 rfl rfl ?_ | refine Lstore 4 rfl rfl rfl rfl (v := (.int .i64 _)) rfl H rfl (vs := [_]) rfl Try.sizeOf3 rfl rfl ?_ | refine Lstore 5 rfl rfl rfl rfl (v := (.int .i64 _)) rfl H rfl (vs := [_]) rfl Try.sizeOf3 rfl rfl ?_ | refine Lstore 6 rfl rfl rfl rfl (v := (.int .i64 _)) rfl H rfl (vs := [_]) rfl Try.sizeOf3 rfl rfl ?_); intro w H
    refine e_list ?_; (repeat (first | (with_reducible first | refine e_then ?_ | refine e_block ?_ | refine e_then_ret ?_ | refine e_block_ret ?_ | refine e_then_exit ?_ | refine e_block_here ?_ | refine e_then_panic ?_ | refine e_block_panic ?_) | refine e_block_on rfl ?_))
    refine wp_seq ?_
    -- R4
    refine c_region ?_
    refine L1 rfl rfl H (y_mkfunc (fi := []) (ca := [(.pointer _), (.pointer _)]) rfl rfl rfl) ?_
    refine Ldefer (fi := []) (ca := [_, _]) (xa := []) rfl rfl rfl rfl rfl ?_
    refine e_list ?_; (repeat (first | (with_reducible first | refine e_then ?_ | refine e_block ?_ | refine e_then_ret ?_ | refine e_block_ret ?_ | refine e_then_exit ?_ | refine e_block_here ?_ | refine e_then_panic ?_ | refine e_block_panic ?_) | refine e_block_on rfl ?_))
    refine wp_seq ?_
    -- R5
    refine c_region ?_
    refine L1 rfl rfl H (y_move (v := (.func (.func fk) fi.toArray ca.toArray)) rfl rfl) ?_
    refine LcloP rfl rfl rfl (fi := fi) (ca := ca) (xa := fi ++ [] ++ ca) rfl rfl hfk ?_
    refine (hclo rfl _ w (H.perm (perm_in _ _ _ _ X R0))).mono ?_
    rintro e w (⟨vv, Y, kk, hok, rfl, H⟩ | ⟨c, a', hno, rfl, H⟩)
    rotate_left
    · refine .inr ⟨_, rfl, ?_⟩
      (repeat (first | (with_reducible first | refine e_then ?_ | refine e_block ?_ | refine e_then_ret ?_ | refine e_block_ret ?_ | refine e_then_exit ?_ | refine e_block_here ?_ | refine e_then_panic ?_ | refine e_block_panic ?_) | refine e_block_on rfl ?_))
      refine rD_panic (xa := []) (ca := [_, _]) (v := .int .i64 0) rfl rfl Try.call148 ?_
      refine CallsD.mono (wire_reading_int__D1_panic (at_ := at_) (H.perm (perm_out _ _ _ _ X R0))) ?_
      rintro e u w ⟨h1, h2, H⟩
      exact ⟨h1, h2, .inr ⟨rfl, .inr ⟨c, hno, rfl, H.sub (sub_two _ _ _ _ _)⟩⟩⟩
    refine .inl ⟨vv, rfl, ?_⟩
    refine L1 rfl rfl H (y_assign (v := vv) rfl rfl) ?_
    refine e_list ?_; (repeat (first | (with_reducible first | refine e_then ?_ | refine e_block ?_ | refine e_then_ret ?_ | refine e_block_ret ?_ | refine e_then_exit ?_ | refine e_block_here ?_ | refine e_then_panic ?_ | refine e_block_panic ?_) | refine e_block_on rfl ?_))
    refine wp_ret ?_; (repeat (first | (with_reducible first | refine e_then ?_ | refine e_block ?_ | refine e_then_ret ?_ | refine e_block_ret ?_ | refine e_then_exit ?_ | refine e_block_here ?_ | refine e_then_panic ?_ | refine e_block_panic ?_) | refine e_block_on rfl ?_))
    refine rD_ret (xa := []) (ca := [_, _]) (v := vv) rfl rfl Try.call148 ?_
    refine CallsD.mono (wire_reading_int__D1_ret (Rw := fun w => Heap w0 _ w) H) ?_
    rintro e u w ⟨h1, h2, H⟩
    exact ⟨h1, h2, .inr ⟨rfl, .inl ⟨vv, Y, kk, hok, rfl, H.sub (sub_in _ _ _ _ Y X R0)⟩⟩⟩
-- »wire_reading_int
-- «wire_reading_string»
theorem wire_reading_string_calls {fk : FuncId} {fi ca : List Value} {X R0 : List Ent} (Okp : Value → List Ent → Nat → Prop) (Er : Nat → Prop) (hfk : ∀ args w, (callFunc fk args).run Try.prog w = .ok (.enter fk args) w)
    (hclo : err = 0 → ∀ R' w, Heap w0 (rdr w0 g A cap b at_ 0 (X ++ R')) w → Calls Try.prog fk (fi ++ [] ++ ca).toArray w fun e w' =>
      (∃ v Y kk, Okp v Y kk ∧ e = .returned v ∧ Heap w0 (rdr w0 g A cap b (at_ + kk) 0 (Y ++ (X ++ R'))) w') ∨ (∃ c a' : Nat, Er c ∧ e = .panicked (fault c) ∧ Heap w0 (rdr w0 g A cap b a' 0 (X ++ R')) w'))
    (H : Heap w0 (rdr w0 g A cap b at_ err (X ++ R0)) w) :
    Calls Try.prog 114 #[.pointer (some ⟨g, 0, none⟩), .func (.func fk) fi.toArray ca.toArray] w fun e w' =>
      (err ≠ 0 ∧ e = .returned (.string ByteArray.empty) ∧ Heap w0 (rdr w0 g A cap b at_ err (X ++ R0)) w') ∨
      (err = 0 ∧ ((∃ v Y kk, Okp v Y kk ∧ e = .returned v ∧ Heap w0 (rdr w0 g A cap b (at_ + kk) 0 (Y ++ (X ++ R0))) w') ∨
        (∃ c : Nat, Er c ∧ e = .returned (.string ByteArray.empty) ∧ Heap w0 (rdr w0 g A cap b at_ c (X ++ R0)) w'))) := by
  refine c_enterD (xa := [(.pointer _), (.func (.func fk) fi.toArray ca.toArray)]) 19 Try.func114 rfl rfl rfl ?_
  refine wp_seq ?_
  -- R0
  refine c_region ?_
  refine Lbox rfl rfl rfl (z := (.pointer _)) rfl H (cs := [_]) rfl ?_; intro b2 w H
  refine L1 rfl rfl H (y_assign (v := .string ByteArray.empty) rfl rfl) ?_
  refine e_list ?_; (repeat (first | (with_reducible first | refine e_then ?_ | refine e_block ?_ | refine e_then_ret ?_ | refine e_block_ret ?_ | refine e_then_exit ?_ | refine e_block_here ?_ | refine e_then_panic ?_ | refine e_block_panic ?_) | refine e_block_on rfl ?_))
  refine wp_seq ?_
  refine wp_seq ?_
  -- R1
  refine c_region ?_
  refine L1 rfl rfl H (y_load (v := (.pointer _)) rfl rfl Try.isAgg88 (by first | exact cell_blk (k := 0) rfl rfl | exact cell_blk (k := 1) rfl rfl | exact cell_blk (k := 2) rfl rfl | exact cell_blk (k := 3) rfl rfl | exact cell_blk (k := 4) rfl rfl | exact cell_blk (k := 5) rfl rfl | exact cell_blk (k := 6) rfl rfl | exact cell_blk (k := 7) rfl rfl)) ?_
  refine L1 rfl rfl H (y_nilCheck rfl rfl) ?_
  refine L1 rfl rfl H (y_fieldAddr 2 rfl rfl Try.underlying168 rfl Try.sizeOf37 rfl) ?_
  refine L1 rfl rfl H (y_load (v := (.int .i64 _)) rfl rfl Try.isAgg37 (by first | exact cell_blk (k := 0) rfl rfl | exact cell_blk (k := 1) rfl rfl | exact cell_blk (k := 2) rfl rfl | exact cell_blk (k := 3) rfl rfl | exact cell_blk (k := 4) rfl rfl | exact cell_blk (k := 5) rfl rfl | exact cell_blk (k := 6) rfl rfl | exact cell_blk (k := 7) rfl rfl)) ?_
  refine L1 rfl rfl H (y_neq rfl rfl rfl) ?_
  refine e_list ?_; (repeat (first | (with_reducible first | refine e_then ?_ | refine e_block ?_ | refine e_then_ret ?_ | refine e_block_ret ?_ | refine e_then_exit ?_ | refine e_block_here ?_ | refine e_then_panic ?_ | refine e_block_panic ?_) | refine e_block_on rfl ?_))
  refine c_if rfl (fun h0 => ?_) (fun h0 => ?_)   -- if 0
  · skip
    refine wp_seq ?_
    -- R2
    refine c_region ?_
    refine L1 rfl rfl H (y_move (v := .string ByteArray.empty) rfl rfl) ?_
    refine L1 rfl rfl H (y_assign (v := .string ByteArray.empty) rfl rfl) ?_
    refine e_list ?_; (repeat (first | (with_reducible first | refine e_then ?_ | refine e_block ?_ | refine e_then_ret ?_ | refine e_block_ret ?_ | refine e_then_exit ?_ | refine e_block_here ?_ | refine e_then_panic ?_ | refine e_block_panic ?_) | refine e_block_on rfl ?_))
    refine wp_ret ?_; (repeat (first | (with_reducible first | refine e_then ?_ | refine e_block ?_ | refine e_then_ret ?_ | refine e_block_ret ?_ | refine e_then_exit ?_ | refine e_block_here ?_ | refine e_then_panic ?_ | refine e_block_panic ?_) | refine e_block_on rfl ?_))
    refine rD_1 (v := .string ByteArray.empty) rfl rfl ?_
    exact .inl ⟨h0, rfl, H.tail⟩
  · skip
    have herr : err = 0 := by omega
    subst herr
    refine wp_skip ?_; (repeat (first | (with_reducible first | refine e_then ?_ | refine e_block ?_ | refine e_then_ret ?_ | refine e_block_ret ?_ | refine e_then_exit ?_ | refine e_block_here ?_ | refine e_then_panic ?_ | refine e_block_panic ?_) | refine e_block_on rfl ?_))
    refine wp_seq ?_
    -- R3
    refine c_region ?_
    refine L1 rfl rfl H (y_load (v := (.pointer _)) rfl rfl Try.isAgg88 (by first | exact cell_blk (k := 0) rfl rfl | exact cell_blk (k := 1) rfl rfl | exact cell_blk (k := 2) rfl rfl | exact cell_blk (k := 3) rfl rfl | exact cell_blk (k := 4) rfl rfl | exact cell_blk (k := 5) rfl rfl | exact cell_blk (k := 6) rfl rfl | exact cell_blk (k := 7) rfl rfl)) ?_
    refine L1 rfl rfl H (y_nilCheck rfl rfl) ?_
    refine L1 rfl rfl H (y_fieldAddr 1 rfl rfl Try.underlying168 rfl Try.sizeOf3 rfl) ?_
    refine L1 rfl rfl H (y_load (v := (.int .i64 _)) rfl rfl Try.isAgg3 (by first | exact cell_blk (k := 0) rfl rfl | exact cell_blk (k := 1) rfl rfl | exact cell_blk (k := 2) rfl rfl | exact cell_blk (k := 3) rfl rfl | exact cell_blk (k := 4) rfl rfl | exact cell_blk (k := 5) rfl rfl | exact cell_blk (k := 6) rfl rfl | exact cell_blk (k := 7) rfl rfl)) ?_
    refine Lalloc rfl rfl rfl H Try.zeroValue3 (cs := [_]) rfl ?_; intro b5 w H
    (first | refine Lstore 0 rfl rfl rfl rfl (v := (.int .i64 _)) rfl H rfl (vs := [_]) rfl Try.sizeOf3 rfl rfl ?_ | refine Lstore 1 rfl rfl rfl rfl (v := (.int .i64 _)) rfl H rfl (vs := [_]) rfl Try.sizeOf3 rfl rfl ?_ | refine Lstore 2 rfl rfl rfl rfl (v := (.int .i64 _)) rfl H rfl (vs := [_]) rfl Try.sizeOf3 rfl rfl ?_ | refine Lstore 3 rfl rfl rfl rfl (v := (.int .i64 _)) rfl H rfl (vs := [_]) rfl Try.sizeOf3 rfl rfl ?_ | refine Lstore 4 rfl rfl rfl rfl (v := (.int .i64 _)) rfl H rfl (vs := [_]) rfl Try.sizeOf3 rfl rfl ?_ | refine Lstore 5 rfl rfl rfl rfl (v := (.int .i64 _)) rfl H rfl (vs := [_]) rfl Try.sizeOf3 rfl rfl ?_ | refine Lstore 6 rfl rfl rfl rfl (v := (.int .i64 _)) rfl H rfl (vs := [_]) rfl Try.sizeOf3 rfl rfl ?_); intro w H
    refine e_list ?_; (repeat (first | (with_reducible first | refine e_then ?_ | refine e_block ?_ | refine e_then_ret ?_ | refine e_block_ret ?_ | refine e_then_exit ?_ | refine e_block_here ?_ | refine e_then_panic ?_ | refine e_block_panic ?_) | refine e_block_on rfl ?_))
    refine wp_seq ?_
    -- R4
    refine c_region ?_
    refine L1 rfl rfl H (y_mkfunc (fi := []) (ca := [(.pointer _), (.pointer _)]) rfl rfl rfl) ?_
    refine Ldefer (fi := []) (ca := [_, _]) (xa := []) rfl rfl rfl rfl rfl ?_
    refine e_list ?_; (repeat (first | (with_reducible first | refine e_then ?_ | refine e_block ?_ | refine e_then_ret ?_ | refine e_block_ret ?_ | refine e_then_exit ?_ | refine e_block_here ?_ | refine e_then_panic ?_ | refine e_block_panic ?_) | refine e_block_on rfl ?_))
    refine wp_seq ?_
    -- R5
    refine c_region ?_
    refine L1 rfl rfl H (y_move (v := (.func (.func fk) fi.toArray ca.toArray)) rfl rfl) ?_
    refine LcloP rfl rfl rfl (fi := fi) (ca := ca) (xa := fi ++ [] ++ ca) rfl rfl hfk ?_
    refine (hclo rfl _ w (H.perm (perm_in _ _ _ _ X R0))).mono ?_
    rintro e w (⟨vv, Y, kk, hok, rfl, H⟩ | ⟨c, a', hno, rfl, H⟩)
    rotate_left
    · refine .inr ⟨_, rfl, ?_⟩
      (repeat (first | (with_reducible first | refine e_then ?_ | refine e_block ?_ | refine e_then_ret ?_ | refine e_block_ret ?_ | refine e_then_exit ?_ | refine e_block_here ?_ | refine e_then_panic ?_ | refine e_block_panic ?_) | refine e_block_on rfl ?_))
      refine rD_panic (xa := []) (ca := [_, _]) (v := .string ByteArray.empty) rfl rfl Try.call150 ?_
      refine CallsD.mono (wire_reading_string__D1_panic (at_ := at_) (H.perm (perm_out _ _ _ _ X R0))) ?_
      rintro e u w ⟨h1, h2, H⟩
      exact ⟨h1, h2, .inr ⟨rfl, .inr ⟨c, hno, rfl, H.sub (sub_two _ _ _ _ _)⟩⟩⟩
    refine .inl ⟨vv, rfl, ?_⟩
    refine L1 rfl rfl H (y_assign (v := vv) rfl rfl) ?_
    refine e_list ?_; (repeat (first | (with_reducible first | refine e_then ?_ | refine e_block ?_ | refine e_then_ret ?_ | refine e_block_ret ?_ | refine e_then_exit ?_ | refine e_block_here ?_ | refine e_then_panic ?_ | refine e_block_panic ?_) | refine e_block_on rfl ?_))
    refine wp_ret ?_; (repeat (first | (with_reducible first | refine e_then ?_ | refine e_block ?_ | refine e_then_ret ?_ | refine e_block_ret ?_ | refine e_then_exit ?_ | refine e_block_here ?_ | refine e_then_panic ?_ | refine e_block_panic ?_) | refine e_block_on rfl ?_))
    refine rD_ret (xa := []) (ca := [_, _]) (v := vv) rfl rfl Try.call150 ?_
    refine CallsD.mono (wire_reading_string__D1_ret (Rw := fun w => Heap w0 _ w) H) ?_
    rintro e u w ⟨h1, h2, H⟩
    exact ⟨h1, h2, .inr ⟨rfl, .inl ⟨vv, Y, kk, hok, rfl, H.sub (sub_in _ _ _ _ Y X R0)⟩⟩⟩
-- »wire_reading_string
-- «wire_reading_L_byte»
theorem wire_reading_L_byte_calls {fk : FuncId} {fi ca : List Value} {X R0 : List Ent} (Okp : Value → List Ent → Nat → Prop) (Er : Nat → Prop) (hfk : ∀ args w, (callFunc fk args).run Try.prog w = .ok (.enter fk args) w)
    (hclo : err = 0 → ∀ R' w, Heap w0 (rdr w0 g A cap b at_ 0 (X ++ R')) w → Calls Try.prog fk (fi ++ [] ++ ca).toArray w fun e w' =>
      (∃ v Y kk, Okp v Y kk ∧ e = .returned v ∧ Heap w0 (rdr w0 g A cap b (at_ + kk) 0 (Y ++ (X ++ R'))) w') ∨ (∃ c a' : Nat, Er c ∧ e = .panicked (fault c) ∧ Heap w0 (rdr w0 g A cap b a' 0 (X ++ R')) w'))
    (H : Heap w0 (rdr w0 g A cap b at_ err (X ++ R0)) w) :
    Calls Try.prog 108 #[.pointer (some ⟨g, 0, none⟩), .func (.func fk) fi.toArray ca.toArray] w fun e w' =>
      (err ≠ 0 ∧ e = .returned (.slice none 0 0) ∧ Heap w0 (rdr w0 g A cap b at_ err (X ++ R0)) w') ∨
      (err = 0 ∧ ((∃ v Y kk, Okp v Y kk ∧ e = .returned v ∧ Heap w0 (rdr w0 g A cap b (at_ + kk) 0 (Y ++ (X ++ R0))) w') ∨
        (∃ c : Nat, Er c ∧ e = .returned (.slice none 0 0) ∧ Heap w0 (rdr w0 g A cap b at_ c (X ++ R0)) w'))) := by
  refine c_enterD (xa := [(.pointer _), (.func (.func fk) fi.toArray ca.toArray)]) 19 Try.func108 rfl rfl rfl ?_
  refine wp_seq ?_
  -- R0
  refine c_region ?_
  refine Lbox rfl rfl rfl (z := (.pointer _)) rfl H (cs := [_]) rfl ?_; intro b2 w H
  refine L1 rfl rfl H (y_assign (v := .slice none 0 0) rfl rfl) ?_
  refine e_list ?_; (repeat (first | (with_reducible first | refine e_then ?_ | refine e_block ?_ | refine e_then_ret ?_ | refine e_block_ret ?_ | refine e_then_exit ?_ | refine e_block_here ?_ | refine e_then_panic ?_ | refine e_block_panic ?_) | refine e_block_on rfl ?_))
  refine wp_seq ?_
  refine wp_seq ?_
  -- R1
  refine c_region ?_
  refine L1 rfl rfl H (y_load (v := (.pointer _)) rfl rfl Try.isAgg88 (by first | exact cell_blk (k := 0) rfl rfl | exact cell_blk (k := 1) rfl rfl | exact cell_blk (k := 2) rfl rfl | exact cell_blk (k := 3) rfl rfl | exact cell_blk (k := 4) rfl rfl | exact cell_blk (k := 5) rfl rfl | exact cell_blk (k := 6) rfl rfl | exact cell_blk (k := 7) rfl rfl)) ?_
  refine L1 rfl rfl H (y_nilCheck rfl rfl) ?_
  refine L1 rfl rfl H (y_fieldAddr 2 rfl rfl Try.underlying168 rfl Try.sizeOf37 rfl) ?_
  refine L1 rfl rfl H (y_load (v := (.int .i64 _)) rfl rfl Try.isAgg37 (by first | exact cell_blk (k := 0) rfl rfl | exact cell_blk (k := 1) rfl rfl | exact cell_blk (k := 2) rfl rfl | exact cell_blk (k := 3) rfl rfl | exact cell_blk (k := 4) rfl rfl | exact cell_blk (k := 5) rfl rfl | exact cell_blk (k := 6) rfl rfl | exact cell_blk (k := 7) rfl rfl)) ?_
  refine L1 rfl rfl H (y_neq rfl rfl rfl) ?_
  refine e_list ?_; (repeat (first | (with_reducible first | refine e_then ?_ | refine e_block ?_ | refine e_then_ret ?_ | refine e_block_ret ?_ | refine e_then_exit ?_ | refine e_block_here ?_ | refine e_then_panic ?_ | refine e_block_panic ?_) | refine e_block_on rfl ?_))
  refine c_if rfl (fun h0 => ?_) (fun h0 => ?_)   -- if 0
  · skip
    refine wp_seq ?_
    -- R2
    refine c_region ?_
    refine L1 rfl rfl H (y_move (v := .slice none 0 0) rfl rfl) ?_
    refine L1 rfl rfl H (y_assign (v := .slice none 0 0) rfl rfl) ?_
    refine e_list ?_; (repeat (first | (with_reducible first | refine e_then ?_ | refine e_block ?_ | refine e_then_ret ?_ | refine e_block_ret ?_ | refine e_then_exit ?_ | refine e_block_here ?_ | refine e_then_panic ?_ | refine e_block_panic ?_) | refine e_block_on rfl ?_))
    refine wp_ret ?_; (repeat (first | (with_reducible first | refine e_then ?_ | refine e_block ?_ | refine e_then_ret ?_ | refine e_block_ret ?_ | refine e_then_exit ?_ | refine e_block_here ?_ | refine e_then_panic ?_ | refine e_block_panic ?_) | refine e_block_on rfl ?_))
    refine rD_1 (v := .slice none 0 0) rfl rfl ?_
    exact .inl ⟨h0, rfl, H.tail⟩
  · skip
    have herr : err = 0 := by omega
    subst herr
    refine wp_skip ?_; (repeat (first | (with_reducible first | refine e_then ?_ | refine e_block ?_ | refine e_then_ret ?_ | refine e_block_ret ?_ | refine e_then_exit ?_ | refine e_block_here ?_ | refine e_then_panic ?_ | refine e_block_panic ?_) | refine e_block_on rfl ?_))
    refine wp_seq ?_
    -- R3
    refine c_region ?_
    refine L1 rfl rfl H (y_load (v := (.pointer _)) rfl rfl Try.isAgg88 (by first | exact cell_blk (k := 0) rfl rfl | exact cell_blk (k := 1) rfl rfl | exact cell_blk (k := 2) rfl rfl | exact cell_blk (k := 3) rfl rfl | exact cell_blk (k := 4) rfl rfl | exact cell_blk (k := 5) rfl rfl | exact cell_blk (k := 6) rfl rfl | exact cell_blk (k := 7) rfl rfl)) ?_
    refine L1 rfl rfl H (y_nilCheck rfl rfl) ?_
    refine L1 rfl rfl H (y_fieldAddr 1 rfl rfl Try.underlying168 rfl Try.sizeOf3 rfl) ?_
    refine L1 rfl rfl H (y_load (v := (.int .i64 _)) rfl rfl Try.isAgg3 (by first | exact cell_blk (k := 0) rfl rfl | exact cell_blk (k := 1) rfl rfl | exact cell_blk (k := 2) rfl rfl | exact cell_blk (k := 3) rfl rfl | exact cell_blk (k := 4) rfl rfl | exact cell_blk (k := 5) rfl rfl | exact cell_blk (k := 6) rfl rfl | exact cell_blk (k := 7) rfl rfl)) ?_
    refine Lalloc rfl rfl rfl H Try.zeroValue3 (cs := [_]) rfl ?_; intro b5 w H
    (first | refine Lstore 0 rfl rfl rfl rfl (v := (.int .i64 _)) rfl H rfl (vs := [_]) rfl Try.sizeOf3 rfl rfl ?_ | refine Lstore 1 rfl rfl rfl rfl (v := (.int .i64 _)) rfl H rfl (vs := [_]) rfl Try.sizeOf3 rfl rfl ?_ | refine Lstore 2 rfl rfl rfl rfl (v := (.int .i64 _)) rfl H rfl (vs := [_]) rfl Try.sizeOf3 rfl rfl ?_ | refine Lstore 3 rfl rfl rfl rfl (v := (.int .i64 _)) rfl H rfl (vs := [_]) rfl Try.sizeOf3 rfl rfl ?_ | refine Lstore 4 rfl rfl rfl rfl (v := (.int .i64 _)) rfl H rfl (vs := [_]) rfl Try.sizeOf3 rfl rfl ?_ | refine Lstore 5 rfl rfl rfl rfl (v := (.int .i64 _)) rfl H rfl (vs := [_]) rfl Try.sizeOf3 rfl rfl ?_ | refine Lstore 6 rfl rfl rfl rfl (v := (.int .i64 _)) rfl H rfl (vs := [_]) rfl Try.sizeOf3 rfl rfl ?_); intro w H
    refine e_list ?_; (repeat (first | (with_reducible first | refine e_then ?_ | refine e_block ?_ | refine e_then_ret ?_ | refine e_block_ret ?_ | refine e_then_exit ?_ | refine e_block_here ?_ | refine e_then_panic ?_ | refine e_block_panic ?_) | refine e_block_on rfl ?_))
    refine wp_seq ?_
    -- R4
    refine c_region ?_
    refine L1 rfl rfl H (y_mkfunc (fi := []) (ca := [(.pointer _), (.pointer _)]) rfl rfl rfl) ?_
    refine Ldefer (fi := []) (ca := [_, _]) (xa := []) rfl rfl rfl rfl rfl ?_
    refine e_list ?_; (repeat (first | (with_reducible first | refine e_then ?_ | refine e_block ?_ | refine e_then_ret ?_ | refine e_block_ret ?_ | refine e_then_exit ?_ | refine e_block_here ?_ | refine e_then_panic ?_ | refine e_block_panic ?_) | refine e_block_on rfl ?_))
    refine wp_seq ?_
    -- R5
    refine c_region ?_
    refine L1 rfl rfl H (y_move (v := (.func (.func fk) fi.toArray ca.toArray)) rfl rfl) ?_
    refine LcloP rfl rfl rfl (fi := fi) (ca := ca) (xa := fi ++ [] ++ ca) rfl rfl hfk ?_
    refine (hclo rfl _ w (H.perm (perm_in _ _ _ _ X R0))).mono ?_
    rintro e w (⟨vv, Y, kk, hok, rfl, H⟩ | ⟨c, a', hno, rfl, H⟩)
    rotate_left
    · refine .inr ⟨_, rfl, ?_⟩
      (repeat (first | (with_reducible first | refine e_then ?_ | refine e_block ?_ | refine e_then_ret ?_ | refine e_block_ret ?_ | refine e_then_exit ?_ | refine e_block_here ?_ | refine e_then_panic ?_ | refine e_block_panic ?_) | refine e_block_on rfl ?_))
      refine rD_panic (xa := []) (ca := [_, _]) (v := .slice none 0 0) rfl rfl Try.call147 ?_
      refine CallsD.mono (wire_reading_L_byte__D1_panic (at_ := at_) (H.perm (perm_out _ _ _ _ X R0))) ?_
      rintro e u w ⟨h1, h2, H⟩
      exact ⟨h1, h2, .inr ⟨rfl, .inr ⟨c, hno, rfl, H.sub (sub_two _ _ _ _ _)⟩⟩⟩
    refine .inl ⟨vv, rfl, ?_⟩
    refine L1 rfl rfl H (y_assign (v := vv) rfl rfl) ?_
    refine e_list ?_; (repeat (first | (with_reducible first | refine e_then ?_ | refine e_block ?_ | refine e_then_ret ?_ | refine e_block_ret ?_ | refine e_then_exit ?_ | refine e_block_here ?_ | refine e_then_panic ?_ | refine e_block_panic ?_) | refine e_block_on rfl ?_))
    refine wp_ret ?_; (repeat (first | (with_reducible first | refine e_then ?_ | refine e_block ?_ | refine e_then_ret ?_ | refine e_block_ret ?_ | refine e_then_exit ?_ | refine e_block_here ?_ | refine e_then_panic ?_ | refine e_block_panic ?_) | refine e_block_on rfl ?_))
    refine rD_ret (xa := []) (ca := [_, _]) (v := vv) rfl rfl Try.call147 ?_
    refine CallsD.mono (wire_reading_L_byte__D1_ret (Rw := fun w => Heap w0 _ w) H) ?_
    rintro e u w ⟨h1, h2, H⟩
    exact ⟨h1, h2, .inr ⟨rfl, .inl ⟨vv, Y, kk, hok, rfl, H.sub (sub_in _ _ _ _ Y X R0)⟩⟩⟩
-- »wire_reading_L_byte
-- «wire_reading_byte»
theorem wire_reading_byte_calls {fk : FuncId} {fi ca : List Value} {X R0 : List Ent} (Okp : Value → List Ent → Nat → Prop) (Er : Nat → Prop) (hfk : ∀ args w, (callFunc fk args).run Try.prog w = .ok (.enter fk args) w)
    (hclo : err = 0 → ∀ R' w, Heap w0 (rdr w0 g A cap b at_ 0 (X ++ R')) w → Calls Try.prog fk (fi ++ [] ++ ca).toArray w fun e w' =>
      (∃ v Y kk, Okp v Y kk ∧ e = .returned v ∧ Heap w0 (rdr w0 g A cap b (at_ + kk) 0 (Y ++ (X ++ R'))) w') ∨ (∃ c a' : Nat, Er c ∧ e = .panicked (fault c) ∧ Heap w0 (rdr w0 g A cap b a' 0 (X ++ R')) w'))
    (H : Heap w0 (rdr w0 g A cap b at_ err (X ++ R0)) w) :
    Calls Try.prog 165 #[.pointer (some ⟨g, 0, none⟩), .func (.func fk) fi.toArray ca.toArray] w fun e w' =>
      (err ≠ 0 ∧ e = .returned (.int .u8 0) ∧ Heap w0 (rdr w0 g A cap b at_ err (X ++ R0)) w') ∨
      (err = 0 ∧ ((∃ v Y kk, Okp v Y kk ∧ e = .returned v ∧ Heap w0 (rdr w0 g A cap b (at_ + kk) 0 (Y ++ (X ++ R0))) w') ∨
        (∃ c : Nat, Er c ∧ e = .returned (.int .u8 0) ∧ Heap w0 (rdr w0 g A cap b at_ c (X ++ R0)) w'))) := by
  refine c_enterD (xa := [(.pointer _), (.func (.func fk) fi.toArray ca.toArray)]) 19 Try.func165 rfl rfl rfl ?_
  refine wp_seq ?_
  -- R0
  refine c_region ?_
  refine Lbox rfl rfl rfl (z := (.pointer _)) rfl H (cs := [_]) rfl ?_; intro b2 w H
  refine L1 rfl rfl H (y_assign (v := .int .u8 0) rfl rfl) ?_
  refine e_list ?_; (repeat (first | (with_reducible first | refine e_then ?_ | refine e_block ?_ | refine e_then_ret ?_ | refine e_block_ret ?_ | refine e_then_exit ?_ | refine e_block_here ?_ | refine e_then_panic ?_ | refine e_block_panic ?_) | refine e_block_on rfl ?_))
  refine wp_seq ?_
  refine wp_seq ?_
  -- R1
  refine c_region ?_
  refine L1 rfl rfl H (y_load (v := (.pointer _)) rfl rfl Try.isAgg88 (by first | exact cell_blk (k := 0) rfl rfl | exact cell_blk (k := 1) rfl rfl | exact cell_blk (k := 2) rfl rfl | exact cell_blk (k := 3) rfl rfl | exact cell_blk (k := 4) rfl rfl | exact cell_blk (k := 5) rfl rfl | exact cell_blk (k := 6) rfl rfl | exact cell_blk (k := 7) rfl rfl)) ?_
  refine L1 rfl rfl H (y_nilCheck rfl rfl) ?_
  refine L1 rfl rfl H (y_fieldAddr 2 rfl rfl Try.underlying168 rfl Try.sizeOf37 rfl) ?_
  refine L1 rfl rfl H (y_load (v := (.int .i64 _)) rfl rfl Try.isAgg37 (by first | exact cell_blk (k := 0) rfl rfl | exact cell_blk (k := 1) rfl rfl | exact cell_blk (k := 2) rfl rfl | exact cell_blk (k := 3) rfl rfl | exact cell_blk (k := 4) rfl rfl | exact cell_blk (k := 5) rfl rfl | exact cell_blk (k := 6) rfl rfl | exact cell_blk (k := 7) rfl rfl)) ?_
  refine L1 rfl rfl H (y_neq rfl rfl rfl) ?_
  refine e_list ?_; (repeat (first | (with_reducible first | refine e_then ?_ | refine e_block ?_ | refine e_then_ret ?_ | refine e_block_ret ?_ | refine e_then_exit ?_ | refine e_block_here ?_ | refine e_then_panic ?_ | refine e_block_panic ?_) | refine e_block_on rfl ?_))
  refine c_if rfl (fun h0 => ?_) (fun h0 => ?_)   -- if 0
  · skip
    refine wp_seq ?_
    -- R2
    refine c_region ?_
    refine L1 rfl rfl H (y_move (v := .int .u8 0) rfl rfl) ?_
    refine L1 rfl rfl H (y_assign (v := .int .u8 0) rfl rfl) ?_
    refine e_list ?_; (repeat (first | (with_reducible first | refine e_then ?_ | refine e_block ?_ | refine e_then_ret ?_ | refine e_block_ret ?_ | refine e_then_exit ?_ | refine e_block_here ?_ | refine e_then_panic ?_ | refine e_block_panic ?_) | refine e_block_on rfl ?_))
    refine wp_ret ?_; (repeat (first | (with_reducible first | refine e_then ?_ | refine e_block ?_ | refine e_then_ret ?_ | refine e_block_ret ?_ | refine e_then_exit ?_ | refine e_block_here ?_ | refine e_then_panic ?_ | refine e_block_panic ?_) | refine e_block_on rfl ?_))
    refine rD_1 (v := .int .u8 0) rfl rfl ?_
    exact .inl ⟨h0, rfl, H.tail⟩
  · skip
    have herr : err = 0 := by omega
    subst herr
    refine wp_skip ?_; (repeat (first | (with_reducible first | refine e_then ?_ | refine e_block ?_ | refine e_then_ret ?_ | refine e_block_ret ?_ | refine e_then_exit ?_ | refine e_block_here ?_ | refine e_then_panic ?_ | refine e_block_panic ?_) | refine e_block_on rfl ?_))
    refine wp_seq ?_
    -- R3
    refine c_region ?_
    refine L1 rfl rfl H (y_load (v := (.pointer _)) rfl rfl Try.isAgg88 (by first | exact cell_blk (k := 0) rfl rfl | exact cell_blk (k := 1) rfl rfl | exact cell_blk (k := 2) rfl rfl | exact cell_blk (k := 3) rfl rfl | exact cell_blk (k := 4) rfl rfl | exact cell_blk (k := 5) rfl rfl | exact cell_blk (k := 6) rfl rfl | exact cell_blk (k := 7) rfl rfl)) ?_
    refine L1 rfl rfl H (y_nilCheck rfl rfl) ?_
    refine L1 rfl rfl H (y_fieldAddr 1 rfl rfl Try.underlying168 rfl Try.sizeOf3 rfl) ?_
    refine L1 rfl rfl H (y_load (v := (.int .i64 _)) rfl rfl Try.isAgg3 (by first | exact cell_blk (k := 0) rfl rfl | exact cell_blk (k := 1) rfl rfl | exact cell_blk (k := 2) rfl rfl | exact cell_blk (k := 3) rfl rfl | exact cell_blk (k := 4) rfl rfl | exact cell_blk (k := 5) rfl rfl | exact cell_blk (k := 6) rfl rfl | exact cell_blk (k := 7) rfl rfl)) ?_
    refine Lalloc rfl rfl rfl H Try.zeroValue3 (cs := [_]) rfl ?_; intro b5 w H
    (first | refine Lstore 0 rfl rfl rfl rfl (v := (.int .i64 _)) rfl H rfl (vs := [_]) rfl Try.sizeOf3 rfl rfl ?_ | refine Lstore 1 rfl rfl rfl rfl (v := (.int .i64 _)) rfl H rfl (vs := [_]) rfl Try.sizeOf3 rfl rfl ?_ | refine Lstore 2 rfl rfl rfl rfl (v := (.int .i64 _)) rfl H rfl (vs := [_]) rfl Try.sizeOf3 rfl rfl ?_ | refine Lstore 3 rfl rfl rfl rfl (v := (.int .i64 _)) rfl H rfl (vs := [_]) rfl Try.sizeOf3 rfl rfl ?_ | refine Lstore 4 rfl rfl rfl rfl (v := (.int .i64 _)) rfl H rfl (vs := [_]) rfl Try.sizeOf3 rfl rfl ?_ | refine Lstore 5 rfl rfl rfl rfl (v := (.int .i64 _)) rfl H rfl (vs := [_]) rfl Try.sizeOf3 rfl rfl ?_ | refine Lstore 6 rfl rfl rfl rfl (v := (.int .i64 _)) rfl H rfl (vs := [_]) rfl Try.sizeOf3 rfl rfl ?_); intro w H
    refine e_list ?_; (repeat (first | (with_reducible first | refine e_then ?_ | refine e_block ?_ | refine e_then_ret ?_ | refine e_block_ret ?_ | refine e_then_exit ?_ | refine e_block_here ?_ | refine e_then_panic ?_ | refine e_block_panic ?_) | refine e_block_on rfl ?_))
    refine wp_seq ?_
    -- R4
    refine c_region ?_
    refine L1 rfl rfl H (y_mkfunc (fi := []) (ca := [(.pointer _), (.pointer _)]) rfl rfl rfl) ?_
    refine Ldefer (fi := []) (ca := [_, _]) (xa := []) rfl rfl rfl rfl rfl ?_
    refine e_list ?_; (repeat (first | (with_reducible first | refine e_then ?_ | refine e_block ?_ | refine e_then_ret ?_ | refine e_block_ret ?_ | refine e_then_exit ?_ | refine e_block_here ?_ | refine e_then_panic ?_ | refine e_block_panic ?_) | refine e_block_on rfl ?_))
    refine wp_seq ?_
    -- R5
    refine c_region ?_
    refine L1 rfl rfl H (y_move (v := (.func (.func fk) fi.toArray ca.toArray)) rfl rfl) ?_
    refine LcloP rfl rfl rfl (fi := fi) (ca := ca) (xa := fi ++ [] ++ ca) rfl rfl hfk ?_
    refine (hclo rfl _ w (H.perm (perm_in _ _ _ _ X R0))).mono ?_
    rintro e w (⟨vv, Y, kk, hok, rfl, H⟩ | ⟨c, a', hno, rfl, H⟩)
    rotate_left
    · refine .inr ⟨_, rfl, ?_⟩
      (repeat (first | (with_reducible first | refine e_then ?_ | refine e_block ?_ | refine e_then_ret ?_ | refine e_block_ret ?_ | refine e_then_exit ?_ | refine e_block_here ?_ | refine e_then_panic ?_ | refine e_block_panic ?_) | refine e_block_on rfl ?_))
      refine rD_panic (xa := []) (ca := [_, _]) (v := .int .u8 0) rfl rfl Try.call185 ?_
      refine CallsD.mono (wire_reading_byte__D1_panic (at_ := at_) (H.perm (perm_out _ _ _ _ X R0))) ?_
      rintro e u w ⟨h1, h2, H⟩
      exact ⟨h1, h2, .inr ⟨rfl, .inr ⟨c, hno, rfl, H.sub (sub_two _ _ _ _ _)⟩⟩⟩
    refine .inl ⟨vv, rfl, ?_⟩
    refine L1 rfl rfl H (y_assign (v := vv) rfl rfl) ?_
    refine e_list ?_; (repeat (first | (with_reducible first | refine e_then ?_ | refine e_block ?_ | refine e_then_ret ?_ | refine e_block_ret ?_ | refine e_then_exit ?_ | refine e_block_here ?_ | refine e_then_panic ?_ | refine e_block_panic ?_) | refine e_block_on rfl ?_))
    refine wp_ret ?_; (repeat (first | (with_reducible first | refine e_then ?_ | refine e_block ?_ | refine e_then_ret ?_ | refine e_block_ret ?_ | refine e_then_exit ?_ | refine e_block_here ?_ | refine e_then_panic ?_ | refine e_block_panic ?_) | refine e_block_on rfl ?_))
    refine rD_ret (xa := []) (ca := [_, _]) (v := vv) rfl rfl Try.call185 ?_
    refine CallsD.mono (wire_reading_byte__D1_ret (Rw := fun w => Heap w0 _ w) H) ?_
    rintro e u w ⟨h1, h2, H⟩
    exact ⟨h1, h2, .inr ⟨rfl, .inl ⟨vv, Y, kk, hok, rfl, H.sub (sub_in _ _ _ _ Y X R0)⟩⟩⟩
-- »wire_reading_byte
end
end Go.Wire
