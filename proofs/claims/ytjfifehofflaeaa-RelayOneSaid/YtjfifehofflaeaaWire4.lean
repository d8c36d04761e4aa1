/-
  The program's reader: what its callers see.
-/
import Derived.Test.YtjfifehofflaeaaWire3
namespace Go.Wire
open Go.RowKit Go.Eng Go.Proofs
set_option linter.unusedSimpArgs false
set_option linter.unusedVariables false
attribute [local irreducible] wpList wpQuiet wpStill wpMix

section
variable {w0 w : World} {R : List Ent} {g : Nat} {A : Option Addr} {cap : Nat} {b : By} {at_ : Nat} {err : Int}
/-- what a reading call leaves -/
def MPost (w0 : World) (g : Nat) (A : Option Addr) (cap : Nat) (b : By) (at_ : Nat) (err : Int) (R : List Ent) (Okp : Value → List Ent → Nat → Prop) (Er : Nat → Prop) (zero : Value) (v : Value) (w' : World) : Prop :=
  (err ≠ 0 ∧ v = zero ∧ Heap w0 (rdr w0 g A cap b at_ err R) w') ∨
  (err = 0 ∧ ((∃ Y kk, Okp v Y kk ∧ Heap w0 (rdr w0 g A cap b (at_ + kk) 0 (Y ++ R)) w') ∨ (∃ c : Nat, Er c ∧ v = zero ∧ Heap w0 (rdr w0 g A cap b at_ c R) w')))
theorem mpost_of {X : List Ent} {Okp : Value → List Ent → Nat → Prop} {Er : Nat → Prop} {zero : Value} {e : Ending} {w' : World}
    (h : (err ≠ 0 ∧ e = .returned zero ∧ Heap w0 (rdr w0 g A cap b at_ err (X ++ R)) w') ∨
      (err = 0 ∧ ((∃ v Y kk, Okp v Y kk ∧ e = .returned v ∧ Heap w0 (rdr w0 g A cap b (at_ + kk) 0 (Y ++ (X ++ R))) w') ∨
        (∃ c : Nat, Er c ∧ e = .returned zero ∧ Heap w0 (rdr w0 g A cap b at_ c (X ++ R)) w')))) : ∃ v, e = .returned v ∧ MPost w0 g A cap b at_ err R Okp Er zero v w' := by
  have hs : ∀ (c d : Ent), (c :: d :: R).Sublist (c :: d :: (X ++ R)) := fun c d => (List.sublist_append_right X R).cons_cons d |>.cons_cons c
  have hs2 : ∀ (c d : Ent) (Y : List Ent), (c :: d :: (Y ++ R)).Sublist (c :: d :: (Y ++ (X ++ R))) := fun c d Y => ((List.Sublist.refl Y).append (List.sublist_append_right X R)).cons_cons d |>.cons_cons c
  rcases h with ⟨hne, rfl, H⟩ | ⟨h0, ⟨v, Y, kk, hok, rfl, H⟩ | ⟨c, hc, rfl, H⟩⟩
  · exact ⟨_, rfl, .inl ⟨hne, rfl, H.sub (hs _ _)⟩⟩
  · exact ⟨_, rfl, .inr ⟨h0, .inl ⟨Y, kk, hok, H.sub (hs2 _ _ _)⟩⟩⟩
  · exact ⟨_, rfl, .inr ⟨h0, .inr ⟨c, hc, rfl, H.sub (hs _ _)⟩⟩⟩
-- «wire_Reader_Raw»
theorem wire_Reader_Raw_calls {n : Int} (hn : n ≤ 9223372036854775807) (H : Heap w0 (rdr w0 g A cap b at_ err R) w) (hcap : b.length ≤ cap) (hb : b.length ≤ 140737488355328) (hat : at_ ≤ b.length) :
    Calls Try.prog 54 #[.pointer (some ⟨g, 0, none⟩), .int .i64 n] w fun e w' => ∃ v, e = .returned v ∧ MPost w0 g A cap b at_ err R (RawOk w0 b at_ n) (fun c => rawS (b.drop at_) n = .error c) (.slice none 0 0) v w' := by
  refine c_enter (xa := [(.pointer _), (.int .i64 n)]) 8 Try.func54 rfl rfl rfl ?_
  refine wp_seq ?_
  -- R0
  refine c_region ?_
  refine Lbox rfl rfl rfl (z := (.pointer _)) rfl H (cs := [_]) rfl ?_; intro b2 w H
  refine Lbox rfl rfl rfl (z := (.int .i64 _)) rfl H (cs := [_]) rfl ?_; intro b3 w H
  refine L1 rfl rfl H (y_assign (v := .slice none 0 0) rfl rfl) ?_
  refine e_list ?_; (repeat (first | (with_reducible first | refine e_then ?_ | refine e_block ?_ | refine e_then_ret ?_ | refine e_block_ret ?_ | refine e_then_exit ?_ | refine e_block_here ?_ | refine e_then_panic ?_ | refine e_block_panic ?_) | refine e_block_on rfl ?_))
  refine wp_seq ?_
  -- R1
  refine c_region ?_
  refine L1 rfl rfl H (y_load (v := (.pointer _)) rfl rfl Try.isAgg88 (by first | exact cell_blk (k := 0) rfl rfl | exact cell_blk (k := 1) rfl rfl | exact cell_blk (k := 2) rfl rfl | exact cell_blk (k := 3) rfl rfl | exact cell_blk (k := 4) rfl rfl | exact cell_blk (k := 5) rfl rfl | exact cell_blk (k := 6) rfl rfl | exact cell_blk (k := 7) rfl rfl)) ?_
  refine L1 rfl rfl H (y_mkfunc (fi := []) (ca := [(.pointer _), (.pointer _)]) rfl rfl rfl) ?_
  refine Lfn rfl rfl rfl (xa := [(.pointer _), (.func _ _ _)]) rfl Try.call108 ?_   -- portage/wire.reading[[]byte]
  refine (wire_reading_L_byte_calls (fi := []) (ca := [.pointer (some ⟨b3, 0, none⟩), .pointer (some ⟨b2, 0, none⟩)]) (X := [Ent.blk b3 3 [.int .i64 n], Ent.blk b2 88 [.pointer (some ⟨g, 0, none⟩)]]) (R0 := R) (RawOk w0 b at_ n) (fun c => rawS (b.drop at_) n = .error c) Try.call109 (fun he R' w H => raw1_calls hn H hcap hb hat) (H.perm (perm_in _ _ _ _ [] R))).mono ?_
  intro e w hp0
  obtain ⟨v, hv, hp⟩ := mpost_of hp0
  clear hp0
  subst hv
  refine ⟨v, rfl, ?_⟩
  have H := Heap.init w
  refine L1 rfl rfl H (y_assign (v := v) rfl rfl) ?_
  refine e_list ?_; (repeat (first | (with_reducible first | refine e_then ?_ | refine e_block ?_ | refine e_then_ret ?_ | refine e_block_ret ?_ | refine e_then_exit ?_ | refine e_block_here ?_ | refine e_then_panic ?_ | refine e_block_panic ?_) | refine e_block_on rfl ?_))
  refine wp_ret ?_; (repeat (first | (with_reducible first | refine e_then ?_ | refine e_block ?_ | refine e_then_ret ?_ | refine e_block_ret ?_ | refine e_then_exit ?_ | refine e_block_here ?_ | refine e_then_panic ?_ | refine e_block_panic ?_) | refine e_block_on rfl ?_))
  refine r_1 (v := v) rfl rfl ?_
  exact ⟨v, rfl, hp⟩
-- »wire_Reader_Raw
-- «wire_Reader_Count»
theorem wire_Reader_Count_calls {most : Nat} (hm : most ≤ 4611686018427387904) (H : Heap w0 (rdr w0 g A cap b at_ err R) w) (hcap : b.length ≤ cap) (hb : b.length ≤ 140737488355328) (hat : at_ ≤ b.length) :
    Calls Try.prog 55 #[.pointer (some ⟨g, 0, none⟩), .int .i64 (most : Nat)] w fun e w' => ∃ v, e = .returned v ∧ MPost w0 g A cap b at_ err R (CntOk b at_ most) (fun c => cntS (b.drop at_) most = .error c) (.int .i64 0) v w' := by
  refine c_enter (xa := [(.pointer _), (.int .i64 (most : Nat))]) 8 Try.func55 rfl rfl rfl ?_
  refine wp_seq ?_
  -- R0
  refine c_region ?_
  refine Lbox rfl rfl rfl (z := (.pointer _)) rfl H (cs := [_]) rfl ?_; intro b2 w H
  refine Lbox rfl rfl rfl (z := (.int .i64 _)) rfl H (cs := [_]) rfl ?_; intro b3 w H
  refine L1 rfl rfl H (y_assign (v := .int .i64 0) rfl rfl) ?_
  refine e_list ?_; (repeat (first | (with_reducible first | refine e_then ?_ | refine e_block ?_ | refine e_then_ret ?_ | refine e_block_ret ?_ | refine e_then_exit ?_ | refine e_block_here ?_ | refine e_then_panic ?_ | refine e_block_panic ?_) | refine e_block_on rfl ?_))
  refine wp_seq ?_
  -- R1
  refine c_region ?_
  refine L1 rfl rfl H (y_load (v := (.pointer _)) rfl rfl Try.isAgg88 (by first | exact cell_blk (k := 0) rfl rfl | exact cell_blk (k := 1) rfl rfl | exact cell_blk (k := 2) rfl rfl | exact cell_blk (k := 3) rfl rfl | exact cell_blk (k := 4) rfl rfl | exact cell_blk (k := 5) rfl rfl | exact cell_blk (k := 6) rfl rfl | exact cell_blk (k := 7) rfl rfl)) ?_
  refine L1 rfl rfl H (y_mkfunc (fi := []) (ca := [(.pointer _), (.pointer _)]) rfl rfl rfl) ?_
  refine Lfn rfl rfl rfl (xa := [(.pointer _), (.func _ _ _)]) rfl Try.call111 ?_   -- portage/wire.reading[int]
  refine (wire_reading_int_calls (fi := []) (ca := [.pointer (some ⟨b2, 0, none⟩), .pointer (some ⟨b3, 0, none⟩)]) (X := [Ent.blk b3 3 [.int .i64 (most : Nat)], Ent.blk b2 88 [.pointer (some ⟨g, 0, none⟩)]]) (R0 := R) (CntOk b at_ most) (fun c => cntS (b.drop at_) most = .error c) Try.call112 (fun he R' w H => cnt1_calls hm H hcap hb hat) (H.perm (perm_in _ _ _ _ [] R))).mono ?_
  intro e w hp0
  obtain ⟨v, hv, hp⟩ := mpost_of hp0
  clear hp0
  subst hv
  refine ⟨v, rfl, ?_⟩
  have H := Heap.init w
  refine L1 rfl rfl H (y_assign (v := v) rfl rfl) ?_
  refine e_list ?_; (repeat (first | (with_reducible first | refine e_then ?_ | refine e_block ?_ | refine e_then_ret ?_ | refine e_block_ret ?_ | refine e_then_exit ?_ | refine e_block_here ?_ | refine e_then_panic ?_ | refine e_block_panic ?_) | refine e_block_on rfl ?_))
  refine wp_ret ?_; (repeat (first | (with_reducible first | refine e_then ?_ | refine e_block ?_ | refine e_then_ret ?_ | refine e_block_ret ?_ | refine e_then_exit ?_ | refine e_block_here ?_ | refine e_then_panic ?_ | refine e_block_panic ?_) | refine e_block_on rfl ?_))
  refine r_1 (v := v) rfl rfl ?_
  exact ⟨v, rfl, hp⟩
-- »wire_Reader_Count
-- «wire_Reader_Text»
theorem wire_Reader_Text_calls {most : Nat} (hm : most ≤ 4611686018427387904) (H : Heap w0 (rdr w0 g A cap b at_ err R) w) (hcap : b.length ≤ cap) (hb : b.length ≤ 140737488355328) (hat : at_ ≤ b.length) :
    Calls Try.prog 57 #[.pointer (some ⟨g, 0, none⟩), .int .i64 (most : Nat)] w fun e w' => ∃ v, e = .returned v ∧ MPost w0 g A cap b at_ err R (TextOk b at_ most) (fun c => textS (b.drop at_) most = .error c) (.string ByteArray.empty) v w' := by
  refine c_enter (xa := [(.pointer _), (.int .i64 (most : Nat))]) 8 Try.func57 rfl rfl rfl ?_
  refine wp_seq ?_
  -- R0
  refine c_region ?_
  refine Lbox rfl rfl rfl (z := (.pointer _)) rfl H (cs := [_]) rfl ?_; intro b2 w H
  refine Lbox rfl rfl rfl (z := (.int .i64 _)) rfl H (cs := [_]) rfl ?_; intro b3 w H
  refine L1 rfl rfl H (y_assign (v := .string ByteArray.empty) rfl rfl) ?_
  refine e_list ?_; (repeat (first | (with_reducible first | refine e_then ?_ | refine e_block ?_ | refine e_then_ret ?_ | refine e_block_ret ?_ | refine e_then_exit ?_ | refine e_block_here ?_ | refine e_then_panic ?_ | refine e_block_panic ?_) | refine e_block_on rfl ?_))
  refine wp_seq ?_
  -- R1
  refine c_region ?_
  refine L1 rfl rfl H (y_load (v := (.pointer _)) rfl rfl Try.isAgg88 (by first | exact cell_blk (k := 0) rfl rfl | exact cell_blk (k := 1) rfl rfl | exact cell_blk (k := 2) rfl rfl | exact cell_blk (k := 3) rfl rfl | exact cell_blk (k := 4) rfl rfl | exact cell_blk (k := 5) rfl rfl | exact cell_blk (k := 6) rfl rfl | exact cell_blk (k := 7) rfl rfl)) ?_
  refine L1 rfl rfl H (y_mkfunc (fi := []) (ca := [(.pointer _), (.pointer _)]) rfl rfl rfl) ?_
  refine Lfn rfl rfl rfl (xa := [(.pointer _), (.func _ _ _)]) rfl Try.call114 ?_   -- portage/wire.reading[string]
  refine (wire_reading_string_calls (fi := []) (ca := [.pointer (some ⟨b2, 0, none⟩), .pointer (some ⟨b3, 0, none⟩)]) (X := [Ent.blk b3 3 [.int .i64 (most : Nat)], Ent.blk b2 88 [.pointer (some ⟨g, 0, none⟩)]]) (R0 := R) (TextOk b at_ most) (fun c => textS (b.drop at_) most = .error c) Try.call115 (fun he R' w H => text1_calls hm H hcap hb hat) (H.perm (perm_in _ _ _ _ [] R))).mono ?_
  intro e w hp0
  obtain ⟨v, hv, hp⟩ := mpost_of hp0
  clear hp0
  subst hv
  refine ⟨v, rfl, ?_⟩
  have H := Heap.init w
  refine L1 rfl rfl H (y_assign (v := v) rfl rfl) ?_
  refine e_list ?_; (repeat (first | (with_reducible first | refine e_then ?_ | refine e_block ?_ | refine e_then_ret ?_ | refine e_block_ret ?_ | refine e_then_exit ?_ | refine e_block_here ?_ | refine e_then_panic ?_ | refine e_block_panic ?_) | refine e_block_on rfl ?_))
  refine wp_ret ?_; (repeat (first | (with_reducible first | refine e_then ?_ | refine e_block ?_ | refine e_then_ret ?_ | refine e_block_ret ?_ | refine e_then_exit ?_ | refine e_block_here ?_ | refine e_then_panic ?_ | refine e_block_panic ?_) | refine e_block_on rfl ?_))
  refine r_1 (v := v) rfl rfl ?_
  exact ⟨v, rfl, hp⟩
-- »wire_Reader_Text
-- «wire_Reader_Word»
theorem wire_Reader_Word_calls  (H : Heap w0 (rdr w0 g A cap b at_ err R) w) (hcap : b.length ≤ cap) (hb : b.length ≤ 140737488355328) (hat : at_ ≤ b.length) :
    Calls Try.prog 106 #[.pointer (some ⟨g, 0, none⟩)] w fun e w' => ∃ v, e = .returned v ∧ MPost w0 g A cap b at_ err R (WordOk b at_) (fun c => b.length < at_ + 8 ∧ c = 2) (.int .u64 0) v w' := by
  refine c_enter (xa := [(.pointer _)]) 6 Try.func106 rfl rfl rfl ?_
  refine wp_seq ?_
  -- R0
  refine c_region ?_
  refine Lbox rfl rfl rfl (z := (.pointer _)) rfl H (cs := [_]) rfl ?_; intro b1 w H
  refine L1 rfl rfl H (y_assign (v := .int .u64 0) rfl rfl) ?_
  refine e_list ?_; (repeat (first | (with_reducible first | refine e_then ?_ | refine e_block ?_ | refine e_then_ret ?_ | refine e_block_ret ?_ | refine e_then_exit ?_ | refine e_block_here ?_ | refine e_then_panic ?_ | refine e_block_panic ?_) | refine e_block_on rfl ?_))
  refine wp_seq ?_
  -- R1
  refine c_region ?_
  refine L1 rfl rfl H (y_load (v := (.pointer _)) rfl rfl Try.isAgg88 (by first | exact cell_blk (k := 0) rfl rfl | exact cell_blk (k := 1) rfl rfl | exact cell_blk (k := 2) rfl rfl | exact cell_blk (k := 3) rfl rfl | exact cell_blk (k := 4) rfl rfl | exact cell_blk (k := 5) rfl rfl | exact cell_blk (k := 6) rfl rfl | exact cell_blk (k := 7) rfl rfl)) ?_
  refine L1 rfl rfl H (y_mkfunc (fi := []) (ca := [(.pointer _)]) rfl rfl rfl) ?_
  refine Lfn rfl rfl rfl (xa := [(.pointer _), (.func _ _ _)]) rfl Try.call145 ?_   -- portage/wire.reading[uint64]
  refine (wire_reading_uint64_calls (fi := []) (ca := [.pointer (some ⟨b1, 0, none⟩)]) (X := [Ent.blk b1 88 [.pointer (some ⟨g, 0, none⟩)]]) (R0 := R) (WordOk b at_) (fun c => b.length < at_ + 8 ∧ c = 2) Try.call146 (fun he R' w H => word1_calls H hcap hb hat) ((H.pick 1 rfl).pick 2 rfl |>.pick 1 rfl)).mono ?_
  intro e w hp0
  obtain ⟨v, hv, hp⟩ := mpost_of hp0
  clear hp0
  subst hv
  refine ⟨v, rfl, ?_⟩
  have H := Heap.init w
  refine L1 rfl rfl H (y_assign (v := v) rfl rfl) ?_
  refine e_list ?_; (repeat (first | (with_reducible first | refine e_then ?_ | refine e_block ?_ | refine e_then_ret ?_ | refine e_block_ret ?_ | refine e_then_exit ?_ | refine e_block_here ?_ | refine e_then_panic ?_ | refine e_block_panic ?_) | refine e_block_on rfl ?_))
  refine wp_ret ?_; (repeat (first | (with_reducible first | refine e_then ?_ | refine e_block ?_ | refine e_then_ret ?_ | refine e_block_ret ?_ | refine e_then_exit ?_ | refine e_block_here ?_ | refine e_then_panic ?_ | refine e_block_panic ?_) | refine e_block_on rfl ?_))
  refine r_1 (v := v) rfl rfl ?_
  exact ⟨v, rfl, hp⟩
-- »wire_Reader_Word
-- «err»
theorem err_calls (H : Heap w0 (rdr w0 g A cap b at_ err R) w) :
    Calls Try.prog 56 #[.pointer (some ⟨g, 0, none⟩)] w fun e w' => e = .returned (.int .i64 err) ∧ Heap w0 (rdr w0 g A cap b at_ err R) w' := by
  refine c_enter (xa := [(.pointer _)]) 7 Try.func56 rfl rfl rfl ?_
  refine wp_seq ?_
  -- R0
  refine c_region ?_
  refine L1 rfl rfl H (y_assign (v := (.int .i64 _)) rfl rfl) ?_
  refine e_list ?_; (repeat (first | (with_reducible first | refine e_then ?_ | refine e_block ?_ | refine e_then_ret ?_ | refine e_block_ret ?_ | refine e_then_exit ?_ | refine e_block_here ?_ | refine e_then_panic ?_ | refine e_block_panic ?_) | refine e_block_on rfl ?_))
  refine wp_seq ?_
  -- R1
  refine c_region ?_
  refine L1 rfl rfl H (y_move (v := (.pointer _)) rfl rfl) ?_
  refine L1 rfl rfl H (y_nilCheck rfl rfl) ?_
  refine L1 rfl rfl H (y_fieldAddr 2 rfl rfl Try.underlying168 rfl Try.sizeOf37 rfl) ?_
  refine L1 rfl rfl H (y_load (v := (.int .i64 _)) rfl rfl Try.isAgg37 (by first | exact cell_blk (k := 0) rfl rfl | exact cell_blk (k := 1) rfl rfl | exact cell_blk (k := 2) rfl rfl | exact cell_blk (k := 3) rfl rfl | exact cell_blk (k := 4) rfl rfl | exact cell_blk (k := 5) rfl rfl | exact cell_blk (k := 6) rfl rfl | exact cell_blk (k := 7) rfl rfl)) ?_
  refine L1 rfl rfl H (y_assign (v := (.int .i64 _)) rfl rfl) ?_
  refine e_list ?_; (repeat (first | (with_reducible first | refine e_then ?_ | refine e_block ?_ | refine e_then_ret ?_ | refine e_block_ret ?_ | refine e_then_exit ?_ | refine e_block_here ?_ | refine e_then_panic ?_ | refine e_block_panic ?_) | refine e_block_on rfl ?_))
  refine wp_ret ?_; (repeat (first | (with_reducible first | refine e_then ?_ | refine e_block ?_ | refine e_then_ret ?_ | refine e_block_ret ?_ | refine e_then_exit ?_ | refine e_block_here ?_ | refine e_then_panic ?_ | refine e_block_panic ?_) | refine e_block_on rfl ?_))
  refine r_1 (v := (.int .i64 _)) rfl rfl ?_
  exact ⟨rfl, H⟩
-- »err
-- «left»
theorem left_calls (H : Heap w0 (rdr w0 g A cap b at_ err R) w) (hat : at_ ≤ b.length) (hb : b.length ≤ 140737488355328) :
    Calls Try.prog 107 #[.pointer (some ⟨g, 0, none⟩)] w fun e w' => e = .returned (.int .i64 ((b.length : Int) - at_)) ∧ Heap w0 (rdr w0 g A cap b at_ err R) w' := by
  refine c_enter (xa := [(.pointer _)]) 13 Try.func107 rfl rfl rfl ?_
  refine wp_seq ?_
  -- R0
  refine c_region ?_
  refine L1 rfl rfl H (y_assign (v := (.int .i64 _)) rfl rfl) ?_
  refine e_list ?_; (repeat (first | (with_reducible first | refine e_then ?_ | refine e_block ?_ | refine e_then_ret ?_ | refine e_block_ret ?_ | refine e_then_exit ?_ | refine e_block_here ?_ | refine e_then_panic ?_ | refine e_block_panic ?_) | refine e_block_on rfl ?_))
  refine wp_seq ?_
  -- R1 draws
  refine c_draw H (by kernel_rfl) (by kernel_rfl) ?_
  refine Q1 rfl rfl (y_move (v := (.pointer _)) rfl rfl) ?_
  refine Q1 rfl rfl (y_nilCheck rfl rfl) ?_
  refine Q1 rfl rfl (y_fieldAddr 0 rfl rfl Try.underlying168 rfl Try.sizeOf22 rfl) ?_
  refine Q1 rfl rfl (y_load (v := (.slice _ _ _)) rfl rfl Try.isAgg22 (by first | exact cell_blk (k := 0) rfl rfl | exact cell_blk (k := 1) rfl rfl | exact cell_blk (k := 2) rfl rfl | exact cell_blk (k := 3) rfl rfl | exact cell_blk (k := 4) rfl rfl | exact cell_blk (k := 5) rfl rfl | exact cell_blk (k := 6) rfl rfl | exact cell_blk (k := 7) rfl rfl)) ?_
  refine Q1 rfl rfl (y_len_slice rfl rfl Try.underlying22) ?_
  refine Q1 rfl rfl (y_move (v := (.pointer _)) rfl rfl) ?_
  refine Q1 rfl rfl (y_nilCheck rfl rfl) ?_
  refine Q1 rfl rfl (y_fieldAddr 1 rfl rfl Try.underlying168 rfl Try.sizeOf3 rfl) ?_
  refine Q1 rfl rfl (y_load (v := (.int .i64 _)) rfl rfl Try.isAgg3 (by first | exact cell_blk (k := 0) rfl rfl | exact cell_blk (k := 1) rfl rfl | exact cell_blk (k := 2) rfl rfl | exact cell_blk (k := 3) rfl rfl | exact cell_blk (k := 4) rfl rfl | exact cell_blk (k := 5) rfl rfl | exact cell_blk (k := 6) rfl rfl | exact cell_blk (k := 7) rfl rfl)) ?_
  refine Q1 rfl rfl (y_sub rfl rfl rfl (by first | exact wr_i64 (by omega) (by omega) | rfl)) ?_
  refine Q1 rfl rfl (y_assign (v := (.int .i64 _)) rfl rfl) ?_
  refine Qend ?_; intro w H; (repeat (first | (with_reducible first | refine e_then ?_ | refine e_block ?_ | refine e_then_ret ?_ | refine e_block_ret ?_ | refine e_then_exit ?_ | refine e_block_here ?_ | refine e_then_panic ?_ | refine e_block_panic ?_) | refine e_block_on rfl ?_))
  refine wp_ret ?_; (repeat (first | (with_reducible first | refine e_then ?_ | refine e_block ?_ | refine e_then_ret ?_ | refine e_block_ret ?_ | refine e_then_exit ?_ | refine e_block_here ?_ | refine e_then_panic ?_ | refine e_block_panic ?_) | refine e_block_on rfl ?_))
  refine r_1 (v := (.int .i64 _)) rfl rfl ?_
  exact ⟨rfl, H⟩
-- »left
-- «end»
theorem end_calls (H : Heap w0 (rdr w0 g A cap b at_ err R) w) (hat : at_ ≤ b.length) (hb : b.length ≤ 140737488355328) :
    Calls Try.prog 58 #[.pointer (some ⟨g, 0, none⟩)] w fun e w' => e = .returned (.int .i64 (if err = 0 ∧ at_ < b.length then 3 else err)) ∧ Heap w0 (rdr w0 g A cap b at_ err R) w' := by
  refine c_enter (xa := [(.pointer _)]) 17 Try.func58 rfl rfl rfl ?_
  refine wp_seq ?_
  -- R0
  refine c_region ?_
  refine L1 rfl rfl H (y_assign (v := (.int .i64 _)) rfl rfl) ?_
  refine e_list ?_; (repeat (first | (with_reducible first | refine e_then ?_ | refine e_block ?_ | refine e_then_ret ?_ | refine e_block_ret ?_ | refine e_then_exit ?_ | refine e_block_here ?_ | refine e_then_panic ?_ | refine e_block_panic ?_) | refine e_block_on rfl ?_))
  refine wp_seq ?_
  refine c_cutR [0] 12 (err = 0 ∧ (0 : Int) < (b.length : Int) - at_) (rdr w0 g A cap b at_ err R) H ?_ ?_
  · skip
    -- R1
    refine c_region ?_
    refine L1 rfl rfl H (y_move (v := (.pointer _)) rfl rfl) ?_
    refine L1 rfl rfl H (y_nilCheck rfl rfl) ?_
    refine L1 rfl rfl H (y_fieldAddr 2 rfl rfl Try.underlying168 rfl Try.sizeOf37 rfl) ?_
    refine L1 rfl rfl H (y_load (v := (.int .i64 _)) rfl rfl Try.isAgg37 (by first | exact cell_blk (k := 0) rfl rfl | exact cell_blk (k := 1) rfl rfl | exact cell_blk (k := 2) rfl rfl | exact cell_blk (k := 3) rfl rfl | exact cell_blk (k := 4) rfl rfl | exact cell_blk (k := 5) rfl rfl | exact cell_blk (k := 6) rfl rfl | exact cell_blk (k := 7) rfl rfl)) ?_
    refine L1 rfl rfl H (y_eql rfl rfl rfl) ?_
    refine L_split rfl rfl rfl rfl (fun hg1_5 => ?_) (fun hg1_5 => ?_)
    · skip
      refine L1g rfl rfl rfl rfl H (y_move (v := (.pointer _)) rfl rfl) ?_
      refine Lfng rfl rfl rfl rfl rfl (xa := [(.pointer _)]) rfl Try.call107 ?_   -- (*portage/wire.Reader).Left
      refine (left_calls H hat hb).mono ?_
      rintro e w ⟨rfl, H⟩
      refine ⟨_, rfl, ?_⟩
      refine L1g rfl rfl rfl rfl H (y_gtr rfl rfl rfl) ?_
      refine L1 rfl rfl H (y_pick (v := (.bool _)) rfl rfl rfl) ?_
      refine e_list ?_; (repeat (first | (with_reducible first | refine e_then ?_ | refine e_block ?_ | refine e_then_ret ?_ | refine e_block_ret ?_ | refine e_then_exit ?_ | refine e_block_here ?_ | refine e_then_panic ?_ | refine e_block_panic ?_) | refine e_block_on rfl ?_))
      refine ⟨_, rfl, congrArg Value.bool (decide_eq_decide.2 (by omega)), ⟨rfl, trivial⟩, H⟩
    · skip
      refine Lno rfl rfl rfl rfl rfl ?_
      refine Lno rfl rfl rfl rfl rfl ?_
      refine Lno rfl rfl rfl rfl rfl ?_
      refine L1 rfl rfl H (y_pick (v := (.bool _)) rfl rfl rfl) ?_
      refine e_list ?_; (repeat (first | (with_reducible first | refine e_then ?_ | refine e_block ?_ | refine e_then_ret ?_ | refine e_block_ret ?_ | refine e_then_exit ?_ | refine e_block_here ?_ | refine e_then_panic ?_ | refine e_block_panic ?_) | refine e_block_on rfl ?_))
      refine ⟨_, rfl, congrArg Value.bool (decide_eq_false (by omega)).symm, ⟨rfl, trivial⟩, H⟩
  intro g1 w H
  refine c_if rfl (fun h0 => ?_) (fun h0 => ?_)   -- if 0
  · skip
    refine wp_seq ?_
    -- R2
    refine c_region ?_
    refine L1 rfl rfl H (y_assign (v := (.int .i64 _)) rfl rfl) ?_
    refine e_list ?_; (repeat (first | (with_reducible first | refine e_then ?_ | refine e_block ?_ | refine e_then_ret ?_ | refine e_block_ret ?_ | refine e_then_exit ?_ | refine e_block_here ?_ | refine e_then_panic ?_ | refine e_block_panic ?_) | refine e_block_on rfl ?_))
    refine wp_ret ?_; (repeat (first | (with_reducible first | refine e_then ?_ | refine e_block ?_ | refine e_then_ret ?_ | refine e_block_ret ?_ | refine e_then_exit ?_ | refine e_block_here ?_ | refine e_then_panic ?_ | refine e_block_panic ?_) | refine e_block_on rfl ?_))
    refine r_1 (v := (.int .i64 _)) rfl rfl ?_
    exact ⟨by rw [if_pos (by omega)], H⟩
  · skip
    refine wp_skip ?_; (repeat (first | (with_reducible first | refine e_then ?_ | refine e_block ?_ | refine e_then_ret ?_ | refine e_block_ret ?_ | refine e_then_exit ?_ | refine e_block_here ?_ | refine e_then_panic ?_ | refine e_block_panic ?_) | refine e_block_on rfl ?_))
    refine wp_seq ?_
    -- R3
    refine c_region ?_
    refine L1 rfl rfl H (y_move (v := (.pointer _)) rfl rfl) ?_
    refine L1 rfl rfl H (y_nilCheck rfl rfl) ?_
    refine L1 rfl rfl H (y_fieldAddr 2 rfl rfl Try.underlying168 rfl Try.sizeOf37 rfl) ?_
    refine L1 rfl rfl H (y_load (v := (.int .i64 _)) rfl rfl Try.isAgg37 (by first | exact cell_blk (k := 0) rfl rfl | exact cell_blk (k := 1) rfl rfl | exact cell_blk (k := 2) rfl rfl | exact cell_blk (k := 3) rfl rfl | exact cell_blk (k := 4) rfl rfl | exact cell_blk (k := 5) rfl rfl | exact cell_blk (k := 6) rfl rfl | exact cell_blk (k := 7) rfl rfl)) ?_
    refine L1 rfl rfl H (y_assign (v := (.int .i64 _)) rfl rfl) ?_
    refine e_list ?_; (repeat (first | (with_reducible first | refine e_then ?_ | refine e_block ?_ | refine e_then_ret ?_ | refine e_block_ret ?_ | refine e_then_exit ?_ | refine e_block_here ?_ | refine e_then_panic ?_ | refine e_block_panic ?_) | refine e_block_on rfl ?_))
    refine wp_ret ?_; (repeat (first | (with_reducible first | refine e_then ?_ | refine e_block ?_ | refine e_then_ret ?_ | refine e_block_ret ?_ | refine e_then_exit ?_ | refine e_block_here ?_ | refine e_then_panic ?_ | refine e_block_panic ?_) | refine e_block_on rfl ?_))
    refine r_1 (v := (.int .i64 _)) rfl rfl ?_
    exact ⟨by rw [if_neg (by omega)], H⟩
-- »end
-- «newreader»
theorem newReader_calls {w : World} {c : Nat} {l : By} (hR : Rd w A (l.map bv)) (hb : l.length ≤ 140737488355328) :
    Calls Try.prog 52 #[.slice A l.length c] w fun e w' => ∃ g A' cap', e = .returned (.pointer (some ⟨g, 0, none⟩)) ∧ l.length ≤ cap' ∧ Heap w (rdr w g A' cap' l 0 0 []) w' := by
  refine c_enter (xa := [(.slice A l.length c)]) 7 Try.func52 rfl rfl rfl ?_
  have H := Heap.init w
  refine wp_seq ?_
  -- R0
  refine c_region ?_
  refine L1 rfl rfl H (y_assign (v := (.pointer _)) rfl rfl) ?_
  refine e_list ?_; (repeat (first | (with_reducible first | refine e_then ?_ | refine e_block ?_ | refine e_then_ret ?_ | refine e_block_ret ?_ | refine e_then_exit ?_ | refine e_block_here ?_ | refine e_then_panic ?_ | refine e_block_panic ?_) | refine e_block_on rfl ?_))
  refine wp_seq ?_
  -- R1
  refine c_region ?_
  refine L1 rfl rfl H (y_move (v := (.slice A l.length c)) rfl rfl) ?_
  refine Lfn rfl rfl rfl (xa := [(.slice A l.length c)]) rfl Try.call105 ?_   -- slices.Clone[[]byte,byte]
  refine (clone_calls hR (by simp) (bv_one _) hb).mono ?_
  rintro e w' ⟨v, rfl, hv, K⟩
  have hrv := K.row_val 0 rfl
  obtain ⟨A', cap', rfl, hcap, _⟩ := hrv
  replace H := H.app_row K
  clear K
  refine ⟨_, rfl, ?_⟩
  refine L1 rfl rfl H (y_build (v := (.agg #[.slice A' l.length cap', .int .i64 0, .int .i64 0])) rfl (vals := [(0, .slice A' l.length cap')]) rfl (by intro w; simp [Instr.build, Instr.fill, go_sem] <;> rfl)) ?_
  refine Lbox rfl rfl rfl (z := (.agg _)) rfl H (cs := [_, _, _]) rfl ?_; intro b6 w H
  refine L1 rfl rfl H (y_assign (v := (.pointer _)) rfl rfl) ?_
  refine e_list ?_; (repeat (first | (with_reducible first | refine e_then ?_ | refine e_block ?_ | refine e_then_ret ?_ | refine e_block_ret ?_ | refine e_then_exit ?_ | refine e_block_here ?_ | refine e_then_panic ?_ | refine e_block_panic ?_) | refine e_block_on rfl ?_))
  refine wp_ret ?_; (repeat (first | (with_reducible first | refine e_then ?_ | refine e_block ?_ | refine e_then_ret ?_ | refine e_block_ret ?_ | refine e_then_exit ?_ | refine e_block_here ?_ | refine e_then_panic ?_ | refine e_block_panic ?_) | refine e_block_on rfl ?_))
  refine r_1 (v := (.pointer _)) rfl rfl ?_
  exact ⟨_, A', cap', rfl, hcap, H⟩
-- »newreader
end
end Go.Wire
