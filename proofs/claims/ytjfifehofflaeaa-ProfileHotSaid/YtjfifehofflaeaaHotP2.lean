/-
  The program: the functions that ran most.
-/
import Derived.Test.YtjfifehofflaeaaSorted1
namespace Go.Pf
open Go.RowKit Go.Eng Go.Proofs
set_option linter.unusedSimpArgs false
set_option linter.unusedVariables false
attribute [local irreducible] wpList wpQuiet wpStill wpMix wpMixE

section
variable {w0 w : World} {R : List Ent} {A : Option Addr} {fs : Fs} {B : Nat → Option Addr} {cc : Nat → Nat} {cap : Nat}
theorem hot_row {L : List Ent} {v : Value} {ts : List Int} {c : Nat → Int} {n : Nat} {least : Int} (H : Heap w0 (Ent.row w0.heap.size 3 1 v ts.length (ts.map iv) :: L) w) (h : ∃ l : List Nat, ts = l.map (fun y : Nat => (y : Int)) ∧ HotOk c n least l) :
    ∃ (l : List Nat) (Al : Option Addr) (cl : Nat), v = .slice Al l.length cl ∧ HotOk c n least l ∧ Heap w0 [Ent.row w0.heap.size 3 1 (.slice Al l.length cl) l.length (l.map ivN)] w := by
  obtain ⟨l, rfl, hl⟩ := h
  obtain ⟨Al, cl, hv, _⟩ := row_form (H.get 0 rfl)
  subst hv
  rw [List.length_map, List.map_map] at H
  rw [List.length_map]
  exact ⟨l, Al, cl, rfl, hl, H.sub (.cons_cons _ (List.nil_sublist _))⟩
end
section
variable {w0 w : World} {R : List Ent} {A : Option Addr} {fs : Fs} {B : Nat → Option Addr} {cc : Nat → Nat} {cap : Nat}
-- «hot»
set_option maxHeartbeats 1000000 in
theorem hotP_calls {least : Int} (hP : PfRd w0 A fs B cc) (hb : fs.length ≤ 5864062014634) (hr : ∀ j, inR (cN fs j)) :
    Calls Try.prog 25 #[.agg #[.slice A fs.length cap], .int .i64 least] w0 fun e w' => ∃ (l : List Nat) (Al : Option Addr) (cl : Nat), e = .returned (.slice Al l.length cl) ∧ HotOk (cN fs) fs.length least l ∧ Heap w0 [Ent.row w0.heap.size 3 1 (.slice Al l.length cl) l.length (l.map ivN)] w' := by
  refine c_enter (xa := [.agg #[.slice A fs.length cap], .int .i64 least]) 30 Try.func25 rfl rfl rfl ?_
  have H := Heap.init w0
  refine wp_seq ?_
  -- R0
  refine c_region ?_
  refine Lbox rfl rfl rfl (z := .agg #[.slice A fs.length cap]) rfl H (cs := [.slice A fs.length cap]) rfl ?_; intro b2 w H
  refine L1 rfl rfl H (y_assign (v := (.slice _ _ _)) rfl rfl) ?_
  refine e_list ?_; (repeat (first | (with_reducible first | refine e_then ?_ | refine e_block ?_ | refine e_then_ret ?_ | refine e_block_ret ?_ | refine e_then_exit ?_ | refine e_block_here ?_ | refine e_then_panic ?_ | refine e_block_panic ?_) | refine e_block_on rfl ?_))
  refine wp_seq ?_
  -- R1
  refine c_region ?_
  refine LmkMap (P := Try.prog) 3 2 rfl rfl rfl H ?_; intro bm w H
  refine Lalloc rfl rfl rfl H Try.zeroValue108 (cs := [.map none]) rfl ?_; intro b5 w H
  (first | refine Lstore 0 rfl rfl rfl rfl (v := (.map _)) rfl H rfl (vs := [_]) rfl Try.sizeOf108 rfl rfl ?_ | refine Lstore 1 rfl rfl rfl rfl (v := (.map _)) rfl H rfl (vs := [_]) rfl Try.sizeOf108 rfl rfl ?_ | refine Lstore 2 rfl rfl rfl rfl (v := (.map _)) rfl H rfl (vs := [_]) rfl Try.sizeOf108 rfl rfl ?_ | refine Lstore 3 rfl rfl rfl rfl (v := (.map _)) rfl H rfl (vs := [_]) rfl Try.sizeOf108 rfl rfl ?_ | refine Lstore 4 rfl rfl rfl rfl (v := (.map _)) rfl H rfl (vs := [_]) rfl Try.sizeOf108 rfl rfl ?_ | refine Lstore 5 rfl rfl rfl rfl (v := (.map _)) rfl H rfl (vs := [_]) rfl Try.sizeOf108 rfl rfl ?_ | refine Lstore 6 rfl rfl rfl rfl (v := (.map _)) rfl H rfl (vs := [_]) rfl Try.sizeOf108 rfl rfl ?_); intro w H
  refine e_list ?_; (repeat (first | (with_reducible first | refine e_then ?_ | refine e_block ?_ | refine e_then_ret ?_ | refine e_block_ret ?_ | refine e_then_exit ?_ | refine e_block_here ?_ | refine e_then_panic ?_ | refine e_block_panic ?_) | refine e_block_on rfl ?_))
  refine wp_seq ?_
  refine wp_seq ?_
  -- R2
  refine c_region ?_
  refine L1 rfl rfl H (y_fieldAddr 0 rfl rfl Try.underlying45 rfl Try.sizeOf43 rfl) ?_
  refine L1 rfl rfl H (y_load (v := (.slice _ _ _)) rfl rfl Try.isAgg43 (by first | exact cell_blk (k := 0) rfl rfl | exact cell_blk (k := 1) rfl rfl | exact cell_blk (k := 2) rfl rfl | exact cell_blk (k := 3) rfl rfl | exact cell_blk (k := 4) rfl rfl | exact cell_blk (k := 5) rfl rfl | exact cell_blk (k := 6) rfl rfl | exact cell_blk (k := 7) rfl rfl)) ?_
  refine L1 rfl rfl H (y_len_slice rfl rfl Try.underlying43) ?_
  refine L1 rfl rfl H (y_move (v := (.int .i64 _)) rfl rfl) ?_
  refine e_list ?_; (repeat (first | (with_reducible first | refine e_then ?_ | refine e_block ?_ | refine e_then_ret ?_ | refine e_block_ret ?_ | refine e_then_exit ?_ | refine e_block_here ?_ | refine e_then_panic ?_ | refine e_block_panic ?_) | refine e_block_on rfl ?_))
  refine wp_block ?_   -- block 0
  refine c_loop (ι := Nat × Nat × DataW Unit) (fun (i, q, D) f w => (∃ gx, f = ov [(1, .int .i64 least), (2, .pointer (some ⟨b2, 0, none⟩)), (5, .pointer (some ⟨b5, 0, none⟩)), (11, .int .i64 (fs.length : Nat)), (12, .int .i64 (i : Nat))] gx) ∧ Heap w0 ([Ent.blk b5 108 [.map (some bm)], Ent.mapE Try.prog 3 2 bm q D, Ent.blk b2 45 [.slice A fs.length cap]]) w ∧ i ≤ fs.length ∧ q ≤ i ∧ MapOk (cN fs) least i D) (fun (i, q, D) => fs.length - i) (0, 0, .map []) ?_ ?_
  · exact ⟨ov_ex _ ⟨rfl, rfl, rfl, rfl, rfl, trivial⟩, H, by omega, by omega, MapOk.start _ _⟩
  rintro ⟨i, q, D⟩ f w ⟨⟨gg, rfl⟩, H, hi, hq, hM⟩
  refine wp_seq ?_
  -- R3
  refine c_region ?_
  refine L1 rfl rfl H (y_lss rfl rfl rfl) ?_
  refine e_list ?_; (repeat (first | (with_reducible first | refine e_then ?_ | refine e_block ?_ | refine e_then_ret ?_ | refine e_block_ret ?_ | refine e_then_exit ?_ | refine e_block_here ?_ | refine e_then_panic ?_ | refine e_block_panic ?_) | refine e_block_on rfl ?_))
  refine wp_seq ?_
  refine c_if rfl (fun h0 => ?_) (fun h0 => ?_)   -- if 0
  · skip
    refine wp_skip ?_; (repeat (first | (with_reducible first | refine e_then ?_ | refine e_block ?_ | refine e_then_ret ?_ | refine e_block_ret ?_ | refine e_then_exit ?_ | refine e_block_here ?_ | refine e_then_panic ?_ | refine e_block_panic ?_) | refine e_block_on rfl ?_))
    refine wp_seq ?_
    refine wp_block ?_   -- block 1
    refine wp_seq ?_
    -- R4
    refine c_region ?_
    refine L1 rfl rfl H (y_move (v := (.int .i64 _)) rfl rfl) ?_
    refine L1 rfl rfl H (y_assign (v := (.int .i64 _)) rfl rfl) ?_
    refine e_list ?_; (repeat (first | (with_reducible first | refine e_then ?_ | refine e_block ?_ | refine e_then_ret ?_ | refine e_block_ret ?_ | refine e_then_exit ?_ | refine e_block_here ?_ | refine e_then_panic ?_ | refine e_block_panic ?_) | refine e_block_on rfl ?_))
    refine wp_seq ?_
    -- R5
    refine c_region ?_
    refine L1 rfl rfl H (y_loadAgg (vs := [.slice A fs.length cap]) rfl rfl Try.isAgg45 Try.sizeOf45 (cells_blk (k := 2) rfl rfl)) ?_
    refine L1 rfl rfl H (y_move (v := (.int .i64 _)) rfl rfl) ?_
    refine Lfn rfl rfl rfl (xa := [.agg #[.slice A fs.length cap], .int .i64 (i : Nat), .int .i64 ((0 : Nat) : Int)]) rfl Try.call68 ?_   -- portage/profile.At
    refine (at_calls (fn := i) (pc := 0) (hP.old H) (by omega) (by omega)).mono ?_
    rintro e w' ⟨rfl, K⟩
    replace H := H.app0 K
    clear K
    refine ⟨_, rfl, ?_⟩
    refine L1 rfl rfl H (y_field (v := .int .i64 (spotN fs i 0).c) (cs := (spV (spotN fs i 0)).toArray) rfl rfl Try.underlying105 rfl (by intro w; simp [part, go_sem, spV] <;> rfl)) ?_
    refine L1 rfl rfl H (y_assign (v := (.int .i64 _)) rfl rfl) ?_
    refine e_list ?_; (repeat (first | (with_reducible first | refine e_then ?_ | refine e_block ?_ | refine e_then_ret ?_ | refine e_block_ret ?_ | refine e_then_exit ?_ | refine e_block_here ?_ | refine e_then_panic ?_ | refine e_block_panic ?_) | refine e_block_on rfl ?_))
    refine wp_seq ?_
    -- R6
    refine c_region ?_
    refine L1 rfl rfl H (y_move (v := (.int .i64 _)) rfl rfl) ?_
    refine L1 rfl rfl H (y_move (v := (.int .i64 _)) rfl rfl) ?_
    refine L1 rfl rfl H (y_geq rfl rfl rfl) ?_
    refine e_list ?_; (repeat (first | (with_reducible first | refine e_then ?_ | refine e_block ?_ | refine e_then_ret ?_ | refine e_block_ret ?_ | refine e_then_exit ?_ | refine e_block_here ?_ | refine e_then_panic ?_ | refine e_block_panic ?_) | refine e_block_on rfl ?_))
    refine c_if rfl (fun hd => ?_) (fun hd => ?_)   -- if 1
    · skip
      have hq2 : q + 1 ≤ i + 1 := by omega
      have hM2 := hM.put (World.ownsMap.isMap (H.get 1 (x := Ent.mapE Try.prog 3 2 bm q D) rfl)) hd
      -- R7
      refine c_region ?_
      refine L1 rfl rfl H (y_load (v := .map (some bm)) rfl rfl Try.isAgg108 (cell_blk (k := 0) rfl rfl)) ?_
      refine L1 rfl rfl H (y_move (v := (.int .i64 _)) rfl rfl) ?_
      refine L1 rfl rfl H (y_move (v := (.int .i64 _)) rfl rfl) ?_
      refine LmapUpd 1 rfl rfl rfl rfl rfl rfl H rfl keyedI Try.underlying108 (by simp only [maxLen]; omega) (key_int (by unfold inR; omega)) (plainElem_int Try.underlying2 (inR_wf (hr i))) ?_; intro w H
      replace H : Heap w0 [Ent.blk b5 108 [.map (some bm)], Ent.mapE Try.prog 3 2 bm (q + 1) (D.put (.int .i64 (i : Int)) (.lit (.int .i64 (cN fs i)))), Ent.blk b2 45 [.slice A fs.length cap]] w := H
      refine e_list ?_; (repeat (first | (with_reducible first | refine e_then ?_ | refine e_block ?_ | refine e_then_ret ?_ | refine e_block_ret ?_ | refine e_then_exit ?_ | refine e_block_here ?_ | refine e_then_panic ?_ | refine e_block_panic ?_) | refine e_block_on rfl ?_))
      -- R8
      refine c_region ?_
      refine L1 rfl rfl H (y_add (r := ((i + 1 : Nat) : Int)) rfl rfl rfl (by rw [wr_i64 (by omega) (by omega)]; omega)) ?_
      refine L1 rfl rfl H (y_move (v := (.int .i64 _)) rfl rfl) ?_
      refine e_list ?_; (repeat (first | (with_reducible first | refine e_then ?_ | refine e_block ?_ | refine e_then_ret ?_ | refine e_block_ret ?_ | refine e_then_exit ?_ | refine e_block_here ?_ | refine e_then_panic ?_ | refine e_block_panic ?_) | refine e_block_on rfl ?_))
      exact ⟨(i + 1, _, _), _, rfl, ⟨ov_ex _ ⟨rfl, rfl, rfl, rfl, rfl, trivial⟩, H, by omega, hq2, hM2⟩, by show fs.length - (i + 1) < fs.length - i; omega⟩
    · skip
      have hq2 : q ≤ i + 1 := by omega
      have hM2 := hM.skip hd
      refine wp_skip ?_; (repeat (first | (with_reducible first | refine e_then ?_ | refine e_block ?_ | refine e_then_ret ?_ | refine e_block_ret ?_ | refine e_then_exit ?_ | refine e_block_here ?_ | refine e_then_panic ?_ | refine e_block_panic ?_) | refine e_block_on rfl ?_))
      -- R8
      refine c_region ?_
      refine L1 rfl rfl H (y_add (r := ((i + 1 : Nat) : Int)) rfl rfl rfl (by rw [wr_i64 (by omega) (by omega)]; omega)) ?_
      refine L1 rfl rfl H (y_move (v := (.int .i64 _)) rfl rfl) ?_
      refine e_list ?_; (repeat (first | (with_reducible first | refine e_then ?_ | refine e_block ?_ | refine e_then_ret ?_ | refine e_block_ret ?_ | refine e_then_exit ?_ | refine e_block_here ?_ | refine e_then_panic ?_ | refine e_block_panic ?_) | refine e_block_on rfl ?_))
      exact ⟨(i + 1, _, _), _, rfl, ⟨ov_ex _ ⟨rfl, rfl, rfl, rfl, rfl, trivial⟩, H, by omega, hq2, hM2⟩, by show fs.length - (i + 1) < fs.length - i; omega⟩
  · skip
    have hin : i = fs.length := by omega
    subst hin
    refine wp_exit ?_; (repeat (first | (with_reducible first | refine e_then ?_ | refine e_block ?_ | refine e_then_ret ?_ | refine e_block_ret ?_ | refine e_then_exit ?_ | refine e_block_here ?_ | refine e_then_panic ?_ | refine e_block_panic ?_) | refine e_block_on rfl ?_))
    refine wp_seq ?_
    -- R9
    refine c_region ?_
    refine L1 rfl rfl H (y_load (v := .map (some bm)) rfl rfl Try.isAgg108 (cell_blk (k := 0) rfl rfl)) ?_
    refine Lfn rfl rfl rfl (xa := [.map (some bm)]) rfl Try.call70 ?_   -- maps.Keys[map[int]int64,int,int64]
    refine (keys_calls (mb := some bm)).mono ?_
    rintro e w' ⟨b1, rfl, K⟩
    replace H := H.app1 K
    clear K
    refine ⟨.func (.func 123) #[] #[.pointer (some ⟨b1, 0, none⟩)], rfl, ?_⟩
    refine L1 rfl rfl H (y_mkfunc (fi := []) (ca := [.pointer (some ⟨b5, 0, none⟩)]) rfl rfl rfl) ?_
    refine Lfn rfl rfl rfl (xa := [.func (.func 123) #[] #[.pointer (some ⟨b1, 0, none⟩)], .func (.func 71) #[] #[.pointer (some ⟨b5, 0, none⟩)]]) rfl Try.call69 ?_   -- slices.SortedFunc[int]
    refine (sortedFunc_calls (n := fs.length) (c := cN fs) (least := least) (R := [Ent.blk b2 45 [.slice A fs.length cap]]) H hM (by omega) (by omega)).mono ?_
    rintro e w ⟨v, ts, rfl, hts, H⟩
    obtain ⟨l, Al, cl, rfl, hl, H⟩ := hot_row H hts
    refine ⟨.slice Al l.length cl, rfl, ?_⟩
    refine L1 rfl rfl H (y_assign (v := (.slice _ _ _)) rfl rfl) ?_
    refine e_list ?_; (repeat (first | (with_reducible first | refine e_then ?_ | refine e_block ?_ | refine e_then_ret ?_ | refine e_block_ret ?_ | refine e_then_exit ?_ | refine e_block_here ?_ | refine e_then_panic ?_ | refine e_block_panic ?_) | refine e_block_on rfl ?_))
    refine wp_ret ?_; (repeat (first | (with_reducible first | refine e_then ?_ | refine e_block ?_ | refine e_then_ret ?_ | refine e_block_ret ?_ | refine e_then_exit ?_ | refine e_block_here ?_ | refine e_then_panic ?_ | refine e_block_panic ?_) | refine e_block_on rfl ?_))
    refine r_1 (v := (.slice _ _ _)) rfl rfl ?_
    exact ⟨l, Al, cl, rfl, hl, H⟩
-- »hot
end
end Go.Pf
