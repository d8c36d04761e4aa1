/-
  The document's answer: the functions that ran most.
-/
import Derived.Test.YtjfifehofflaeaaHot0
import Derived.Test.YtjfifehofflaeaaAt1
import Derived.Test.YtjfifehofflaeaaInts1
import Derived.Test.YtjfifehofflaeaaEng16
namespace Go.Pf
open Go.RowKit Go.Eng Go.Proofs
set_option linter.unusedSimpArgs false
set_option linter.unusedVariables false
attribute [local irreducible] wpList wpQuiet wpStill wpMix wpMixE

def ivN (x : Nat) : Value := .int .i64 (x : Int)
theorem cell_bool {w0 : World} {L : List Ent} {k B e len cap n i q : Nat} {A : Option Addr} {a : Addr} {o : List Bool} (hk : L[k]? = some (Ent.row B e 1 (.slice A len cap) n (o.map Value.bool))) (hA : A = some a) (hq : q = i) (hi : i < o.length) :
    ∀ w, Heap w0 L w → w.cell? (a.add q) = some (.bool (o.getD i true)) := cell_rowA hk hA hq (by rw [List.getElem?_map, List.getD_eq_getElem?_getD, List.getElem?_eq_getElem hi]; rfl)
section
variable {w0 w : World} {R : List Ent} {A : Option Addr} {fs : Fs} {B : Nat → Option Addr} {cc : Nat → Nat} {cap : Nat}
-- «refHot»
set_option maxHeartbeats 1000000 in
theorem refHot_calls {least : Int} (hP : PfRd w0 A fs B cc) (hb : fs.length ≤ 6000000000000) :
    Calls Try.prog 23 #[.agg #[.slice A fs.length cap], .int .i64 least] w0 fun e w' => ∃ l Al cl, e = .returned (.slice Al l.length cl) ∧ HotOk (cN fs) fs.length least l ∧ Heap w0 [Ent.row w0.heap.size 3 1 (.slice Al l.length cl) l.length (l.map ivN)] w' := by
  refine c_enter (xa := [.agg #[.slice A fs.length cap], .int .i64 least]) 71 Try.func23 rfl rfl rfl ?_
  have H := Heap.init w0
  refine wp_seq ?_
  -- R0
  refine c_region ?_
  refine Lbox rfl rfl rfl (z := .agg #[.slice A fs.length cap]) rfl H (cs := [.slice A fs.length cap]) rfl ?_; intro b2 w H
  refine L1 rfl rfl H (y_assign (v := (.slice _ _ _)) rfl rfl) ?_
  refine e_list ?_; (repeat (first | (with_reducible first | refine e_then ?_ | refine e_block ?_ | refine e_then_ret ?_ | refine e_block_ret ?_ | refine e_then_exit ?_ | refine e_block_here ?_ | refine e_then_panic ?_ | refine e_block_panic ?_) | refine e_block_on rfl ?_))
  refine wp_seq ?_
  -- R1
  refine c_region ?_
  refine L1 rfl rfl H (y_assign (v := (.slice _ _ _)) rfl rfl) ?_
  refine e_list ?_; (repeat (first | (with_reducible first | refine e_then ?_ | refine e_block ?_ | refine e_then_ret ?_ | refine e_block_ret ?_ | refine e_then_exit ?_ | refine e_block_here ?_ | refine e_then_panic ?_ | refine e_block_panic ?_) | refine e_block_on rfl ?_))
  replace H := H.row0 3 1
  refine wp_seq ?_
  -- R2
  refine c_region ?_
  refine L1 rfl rfl H (y_assign (v := (.slice _ _ _)) rfl rfl) ?_
  refine e_list ?_; (repeat (first | (with_reducible first | refine e_then ?_ | refine e_block ?_ | refine e_then_ret ?_ | refine e_block_ret ?_ | refine e_then_exit ?_ | refine e_block_here ?_ | refine e_then_panic ?_ | refine e_block_panic ?_) | refine e_block_on rfl ?_))
  replace H := H.row0 4 1
  refine wp_seq ?_
  refine wp_seq ?_
  -- R3
  refine c_region ?_
  refine L1 rfl rfl H (y_assign (v := (.int .i64 _)) rfl rfl) ?_
  refine e_list ?_; (repeat (first | (with_reducible first | refine e_then ?_ | refine e_block ?_ | refine e_then_ret ?_ | refine e_block_ret ?_ | refine e_then_exit ?_ | refine e_block_here ?_ | refine e_then_panic ?_ | refine e_block_panic ?_) | refine e_block_on rfl ?_))
  refine wp_block ?_   -- block 0
  refine c_loop (ι := Nat × Option Addr × Nat) (fun (i, Ao, co) f w => (∃ gx, f = ov [(1, .int .i64 least), (2, .pointer (some ⟨b2, 0, none⟩)), (5, .slice none 0 0), (6, .slice Ao i co), (7, .int .i64 (i : Nat))] gx) ∧ Heap w0 ([Ent.row w0.heap.size 4 1 (.slice Ao i co) i ((o0 (cN fs) least i).map Value.bool), Ent.row w0.heap.size 3 1 (.slice none 0 0) 0 [], Ent.blk b2 45 [.slice A fs.length cap]]) w ∧ i ≤ fs.length) (fun (i, Ao, co) => fs.length - i) (0, none, 0) ?_ ?_
  · exact ⟨ov_ex _ ⟨rfl, rfl, rfl, rfl, rfl, trivial⟩, H, by omega⟩
  rintro ⟨i, Ao, co⟩ f w ⟨⟨gg, rfl⟩, H, hi⟩
  refine wp_seq ?_
  refine wp_seq ?_
  -- R4
  refine c_region ?_
  refine L1 rfl rfl H (y_move (v := (.int .i64 _)) rfl rfl) ?_
  refine L1 rfl rfl H (y_fieldAddr 0 rfl rfl Try.underlying45 rfl Try.sizeOf43 rfl) ?_
  refine L1 rfl rfl H (y_load (v := (.slice _ _ _)) rfl rfl Try.isAgg43 (by first | exact cell_blk (k := 0) rfl rfl | exact cell_blk (k := 1) rfl rfl | exact cell_blk (k := 2) rfl rfl | exact cell_blk (k := 3) rfl rfl | exact cell_blk (k := 4) rfl rfl | exact cell_blk (k := 5) rfl rfl | exact cell_blk (k := 6) rfl rfl | exact cell_blk (k := 7) rfl rfl)) ?_
  refine L1 rfl rfl H (y_len_slice rfl rfl Try.underlying43) ?_
  refine L1 rfl rfl H (y_lss rfl rfl rfl) ?_
  refine e_list ?_; (repeat (first | (with_reducible first | refine e_then ?_ | refine e_block ?_ | refine e_then_ret ?_ | refine e_block_ret ?_ | refine e_then_exit ?_ | refine e_block_here ?_ | refine e_then_panic ?_ | refine e_block_panic ?_) | refine e_block_on rfl ?_))
  refine c_if rfl (fun h0 => ?_) (fun h0 => ?_)   -- if 0
  · skip
    refine wp_skip ?_; (repeat (first | (with_reducible first | refine e_then ?_ | refine e_block ?_ | refine e_then_ret ?_ | refine e_block_ret ?_ | refine e_then_exit ?_ | refine e_block_here ?_ | refine e_then_panic ?_ | refine e_block_panic ?_) | refine e_block_on rfl ?_))
    refine wp_seq ?_
    refine wp_block ?_   -- block 1
    -- R6
    refine c_region ?_
    refine L1 rfl rfl H (y_move (v := (.slice _ _ _)) rfl rfl) ?_
    refine L1 rfl rfl H (y_loadAgg (vs := [.slice A fs.length cap]) rfl rfl Try.isAgg45 Try.sizeOf45 (cells_blk (k := 2) rfl rfl)) ?_
    refine L1 rfl rfl H (y_move (v := (.int .i64 _)) rfl rfl) ?_
    refine Lfn rfl rfl rfl (xa := [.agg #[.slice A fs.length cap], .int .i64 (i : Nat), .int .i64 ((0 : Nat) : Int)]) rfl Try.call67 ?_   -- portage/portageref18.At
    refine (refAt_calls (fn := i) (pc := 0) (hP.old H) (by omega) (by omega)).mono ?_
    rintro e w' ⟨rfl, K⟩
    replace H := H.app0 K
    clear K
    refine ⟨_, rfl, ?_⟩
    refine L1 rfl rfl H (y_field (v := .int .i64 (spotN fs i 0).c) (cs := (spV (spotN fs i 0)).toArray) rfl rfl Try.underlying105 rfl (by intro w; simp [part, go_sem, spV] <;> rfl)) ?_
    refine L1 rfl rfl H (y_move (v := (.int .i64 _)) rfl rfl) ?_
    refine L1 rfl rfl H (y_lss rfl rfl rfl) ?_
    refine LbuildSlice1 (v := (.bool _)) rfl rfl rfl rfl H Try.underlying102 Try.sizeOf4 Try.zeroValue4 rfl rfl ?_; intro b24 w H
    refine Lapp1 0 rfl rfl rfl rfl rfl H rfl Try.underlying102 Try.underlying102 (i := Try.t4) (by kernel_rfl) (z := .bool false) rfl rfl rfl rfl (by show (_ + 1) * 1 ≤ _; omega) (by simp only [maxLen]; omega) ?_
    intro Ao co w hc H
    replace H : Heap w0 [Ent.row w0.heap.size 4 1 (.slice Ao (i + 1) co) (i + 1) ((o0 (cN fs) least i).map Value.bool ++ [.bool (decide (cN fs i < least))]), Ent.row w0.heap.size 3 1 (.slice none 0 0) 0 [], Ent.blk b2 45 [.slice A fs.length cap]] w := H
    rw [show (o0 (cN fs) least i).map Value.bool ++ [.bool (decide (cN fs i < least))] = (o0 (cN fs) least (i + 1)).map Value.bool from by rw [o0_succ, List.map_append]; rfl] at H
    refine L1 rfl rfl H (y_assign (v := (.slice _ _ _)) rfl rfl) ?_
    refine e_list ?_; (repeat (first | (with_reducible first | refine e_then ?_ | refine e_block ?_ | refine e_then_ret ?_ | refine e_block_ret ?_ | refine e_then_exit ?_ | refine e_block_here ?_ | refine e_then_panic ?_ | refine e_block_panic ?_) | refine e_block_on rfl ?_))
    -- R5
    refine c_region ?_
    refine L1 rfl rfl H (y_move (v := (.int .i64 _)) rfl rfl) ?_
    refine L1 rfl rfl H (y_add (r := ((i + 1 : Nat) : Int)) rfl rfl rfl (by rw [wr_i64 (by omega) (by omega)]; omega)) ?_
    refine L1 rfl rfl H (y_assign (v := (.int .i64 _)) rfl rfl) ?_
    refine e_list ?_; (repeat (first | (with_reducible first | refine e_then ?_ | refine e_block ?_ | refine e_then_ret ?_ | refine e_block_ret ?_ | refine e_then_exit ?_ | refine e_block_here ?_ | refine e_then_panic ?_ | refine e_block_panic ?_) | refine e_block_on rfl ?_))
    exact ⟨(i + 1, Ao, co), _, rfl, ⟨ov_ex _ ⟨rfl, rfl, rfl, rfl, rfl, trivial⟩, H, by omega⟩, by show fs.length - (i + 1) < fs.length - i; omega⟩
  · skip
    have hin : i = fs.length := by omega
    subst hin
    refine wp_exit ?_; (repeat (first | (with_reducible first | refine e_then ?_ | refine e_block ?_ | refine e_then_ret ?_ | refine e_block_ret ?_ | refine e_then_exit ?_ | refine e_block_here ?_ | refine e_then_panic ?_ | refine e_block_panic ?_) | refine e_block_on rfl ?_))
    refine wp_seq ?_
    refine wp_seq ?_
    -- R7
    refine c_region ?_
    refine L1 rfl rfl H (y_fieldAddr 0 rfl rfl Try.underlying45 rfl Try.sizeOf43 rfl) ?_
    refine L1 rfl rfl H (y_load (v := (.slice _ _ _)) rfl rfl Try.isAgg43 (by first | exact cell_blk (k := 0) rfl rfl | exact cell_blk (k := 1) rfl rfl | exact cell_blk (k := 2) rfl rfl | exact cell_blk (k := 3) rfl rfl | exact cell_blk (k := 4) rfl rfl | exact cell_blk (k := 5) rfl rfl | exact cell_blk (k := 6) rfl rfl | exact cell_blk (k := 7) rfl rfl)) ?_
    refine L1 rfl rfl H (y_len_slice rfl rfl Try.underlying43) ?_
    refine L1 rfl rfl H (y_move (v := (.int .i64 _)) rfl rfl) ?_
    refine e_list ?_; (repeat (first | (with_reducible first | refine e_then ?_ | refine e_block ?_ | refine e_then_ret ?_ | refine e_block_ret ?_ | refine e_then_exit ?_ | refine e_block_here ?_ | refine e_then_panic ?_ | refine e_block_panic ?_) | refine e_block_on rfl ?_))
    refine wp_block ?_   -- block 2
    refine c_loop (ι := Nat × List Nat × List Bool × Option Addr × Nat) (fun (r, l, o, Al, cl) f w => (∃ gx, f = ov [(2, .pointer (some ⟨b2, 0, none⟩)), (5, .slice Al l.length cl), (6, .slice Ao fs.length co), (28, .int .i64 (fs.length : Nat)), (29, .int .i64 (r : Nat))] gx) ∧ Heap w0 ([Ent.row w0.heap.size 4 1 (.slice Ao fs.length co) fs.length (o.map Value.bool), Ent.row w0.heap.size 3 1 (.slice Al l.length cl) l.length (l.map ivN), Ent.blk b2 45 [.slice A fs.length cap]]) w ∧ r ≤ fs.length ∧ l.length = r ∧ HotInv (cN fs) fs.length least l o) (fun (r, l, o, Al, cl) => fs.length - r) (0, [], o0 (cN fs) least fs.length, none, 0) ?_ ?_
    · exact ⟨ov_ex _ ⟨rfl, rfl, rfl, rfl, rfl, trivial⟩, H, by omega, rfl, HotInv.start _ _ _⟩
    rintro ⟨r, l, o, Al, cl⟩ f w ⟨⟨gg, rfl⟩, H, hr, hlr, hv⟩
    refine wp_seq ?_
    -- R8
    refine c_region ?_
    refine L1 rfl rfl H (y_lss rfl rfl rfl) ?_
    refine e_list ?_; (repeat (first | (with_reducible first | refine e_then ?_ | refine e_block ?_ | refine e_then_ret ?_ | refine e_block_ret ?_ | refine e_then_exit ?_ | refine e_block_here ?_ | refine e_then_panic ?_ | refine e_block_panic ?_) | refine e_block_on rfl ?_))
    refine wp_seq ?_
    refine c_if rfl (fun h1 => ?_) (fun h1 => ?_)   -- if 1
    · skip
      refine wp_skip ?_; (repeat (first | (with_reducible first | refine e_then ?_ | refine e_block ?_ | refine e_then_ret ?_ | refine e_block_ret ?_ | refine e_then_exit ?_ | refine e_block_here ?_ | refine e_then_panic ?_ | refine e_block_panic ?_) | refine e_block_on rfl ?_))
      refine wp_seq ?_
      refine wp_block ?_   -- block 3
      refine wp_seq ?_
      -- R9
      refine c_region ?_
      refine L1 rfl rfl H (y_assign (v := (.int .i64 _)) rfl rfl) ?_
      refine e_list ?_; (repeat (first | (with_reducible first | refine e_then ?_ | refine e_block ?_ | refine e_then_ret ?_ | refine e_block_ret ?_ | refine e_then_exit ?_ | refine e_block_here ?_ | refine e_then_panic ?_ | refine e_block_panic ?_) | refine e_block_on rfl ?_))
      refine wp_seq ?_
      refine wp_seq ?_
      -- R10
      refine c_region ?_
      refine L1 rfl rfl H (y_assign (v := (.int .i64 _)) rfl rfl) ?_
      refine e_list ?_; (repeat (first | (with_reducible first | refine e_then ?_ | refine e_block ?_ | refine e_then_ret ?_ | refine e_block_ret ?_ | refine e_then_exit ?_ | refine e_block_here ?_ | refine e_then_panic ?_ | refine e_block_panic ?_) | refine e_block_on rfl ?_))
      refine wp_block ?_   -- block 4
      refine c_loop (ι := Nat × Int) (fun (i, bst) f w => (∃ gx, f = ov [(2, .pointer (some ⟨b2, 0, none⟩)), (5, .slice Al l.length cl), (6, .slice Ao fs.length co), (8, .int .i64 bst), (9, .int .i64 (i : Nat)), (28, .int .i64 (fs.length : Nat)), (29, .int .i64 (r : Nat))] gx) ∧ Heap w0 ([Ent.row w0.heap.size 4 1 (.slice Ao fs.length co) fs.length (o.map Value.bool), Ent.row w0.heap.size 3 1 (.slice Al l.length cl) l.length (l.map ivN), Ent.blk b2 45 [.slice A fs.length cap]]) w ∧ i ≤ fs.length ∧ BestInv (cN fs) o i bst) (fun (i, bst) => fs.length - i) (0, -1) ?_ ?_
      · exact ⟨ov_ex _ ⟨rfl, rfl, rfl, rfl, rfl, rfl, rfl, trivial⟩, H, by omega, BestInv.start _ _⟩
      rintro ⟨i, bst⟩ f w ⟨⟨gg, rfl⟩, H, hi, hbi⟩
      refine wp_seq ?_
      refine wp_seq ?_
      -- R11
      refine c_region ?_
      refine L1 rfl rfl H (y_move (v := (.int .i64 _)) rfl rfl) ?_
      refine L1 rfl rfl H (y_fieldAddr 0 rfl rfl Try.underlying45 rfl Try.sizeOf43 rfl) ?_
      refine L1 rfl rfl H (y_load (v := (.slice _ _ _)) rfl rfl Try.isAgg43 (by first | exact cell_blk (k := 0) rfl rfl | exact cell_blk (k := 1) rfl rfl | exact cell_blk (k := 2) rfl rfl | exact cell_blk (k := 3) rfl rfl | exact cell_blk (k := 4) rfl rfl | exact cell_blk (k := 5) rfl rfl | exact cell_blk (k := 6) rfl rfl | exact cell_blk (k := 7) rfl rfl)) ?_
      refine L1 rfl rfl H (y_len_slice rfl rfl Try.underlying43) ?_
      refine L1 rfl rfl H (y_lss rfl rfl rfl) ?_
      refine e_list ?_; (repeat (first | (with_reducible first | refine e_then ?_ | refine e_block ?_ | refine e_then_ret ?_ | refine e_block_ret ?_ | refine e_then_exit ?_ | refine e_block_here ?_ | refine e_then_panic ?_ | refine e_block_panic ?_) | refine e_block_on rfl ?_))
      refine c_if rfl (fun h2 => ?_) (fun h2 => ?_)   -- if 2
      · skip
        have hil : i < fs.length := by omega
        have hlo := hbi.lo
        refine wp_skip ?_; (repeat (first | (with_reducible first | refine e_then ?_ | refine e_block ?_ | refine e_then_ret ?_ | refine e_block_ret ?_ | refine e_then_exit ?_ | refine e_block_here ?_ | refine e_then_panic ?_ | refine e_block_panic ?_) | refine e_block_on rfl ?_))
        refine wp_seq ?_
        refine wp_block ?_   -- block 5
        refine c_cutR [2, 5, 6, 8, 9, 28, 29] 57 (o.getD i true = false ∧ (bst < 0 ∨ cN fs bst.toNat < cN fs i)) ([Ent.row w0.heap.size 4 1 (.slice Ao fs.length co) fs.length (o.map Value.bool), Ent.row w0.heap.size 3 1 (.slice Al l.length cl) l.length (l.map ivN), Ent.blk b2 45 [.slice A fs.length cap]]) H ?_ ?_
        · skip
          -- R13 draws
          refine c_draw H (by kernel_rfl) (by kernel_rfl) ?_
          refine Q1 rfl rfl (y_move (v := (.slice _ _ _)) rfl rfl) ?_
          refine Q1 rfl rfl (y_move (v := (.int .i64 _)) rfl rfl) ?_
          obtain ⟨ao, hao, _⟩ := (rd_row (H.get 0 rfl)).some (j := i) (by rw [List.length_map, hv.ol]; omega)
          refine Q1 rfl rfl (y_indexSlA hao rfl rfl rfl Try.underlying102 Try.sizeOf4 (by omega) (by omega)) ?_
          refine Q1 rfl rfl (y_load (v := .bool (o.getD i true)) rfl rfl Try.isAgg4 (cell_bool (k := 0) rfl hao (Nat.mul_one _) (by rw [hv.ol]; omega))) ?_
          refine Q1 rfl rfl (y_notD rfl rfl) ?_
          refine Q_split rfl rfl rfl rfl (fun hg13_5 => ?_) (fun hg13_5 => ?_)
          · skip
            refine Q1g rfl rfl rfl rfl (y_move (v := (.int .i64 _)) rfl rfl) ?_
            refine Q1g rfl rfl rfl rfl (y_lss rfl rfl rfl) ?_
            refine Q_splitg rfl rfl rfl rfl rfl rfl (fun hg13_8 => ?_) (fun hg13_8 => ?_)
            · skip
              refine Qno rfl rfl rfl rfl rfl ?_
              refine Qno rfl rfl rfl rfl rfl ?_
              refine Qno rfl rfl rfl rfl rfl ?_
              refine Qno rfl rfl rfl rfl rfl ?_
              refine Qno rfl rfl rfl rfl rfl ?_
              refine Qno rfl rfl rfl rfl rfl ?_
              refine Qno rfl rfl rfl rfl rfl ?_
              refine Qno rfl rfl rfl rfl rfl ?_
              refine Qno rfl rfl rfl rfl rfl ?_
              refine Q1g rfl rfl rfl rfl (y_pick (v := (.bool _)) rfl rfl rfl) ?_
              refine Q1 rfl rfl (y_pick (v := (.bool _)) rfl rfl rfl) ?_
              refine Qend ?_; intro w H; (repeat (first | (with_reducible first | refine e_then ?_ | refine e_block ?_ | refine e_then_ret ?_ | refine e_block_ret ?_ | refine e_then_exit ?_ | refine e_block_here ?_ | refine e_then_panic ?_ | refine e_block_panic ?_) | refine e_block_on rfl ?_))
              refine ⟨_, rfl, congrArg Value.bool (decide_eq_true ⟨hg13_5, .inl hg13_8⟩).symm, ⟨rfl, rfl, rfl, rfl, rfl, rfl, rfl, trivial⟩, H⟩
            · skip
              refine Q1g rfl rfl rfl rfl (y_loadAgg (vs := [.slice A fs.length cap]) rfl rfl Try.isAgg45 Try.sizeOf45 (cells_blk (k := 2) rfl rfl)) ?_
              refine Q1g rfl rfl rfl rfl (y_move (v := (.int .i64 _)) rfl rfl) ?_
              refine Qfng (xa := [.agg #[.slice A fs.length cap], .int .i64 (i : Nat), .int .i64 ((0 : Nat) : Int)]) rfl rfl rfl rfl rfl rfl Try.call67 (fun w H => (refAt_calls (fn := i) (pc := 0) (hP.old H) (by omega) (by omega)).mono fun e w' h => ⟨h.1, H.app0 h.2⟩) ?_   -- portage/portageref18.At
              refine Q1g rfl rfl rfl rfl (y_field (v := .int .i64 (spotN fs i 0).c) (cs := (spV (spotN fs i 0)).toArray) rfl rfl Try.underlying105 rfl (by intro w; simp [part, go_sem, spV] <;> rfl)) ?_
              refine Q1g rfl rfl rfl rfl (y_loadAgg (vs := [.slice A fs.length cap]) rfl rfl Try.isAgg45 Try.sizeOf45 (cells_blk (k := 2) rfl rfl)) ?_
              refine Q1g rfl rfl rfl rfl (y_move (v := (.int .i64 _)) rfl rfl) ?_
              have hbn : ((bst.toNat : Nat) : Int) = bst := by omega
              refine Qfng (xa := [.agg #[.slice A fs.length cap], .int .i64 bst, .int .i64 ((0 : Nat) : Int)]) rfl rfl rfl rfl rfl rfl Try.call67 (fun w H => (by have hc := (refAt_calls (cap := cap) (fn := bst.toNat) (pc := 0) (hP.old H) (by omega) (by omega)); rw [hbn] at hc; exact hc.mono fun e w' h => ⟨h.1, H.app0 h.2⟩)) ?_   -- portage/portageref18.At
              refine Q1g rfl rfl rfl rfl (y_field (v := .int .i64 (spotN fs bst.toNat 0).c) (cs := (spV (spotN fs bst.toNat 0)).toArray) rfl rfl Try.underlying105 rfl (by intro w; simp [part, go_sem, spV] <;> rfl)) ?_
              refine Q1g rfl rfl rfl rfl (y_gtr rfl rfl rfl) ?_
              refine Q1g rfl rfl rfl rfl (y_pick (v := (.bool _)) rfl rfl rfl) ?_
              refine Q1 rfl rfl (y_pick (v := (.bool _)) rfl rfl rfl) ?_
              refine Qend ?_; intro w H; (repeat (first | (with_reducible first | refine e_then ?_ | refine e_block ?_ | refine e_then_ret ?_ | refine e_block_ret ?_ | refine e_then_exit ?_ | refine e_block_here ?_ | refine e_then_panic ?_ | refine e_block_panic ?_) | refine e_block_on rfl ?_))
              refine ⟨_, rfl, congrArg Value.bool (decide_eq_decide.2 ⟨fun h => ⟨hg13_5, .inr h⟩, fun h => h.2.resolve_left hg13_8⟩), ⟨rfl, rfl, rfl, rfl, rfl, rfl, rfl, trivial⟩, H⟩
          · skip
            refine Qno rfl rfl rfl rfl rfl ?_
            refine Qno rfl rfl rfl rfl rfl ?_
            refine Qno rfl rfl rfl rfl rfl ?_
            refine Qno' rfl rfl rfl rfl ?_
            refine Qno' rfl rfl rfl rfl ?_
            refine Qno' rfl rfl rfl rfl ?_
            refine Qno' rfl rfl rfl rfl ?_
            refine Qno' rfl rfl rfl rfl ?_
            refine Qno' rfl rfl rfl rfl ?_
            refine Qno' rfl rfl rfl rfl ?_
            refine Qno' rfl rfl rfl rfl ?_
            refine Qno' rfl rfl rfl rfl ?_
            refine Qno rfl rfl rfl rfl rfl ?_
            refine Q1 rfl rfl (y_pick (v := (.bool _)) rfl rfl rfl) ?_
            refine Qend ?_; intro w H; (repeat (first | (with_reducible first | refine e_then ?_ | refine e_block ?_ | refine e_then_ret ?_ | refine e_block_ret ?_ | refine e_then_exit ?_ | refine e_block_here ?_ | refine e_then_panic ?_ | refine e_block_panic ?_) | refine e_block_on rfl ?_))
            refine ⟨_, rfl, congrArg Value.bool (decide_eq_false (fun h => hg13_5 h.1)).symm, ⟨rfl, rfl, rfl, rfl, rfl, rfl, rfl, trivial⟩, H⟩
        intro g13 w H
        refine c_if rfl (fun hd => ?_) (fun hd => ?_)   -- if 3
        · skip
          replace hbi := hbi.take hd.1 hd.2
          -- R14
          refine c_region ?_
          refine L1 rfl rfl H (y_move (v := (.int .i64 _)) rfl rfl) ?_
          refine L1 rfl rfl H (y_assign (v := (.int .i64 _)) rfl rfl) ?_
          refine e_list ?_; (repeat (first | (with_reducible first | refine e_then ?_ | refine e_block ?_ | refine e_then_ret ?_ | refine e_block_ret ?_ | refine e_then_exit ?_ | refine e_block_here ?_ | refine e_then_panic ?_ | refine e_block_panic ?_) | refine e_block_on rfl ?_))
          -- R12
          refine c_region ?_
          refine L1 rfl rfl H (y_move (v := (.int .i64 _)) rfl rfl) ?_
          refine L1 rfl rfl H (y_add (r := ((i + 1 : Nat) : Int)) rfl rfl rfl (by rw [wr_i64 (by omega) (by omega)]; omega)) ?_
          refine L1 rfl rfl H (y_assign (v := (.int .i64 _)) rfl rfl) ?_
          refine e_list ?_; (repeat (first | (with_reducible first | refine e_then ?_ | refine e_block ?_ | refine e_then_ret ?_ | refine e_block_ret ?_ | refine e_then_exit ?_ | refine e_block_here ?_ | refine e_then_panic ?_ | refine e_block_panic ?_) | refine e_block_on rfl ?_))
          exact ⟨(i + 1, _), _, rfl, ⟨ov_ex _ ⟨rfl, rfl, rfl, rfl, rfl, rfl, rfl, trivial⟩, H, by omega, hbi⟩, by show fs.length - (i + 1) < fs.length - i; omega⟩
        · skip
          replace hbi := hbi.keep hd
          refine wp_skip ?_; (repeat (first | (with_reducible first | refine e_then ?_ | refine e_block ?_ | refine e_then_ret ?_ | refine e_block_ret ?_ | refine e_then_exit ?_ | refine e_block_here ?_ | refine e_then_panic ?_ | refine e_block_panic ?_) | refine e_block_on rfl ?_))
          -- R12
          refine c_region ?_
          refine L1 rfl rfl H (y_move (v := (.int .i64 _)) rfl rfl) ?_
          refine L1 rfl rfl H (y_add (r := ((i + 1 : Nat) : Int)) rfl rfl rfl (by rw [wr_i64 (by omega) (by omega)]; omega)) ?_
          refine L1 rfl rfl H (y_assign (v := (.int .i64 _)) rfl rfl) ?_
          refine e_list ?_; (repeat (first | (with_reducible first | refine e_then ?_ | refine e_block ?_ | refine e_then_ret ?_ | refine e_block_ret ?_ | refine e_then_exit ?_ | refine e_block_here ?_ | refine e_then_panic ?_ | refine e_block_panic ?_) | refine e_block_on rfl ?_))
          exact ⟨(i + 1, _), _, rfl, ⟨ov_ex _ ⟨rfl, rfl, rfl, rfl, rfl, rfl, rfl, trivial⟩, H, by omega, hbi⟩, by show fs.length - (i + 1) < fs.length - i; omega⟩
      · skip
        have hin : i = fs.length := by omega
        subst hin
        refine wp_exit ?_; (repeat (first | (with_reducible first | refine e_then ?_ | refine e_block ?_ | refine e_then_ret ?_ | refine e_block_ret ?_ | refine e_then_exit ?_ | refine e_block_here ?_ | refine e_then_panic ?_ | refine e_block_panic ?_) | refine e_block_on rfl ?_))
        refine wp_seq ?_
        refine wp_seq ?_
        -- R15
        refine c_region ?_
        refine L1 rfl rfl H (y_move (v := (.int .i64 _)) rfl rfl) ?_
        refine L1 rfl rfl H (y_lss rfl rfl rfl) ?_
        refine e_list ?_; (repeat (first | (with_reducible first | refine e_then ?_ | refine e_block ?_ | refine e_then_ret ?_ | refine e_block_ret ?_ | refine e_then_exit ?_ | refine e_block_here ?_ | refine e_then_panic ?_ | refine e_block_panic ?_) | refine e_block_on rfl ?_))
        refine c_if rfl (fun h4 => ?_) (fun h4 => ?_)   -- if 4
        · skip
          have hall : ∀ x, x < fs.length → o.getD x true = true := by
            rcases hbi with ⟨_, h⟩ | ⟨j, rfl, _⟩
            · exact h
            · omega
          have hok := hv.done_none hall
          refine wp_seq ?_
          -- R16
          refine c_region ?_
          refine L1 rfl rfl H (y_move (v := (.slice _ _ _)) rfl rfl) ?_
          refine L1 rfl rfl H (y_assign (v := (.slice _ _ _)) rfl rfl) ?_
          refine e_list ?_; (repeat (first | (with_reducible first | refine e_then ?_ | refine e_block ?_ | refine e_then_ret ?_ | refine e_block_ret ?_ | refine e_then_exit ?_ | refine e_block_here ?_ | refine e_then_panic ?_ | refine e_block_panic ?_) | refine e_block_on rfl ?_))
          refine wp_ret ?_; (repeat (first | (with_reducible first | refine e_then ?_ | refine e_block ?_ | refine e_then_ret ?_ | refine e_block_ret ?_ | refine e_then_exit ?_ | refine e_block_here ?_ | refine e_then_panic ?_ | refine e_block_panic ?_) | refine e_block_on rfl ?_))
          refine r_1 (v := (.slice _ _ _)) rfl rfl ?_
          exact ⟨l, Al, cl, rfl, hok, H.sub (L' := [Ent.row w0.heap.size 3 1 (.slice Al l.length cl) l.length (l.map ivN)]) (.cons _ (.cons_cons _ (List.nil_sublist _)))⟩
        · skip
          obtain ⟨b, rfl, hbn, hbo, hbm⟩ : ∃ b : Nat, bst = b ∧ b < fs.length ∧ o.getD b true = false ∧ ∀ x, x < fs.length → o.getD x true = false → x = b ∨ before (cN fs) b x := by
            rcases hbi with ⟨h, _⟩ | h
            · omega
            · exact h
          refine wp_skip ?_; (repeat (first | (with_reducible first | refine e_then ?_ | refine e_block ?_ | refine e_then_ret ?_ | refine e_block_ret ?_ | refine e_then_exit ?_ | refine e_block_here ?_ | refine e_then_panic ?_ | refine e_block_panic ?_) | refine e_block_on rfl ?_))
          refine wp_seq ?_
          -- R17
          refine c_region ?_
          refine L1 rfl rfl H (y_move (v := (.slice _ _ _)) rfl rfl) ?_
          refine L1 rfl rfl H (y_move (v := (.int .i64 _)) rfl rfl) ?_
          obtain ⟨ao, hao, _⟩ := (rd_row (H.get 0 rfl)).some (j := b) (by rw [List.length_map, hv.ol]; omega)
          refine L1 rfl rfl H (y_indexSlA hao rfl rfl rfl Try.underlying102 Try.sizeOf4 (by omega) (by omega)) ?_
          refine LstoreRow 0 b hao (Nat.mul_one _) rfl rfl rfl rfl rfl H rfl rfl Try.sizeOf4 rfl hbn ?_; intro w H
          replace H : Heap w0 [Ent.row w0.heap.size 4 1 (.slice Ao fs.length co) fs.length ((o.map Value.bool).set b (.bool true)), Ent.row w0.heap.size 3 1 (.slice Al l.length cl) l.length (l.map ivN), Ent.blk b2 45 [.slice A fs.length cap]] w := H
          rw [show (o.map Value.bool).set b (.bool true) = (o.set b true).map Value.bool from List.map_set.symm] at H
          refine e_list ?_; (repeat (first | (with_reducible first | refine e_then ?_ | refine e_block ?_ | refine e_then_ret ?_ | refine e_block_ret ?_ | refine e_then_exit ?_ | refine e_block_here ?_ | refine e_then_panic ?_ | refine e_block_panic ?_) | refine e_block_on rfl ?_))
          -- R18
          refine c_region ?_
          refine L1 rfl rfl H (y_move (v := (.slice _ _ _)) rfl rfl) ?_
          refine L1 rfl rfl H (y_move (v := (.int .i64 _)) rfl rfl) ?_
          refine LbuildSlice1 (v := (.int .i64 _)) rfl rfl rfl rfl H Try.underlying46 Try.sizeOf3 Try.zeroValue3 rfl rfl ?_; intro b67 w H
          refine Lapp1 1 rfl rfl rfl rfl rfl H rfl Try.underlying46 Try.underlying46 (i := Try.t3) (by kernel_rfl) (z := .int .i64 0) rfl rfl rfl rfl (by show (_ + 1) * 8 ≤ _; omega) (by simp only [maxLen]; omega) ?_
          intro Al cl w hc H
          replace H : Heap w0 [Ent.row w0.heap.size 4 1 (.slice Ao fs.length co) fs.length ((o.set b true).map Value.bool), Ent.row w0.heap.size 3 1 (.slice Al (l.length + 1) cl) (l.length + 1) (l.map ivN ++ [ivN b]), Ent.blk b2 45 [.slice A fs.length cap]] w := H
          rw [show l.map ivN ++ [ivN b] = (l ++ [b]).map ivN from by rw [List.map_append]; rfl, show l.length + 1 = (l ++ [b]).length from by rw [List.length_append]; rfl] at H
          refine L1 rfl rfl H (y_assign (v := (.slice _ _ _)) rfl rfl) ?_
          refine e_list ?_; (repeat (first | (with_reducible first | refine e_then ?_ | refine e_block ?_ | refine e_then_ret ?_ | refine e_block_ret ?_ | refine e_then_exit ?_ | refine e_block_here ?_ | refine e_then_panic ?_ | refine e_block_panic ?_) | refine e_block_on rfl ?_))
          -- R19
          refine c_region ?_
          refine L1 rfl rfl H (y_add (r := ((r + 1 : Nat) : Int)) rfl rfl rfl (by rw [wr_i64 (by omega) (by omega)]; omega)) ?_
          refine L1 rfl rfl H (y_move (v := (.int .i64 _)) rfl rfl) ?_
          refine e_list ?_; (repeat (first | (with_reducible first | refine e_then ?_ | refine e_block ?_ | refine e_then_ret ?_ | refine e_block_ret ?_ | refine e_then_exit ?_ | refine e_block_here ?_ | refine e_then_panic ?_ | refine e_block_panic ?_) | refine e_block_on rfl ?_))
          exact ⟨(r + 1, l ++ [b], o.set b true, Al, cl), _, rfl, ⟨ov_ex _ ⟨rfl, by rw [List.length_append]; rfl, rfl, rfl, rfl, trivial⟩, H, by omega, by rw [List.length_append, hlr]; rfl, hv.step hbn hbo hbm⟩, by show fs.length - (r + 1) < fs.length - r; omega⟩
    · skip
      have hok := hv.done_full (by omega)
      refine wp_exit ?_; (repeat (first | (with_reducible first | refine e_then ?_ | refine e_block ?_ | refine e_then_ret ?_ | refine e_block_ret ?_ | refine e_then_exit ?_ | refine e_block_here ?_ | refine e_then_panic ?_ | refine e_block_panic ?_) | refine e_block_on rfl ?_))
      refine wp_seq ?_
      -- R20
      refine c_region ?_
      refine L1 rfl rfl H (y_move (v := (.slice _ _ _)) rfl rfl) ?_
      refine L1 rfl rfl H (y_assign (v := (.slice _ _ _)) rfl rfl) ?_
      refine e_list ?_; (repeat (first | (with_reducible first | refine e_then ?_ | refine e_block ?_ | refine e_then_ret ?_ | refine e_block_ret ?_ | refine e_then_exit ?_ | refine e_block_here ?_ | refine e_then_panic ?_ | refine e_block_panic ?_) | refine e_block_on rfl ?_))
      refine wp_ret ?_; (repeat (first | (with_reducible first | refine e_then ?_ | refine e_block ?_ | refine e_then_ret ?_ | refine e_block_ret ?_ | refine e_then_exit ?_ | refine e_block_here ?_ | refine e_then_panic ?_ | refine e_block_panic ?_) | refine e_block_on rfl ?_))
      refine r_1 (v := (.slice _ _ _)) rfl rfl ?_
      exact ⟨l, Al, cl, rfl, hok, H.sub (L' := [Ent.row w0.heap.size 3 1 (.slice Al l.length cl) l.length (l.map ivN)]) (.cons _ (.cons_cons _ (List.nil_sublist _)))⟩
-- »refHot
end
end Go.Pf
