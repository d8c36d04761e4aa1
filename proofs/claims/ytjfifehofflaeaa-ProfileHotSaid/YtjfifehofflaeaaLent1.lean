/-
  The profile laws' own tools: a profile in memory of its own, marks behind it.
-/
import Derived.Test.YtjfifehofflaeaaPf1
import Derived.Test.YtjfifehofflaeaaEng16
import Derived.Test.YtjfifehofflaeaaChecked
namespace Go.Pf
open Go.RowKit Go.Eng Go.Proofs
set_option linter.unusedSimpArgs false
set_option linter.unusedVariables false
attribute [local irreducible] wpList wpQuiet wpStill wpMix wpMixE

def tailS (k : Nat) : List Sp := (List.range k).map fun i : Nat => ⟨-9, 0, 0, (i : Int)⟩
theorem tailS_succ {k : Nat} : tailS (k + 1) = tailS k ++ [⟨-9, 0, 0, (k : Int)⟩] := by simp [tailS, List.range_succ]
theorem tailS_length {k : Nat} : (tailS k).length = k := by simp [tailS]
def lentL (l : List Sp) : List Sp := l ++ tailS 64
def hdrV (B : Nat → Option Addr) (c : Nat → Nat) (fs : Fs) (j : Nat) : Value := .slice (B j) (fs.getD j []).length (c j)
def rowL (w0 : World) (B : Nat → Option Addr) (c : Nat → Nat) (fs : Fs) (j : Nat) : Ent := Ent.row w0.heap.size 105 4 (.slice (B j) ((fs.getD j []).length + 64) (c j)) ((fs.getD j []).length + 64) (cellsV (lentL (fs.getD j [])))
/-- the rows of a profile that was lent -/
abbrev lentE (w0 : World) (Ag : Option Addr) (cg : Nat) (B : Nat → Option Addr) (c : Nat → Nat) (fs : Fs) : List Ent :=
  Ent.row w0.heap.size 107 1 (.slice Ag fs.length cg) fs.length ((List.range fs.length).map (hdrV B c fs)) :: (List.range fs.length).map (rowL w0 B c fs)
theorem spV_one (s : Sp) : (spV s).all (·.oneCell') = true := rfl
theorem cellsV_ones (l : List Sp) : ∀ u ∈ cellsV l, u.oneCell' = true := fun u hu => by
  obtain ⟨s, _, h⟩ := List.mem_flatMap.1 hu
  exact List.all_eq_true.1 (spV_one s) u h
section
variable {w0 w : World} {R : List Ent} {A : Option Addr} {fs : Fs} {B Bf : Nat → Option Addr} {cc cf : Nat → Nat} {cap i c5 cg : Nat} {A5 Ag : Option Addr} {x1 x2 x3 : Ent}
theorem lent_step (H : Heap w0 (Ent.row w0.heap.size 105 4 (.slice A5 ((fs.getD i []).length + 64) c5) ((fs.getD i []).length + 64) (cellsV (fs.getD i [] ++ tailS 64)) :: x3 :: x2 :: x1 ::
      Ent.row w0.heap.size 107 1 (.slice Ag (i + 1) cg) (i + 1) ((List.range i).map (hdrV Bf cf fs) ++ [.slice A5 (fs.getD i []).length c5]) :: (List.range i).map (rowL w0 Bf cf fs)) w) :
    Heap w0 (x3 :: x2 :: x1 :: Ent.row w0.heap.size 107 1 (.slice Ag (i + 1) cg) (i + 1) ((List.range (i + 1)).map (hdrV (upd Bf i A5) (upd cf i c5) fs)) :: (List.range (i + 1)).map (rowL w0 (upd Bf i A5) (upd cf i c5) fs)) w := by
  have e1 : (List.range i).map (hdrV Bf cf fs) ++ [.slice A5 (fs.getD i []).length c5] = (List.range (i + 1)).map (hdrV (upd Bf i A5) (upd cf i c5) fs) := by
    rw [← range_more (F := hdrV Bf cf fs) (G := hdrV (upd Bf i A5) (upd cf i c5) fs) (fun j hj => by unfold hdrV; rw [upd_ne (by omega), upd_ne (by omega)])]
    congr 2
    unfold hdrV; rw [upd_at, upd_at]
  have e2 : (List.range i).map (rowL w0 Bf cf fs) ++ [Ent.row w0.heap.size 105 4 (.slice A5 ((fs.getD i []).length + 64) c5) ((fs.getD i []).length + 64) (cellsV (fs.getD i [] ++ tailS 64))] = (List.range (i + 1)).map (rowL w0 (upd Bf i A5) (upd cf i c5) fs) := by
    rw [← range_more (F := rowL w0 Bf cf fs) (G := rowL w0 (upd Bf i A5) (upd cf i c5) fs) (fun j hj => by unfold rowL; rw [upd_ne (by omega), upd_ne (by omega)])]
    congr 2
    unfold rowL; rw [upd_at, upd_at]; rfl
  rw [e1] at H
  rw [← e2]
  exact H.last
theorem lentE_rd {w1 : World} (H : Heap w0 (lentE w1 Ag cg Bf cf fs ++ R) w) : PfRd w Ag fs Bf cf where
  outer := rd_row (H.get 0 rfl)
  inner := fun j hj => by
    have h : (rowL w1 Bf cf fs j).ok w := H.get (j + 1) (by rw [List.cons_append, List.getElem?_cons_succ, List.getElem?_append_left (by simpa using hj)]; exact map_range_get hj)
    exact (rd_row h).mono (by unfold lentL; rw [cellsV_append]; exact List.prefix_append _ _)
  cap := fun j hj => by
    have h : (rowL w1 Bf cf fs j).ok w := H.get (j + 1) (by rw [List.cons_append, List.getElem?_cons_succ, List.getElem?_append_left (by simpa using hj)]; exact map_range_get hj)
    obtain ⟨A', c', h1, h2⟩ := row_form h
    have h3 : cf j = c' := by injection h1
    omega
theorem lentE_marks {w1 : World} (H : Heap w0 (lentE w1 Ag cg Bf cf fs ++ R) w) : ∀ j, j < fs.length → Rd w (Bf j) (cellsV (lentL (fs.getD j []))) ∧ (fs.getD j []).length + 64 ≤ cf j := fun j hj => by
  have h : (rowL w1 Bf cf fs j).ok w := H.get (j + 1) (by rw [List.cons_append, List.getElem?_cons_succ, List.getElem?_append_left (by simpa using hj)]; exact map_range_get hj)
  refine ⟨rd_row h, ?_⟩
  obtain ⟨A', c', h1, h2⟩ := row_form h
  have h3 : cf j = c' := by injection h1
  omega
end
section
variable {w0 w : World} {R : List Ent} {A : Option Addr} {fs : Fs} {B : Nat → Option Addr} {cc : Nat → Nat} {cap : Nat}
-- «lent»
set_option maxHeartbeats 1000000 in
theorem lent_calls (hP : PfRd w0 A fs B cc) (hb : fs.length ≤ 5864062014634) (hn : ∀ j, j < fs.length → (fs.getD j []).length ≤ 5864062014634) :
    Calls Try.prog 24 #[.agg #[.slice A fs.length cap]] w0 fun e w' => ∃ Ag cg Bf cf, e = .returned (.agg #[.slice Ag fs.length cg]) ∧ Heap w0 (lentE w0 Ag cg Bf cf fs) w' := by
  refine c_enter (xa := [.agg #[.slice A fs.length cap]]) 44 Try.func24 rfl rfl rfl ?_
  have H := Heap.init w0
  refine wp_seq ?_
  -- R0
  refine c_region ?_
  refine Lbox rfl rfl rfl (z := .agg #[.slice A fs.length cap]) rfl H (cs := [.slice A fs.length cap]) rfl ?_; intro b1 w H
  refine Lalloc rfl rfl rfl H Try.zeroValue45 (cs := [_]) rfl ?_; intro b2 w H
  refine e_list ?_; (repeat (first | (with_reducible first | refine e_then ?_ | refine e_block ?_ | refine e_then_ret ?_ | refine e_block_ret ?_ | refine e_then_exit ?_ | refine e_block_here ?_ | refine e_then_panic ?_ | refine e_block_panic ?_) | refine e_block_on rfl ?_))
  refine wp_seq ?_
  -- R1
  refine c_region ?_
  refine Lalloc rfl rfl rfl H Try.zeroValue45 (cs := [_]) rfl ?_; intro b3 w H
  refine e_list ?_; (repeat (first | (with_reducible first | refine e_then ?_ | refine e_block ?_ | refine e_then_ret ?_ | refine e_block_ret ?_ | refine e_then_exit ?_ | refine e_block_here ?_ | refine e_then_panic ?_ | refine e_block_panic ?_) | refine e_block_on rfl ?_))
  refine wp_seq ?_
  refine wp_seq ?_
  -- R2
  refine c_region ?_
  refine L1 rfl rfl H (y_assign (v := (.int .i64 _)) rfl rfl) ?_
  refine e_list ?_; (repeat (first | (with_reducible first | refine e_then ?_ | refine e_block ?_ | refine e_then_ret ?_ | refine e_block_ret ?_ | refine e_then_exit ?_ | refine e_block_here ?_ | refine e_then_panic ?_ | refine e_block_panic ?_) | refine e_block_on rfl ?_))
  replace H := (H.row0 107 1).last
  refine wp_block ?_   -- block 0
  refine c_loop (ι := Nat × (Nat → Option Addr) × (Nat → Nat) × Option Addr × Nat) (fun (i, Bf, cf, Ag, cg) f w => (∃ gx, f = ov [(1, .pointer (some ⟨b1, 0, none⟩)), (2, .pointer (some ⟨b2, 0, none⟩)), (3, .pointer (some ⟨b3, 0, none⟩)), (4, .int .i64 (i : Nat))] gx) ∧ Heap w0 (Ent.blk b3 45 [.slice Ag i cg] :: Ent.blk b2 45 [.slice none 0 0] :: Ent.blk b1 45 [.slice A fs.length cap] :: Ent.row w0.heap.size 107 1 (.slice Ag i cg) i ((List.range i).map (hdrV Bf cf fs)) :: (List.range i).map (rowL w0 Bf cf fs)) w ∧ i ≤ fs.length) (fun (i, Bf, cf, Ag, cg) => fs.length - i) (0, fun _ => none, fun _ => 0, none, 0) ?_ ?_
  · exact ⟨ov_ex _ ⟨rfl, rfl, rfl, rfl, trivial⟩, H, by omega⟩
  rintro ⟨i, Bf, cf, Ag, cg⟩ f w ⟨⟨gg, rfl⟩, H, hi⟩
  refine wp_seq ?_
  refine wp_seq ?_
  -- R3
  refine c_region ?_
  refine L1 rfl rfl H (y_move (v := (.int .i64 _)) rfl rfl) ?_
  refine L1 rfl rfl H (y_fieldAddr 0 rfl rfl Try.underlying45 rfl Try.sizeOf43 rfl) ?_
  refine L1 rfl rfl H (y_load (v := (.slice _ _ _)) rfl rfl Try.isAgg43 (by first | exact cell_blk (k := 0) rfl rfl | exact cell_blk (k := 1) rfl rfl | exact cell_blk (k := 2) rfl rfl | exact cell_blk (k := 3) rfl rfl | exact cell_blk (k := 4) rfl rfl | exact cell_blk (k := 5) rfl rfl | exact cell_blk (k := 6) rfl rfl | exact cell_blk (k := 7) rfl rfl)) ?_
  refine L1 rfl rfl H (y_len_slice rfl rfl Try.underlying43) ?_
  refine L1 rfl rfl H (y_lss rfl rfl rfl) ?_
  refine e_list ?_; (repeat (first | (with_reducible first | refine e_then ?_ | refine e_block ?_ | refine e_then_ret ?_ | refine e_block_ret ?_ | refine e_then_exit ?_ | refine e_block_here ?_ | refine e_then_panic ?_ | refine e_block_panic ?_) | refine e_block_on rfl ?_))
  refine c_if rfl (fun h0 => ?_) (fun h0 => ?_)   -- if 0
  · skip
    refine wp_skip ?_; (repeat (first | (with_reducible first | refine e_then ?_ | refine e_block ?_ | refine e_then_ret ?_ | refine e_block_ret ?_ | refine e_then_exit ?_ | refine e_block_here ?_ | refine e_then_panic ?_ | refine e_block_panic ?_) | refine e_block_on rfl ?_))
    refine wp_seq ?_
    refine wp_block ?_   -- block 1
    refine wp_seq ?_
    -- R5
    refine c_region ?_
    refine L1 rfl rfl H (y_assign (v := (.slice _ _ _)) rfl rfl) ?_
    refine e_list ?_; (repeat (first | (with_reducible first | refine e_then ?_ | refine e_block ?_ | refine e_then_ret ?_ | refine e_block_ret ?_ | refine e_then_exit ?_ | refine e_block_here ?_ | refine e_then_panic ?_ | refine e_block_panic ?_) | refine e_block_on rfl ?_))
    have hNi := hn i (by omega)
    replace H := H.row0 105 4
    refine wp_seq ?_
    -- R6
    refine c_region ?_
    refine L1 rfl rfl H (y_move (v := (.slice _ _ _)) rfl rfl) ?_
    refine L1 rfl rfl H (y_fieldAddr 0 rfl rfl Try.underlying45 rfl Try.sizeOf43 rfl) ?_
    refine L1 rfl rfl H (y_load (v := (.slice _ _ _)) rfl rfl Try.isAgg43 (by first | exact cell_blk (k := 0) rfl rfl | exact cell_blk (k := 1) rfl rfl | exact cell_blk (k := 2) rfl rfl | exact cell_blk (k := 3) rfl rfl | exact cell_blk (k := 4) rfl rfl | exact cell_blk (k := 5) rfl rfl | exact cell_blk (k := 6) rfl rfl | exact cell_blk (k := 7) rfl rfl)) ?_
    refine L1 rfl rfl H (y_move (v := (.int .i64 _)) rfl rfl) ?_
    obtain ⟨a, ha⟩ := hP.head1 (j := i) (by omega)
    refine L1 rfl rfl H (y_indexSlA ha rfl rfl rfl Try.underlying43 Try.sizeOf107 (by omega) (by omega)) ?_
    refine L1 rfl rfl H (y_load (v := .slice (B i) (fs.getD i []).length (cc i)) rfl rfl Try.isAgg107 (hP.cellO ha (by omega) (Nat.mul_one _))) ?_
    refine LappRK 0 rfl rfl rfl rfl rfl H rfl Try.underlying107 Try.underlying107 (i := Try.t105) (by kernel_rfl) (z := .agg #[.int .i64 0, .int .u16 0, .int .u16 0, .int .i64 0]) rfl rfl rfl (by decide) (cellsV_ones _) ((hP.inner i (by omega)).old H) (cellsV_length _) (by show _ * 24 ≤ _; omega) (by simp only [maxLen]; omega) ?_
    intro A5 c5 w hc5 H
    replace H : Heap w0 (Ent.row w0.heap.size 105 4 (.slice A5 ((fs.getD i []).length) c5) ((fs.getD i []).length) (cellsV (fs.getD i [])) :: Ent.blk b3 45 [.slice Ag i cg] :: Ent.blk b2 45 [.slice none 0 0] :: Ent.blk b1 45 [.slice A fs.length cap] :: Ent.row w0.heap.size 107 1 (.slice Ag i cg) i ((List.range i).map (hdrV Bf cf fs)) :: (List.range i).map (rowL w0 Bf cf fs)) w := by rw [Nat.zero_add] at H; exact H
    rw [show 0 + (fs.getD i []).length = (fs.getD i []).length from Nat.zero_add _] at hc5 ⊢
    refine L1 rfl rfl H (y_assign (v := (.slice _ _ _)) rfl rfl) ?_
    refine e_list ?_; (repeat (first | (with_reducible first | refine e_then ?_ | refine e_block ?_ | refine e_then_ret ?_ | refine e_block_ret ?_ | refine e_then_exit ?_ | refine e_block_here ?_ | refine e_then_panic ?_ | refine e_block_panic ?_) | refine e_block_on rfl ?_))
    refine wp_seq ?_
    refine wp_seq ?_
    -- R7
    refine c_region ?_
    refine L1 rfl rfl H (y_assign (v := (.int .i64 _)) rfl rfl) ?_
    refine e_list ?_; (repeat (first | (with_reducible first | refine e_then ?_ | refine e_block ?_ | refine e_then_ret ?_ | refine e_block_ret ?_ | refine e_then_exit ?_ | refine e_block_here ?_ | refine e_then_panic ?_ | refine e_block_panic ?_) | refine e_block_on rfl ?_))
    refine wp_block ?_   -- block 2
    refine c_loop (ι := Nat × Option Addr × Nat) (fun (k, A5, c5) f w => (∃ gx, f = ov [(1, .pointer (some ⟨b1, 0, none⟩)), (2, .pointer (some ⟨b2, 0, none⟩)), (3, .pointer (some ⟨b3, 0, none⟩)), (4, .int .i64 (i : Nat)), (5, .slice A5 ((fs.getD i []).length + k) c5), (6, .int .i64 (k : Nat))] gx) ∧ Heap w0 (Ent.row w0.heap.size 105 4 (.slice A5 ((fs.getD i []).length + k) c5) ((fs.getD i []).length + k) (cellsV (fs.getD i [] ++ tailS k)) :: Ent.blk b3 45 [.slice Ag i cg] :: Ent.blk b2 45 [.slice none 0 0] :: Ent.blk b1 45 [.slice A fs.length cap] :: Ent.row w0.heap.size 107 1 (.slice Ag i cg) i ((List.range i).map (hdrV Bf cf fs)) :: (List.range i).map (rowL w0 Bf cf fs)) w ∧ k ≤ 64 ∧ (fs.getD i []).length + k ≤ c5) (fun (k, A5, c5) => 64 - k) (0, A5, c5) ?_ ?_
    · exact ⟨ov_ex _ ⟨rfl, rfl, rfl, rfl, rfl, rfl, trivial⟩, (by show Heap w0 (Ent.row _ _ 4 (.slice A5 _ c5) _ (cellsV (fs.getD i [] ++ [])) :: _) _; rw [List.append_nil]; exact H), by omega, by omega⟩
    rintro ⟨k, A5, c5⟩ f w ⟨⟨gg, rfl⟩, H, hk, hc5⟩
    refine wp_seq ?_
    refine wp_seq ?_
    -- R8
    refine c_region ?_
    refine L1 rfl rfl H (y_move (v := (.int .i64 _)) rfl rfl) ?_
    refine L1 rfl rfl H (y_lss rfl rfl rfl) ?_
    refine e_list ?_; (repeat (first | (with_reducible first | refine e_then ?_ | refine e_block ?_ | refine e_then_ret ?_ | refine e_block_ret ?_ | refine e_then_exit ?_ | refine e_block_here ?_ | refine e_then_panic ?_ | refine e_block_panic ?_) | refine e_block_on rfl ?_))
    refine c_if rfl (fun h1 => ?_) (fun h1 => ?_)   -- if 1
    · skip
      refine wp_skip ?_; (repeat (first | (with_reducible first | refine e_then ?_ | refine e_block ?_ | refine e_then_ret ?_ | refine e_block_ret ?_ | refine e_then_exit ?_ | refine e_block_here ?_ | refine e_then_panic ?_ | refine e_block_panic ?_) | refine e_block_on rfl ?_))
      refine wp_seq ?_
      refine wp_block ?_   -- block 3
      -- R10
      refine c_region ?_
      refine L1 rfl rfl H (y_move (v := (.slice _ _ _)) rfl rfl) ?_
      refine L1 rfl rfl H (y_move (v := (.int .i64 _)) rfl rfl) ?_
      refine L1 rfl rfl H (y_build (v := .agg (spV ⟨-9, 0, 0, (k : Int)⟩).toArray) rfl (vals := [(0, .int .i64 (-9)), (3, .int .i64 (k : Nat))]) rfl (by intro w; simp [Instr.build, Instr.fill, go_sem] <;> rfl)) ?_
      refine LbuildSlice (cs := spV ⟨-9, 0, 0, (k : Int)⟩) (e := 105) rfl rfl rfl H (fun w => by simp [Instr.buildSlice, Instr.fill, go_sem] <;> rfl) ?_; intro b28 w H
      refine Lapp1K 0 rfl rfl rfl rfl rfl H rfl Try.underlying107 Try.underlying107 (i := Try.t105) (by kernel_rfl) (z := .agg #[.int .i64 0, .int .u16 0, .int .u16 0, .int .i64 0]) rfl rfl rfl rfl rfl (by show (_ + 1) * 24 ≤ _; omega) (by simp only [maxLen]; omega) ?_
      intro A5 c5 w hc5 H
      replace H : Heap w0 (Ent.row w0.heap.size 105 4 (.slice A5 ((fs.getD i []).length + k + 1) c5) ((fs.getD i []).length + k + 1) (cellsV (fs.getD i [] ++ tailS k) ++ spV ⟨-9, 0, 0, (k : Int)⟩) :: Ent.blk b3 45 [.slice Ag i cg] :: Ent.blk b2 45 [.slice none 0 0] :: Ent.blk b1 45 [.slice A fs.length cap] :: Ent.row w0.heap.size 107 1 (.slice Ag i cg) i ((List.range i).map (hdrV Bf cf fs)) :: (List.range i).map (rowL w0 Bf cf fs)) w := H
      rw [← cellsV_one, ← cellsV_append, List.append_assoc, ← tailS_succ] at H
      refine L1 rfl rfl H (y_assign (v := (.slice _ _ _)) rfl rfl) ?_
      refine e_list ?_; (repeat (first | (with_reducible first | refine e_then ?_ | refine e_block ?_ | refine e_then_ret ?_ | refine e_block_ret ?_ | refine e_then_exit ?_ | refine e_block_here ?_ | refine e_then_panic ?_ | refine e_block_panic ?_) | refine e_block_on rfl ?_))
      -- R9
      refine c_region ?_
      refine L1 rfl rfl H (y_move (v := (.int .i64 _)) rfl rfl) ?_
      refine L1 rfl rfl H (y_add (r := ((k + 1 : Nat) : Int)) rfl rfl rfl (by rw [wr_i64 (by omega) (by omega)]; omega)) ?_
      refine L1 rfl rfl H (y_assign (v := (.int .i64 _)) rfl rfl) ?_
      refine e_list ?_; (repeat (first | (with_reducible first | refine e_then ?_ | refine e_block ?_ | refine e_then_ret ?_ | refine e_block_ret ?_ | refine e_then_exit ?_ | refine e_block_here ?_ | refine e_then_panic ?_ | refine e_block_panic ?_) | refine e_block_on rfl ?_))
      exact ⟨(k + 1, A5, c5), _, rfl, ⟨ov_ex _ ⟨rfl, rfl, rfl, rfl, rfl, rfl, trivial⟩, H, by omega, by omega⟩, by show 64 - (k + 1) < 64 - k; omega⟩
    · skip
      have hk64 : k = 64 := by omega
      subst hk64
      refine wp_exit ?_; (repeat (first | (with_reducible first | refine e_then ?_ | refine e_block ?_ | refine e_then_ret ?_ | refine e_block_ret ?_ | refine e_then_exit ?_ | refine e_block_here ?_ | refine e_then_panic ?_ | refine e_block_panic ?_) | refine e_block_on rfl ?_))
      -- R11 draws
      refine c_mixE [true, true, true, true, true, true, true, true, true, true, false, false, true, false] (Heap w0 [Ent.blk b3 45 [.slice Ag i cg], Ent.blk b2 45 [.slice none 0 0], Ent.blk b1 45 [.slice A fs.length cap]]) (by kernel_rfl) (by kernel_rfl) (by repeat (first | exact pk_body | refine pk_then ?_ | refine pk_block ?_)) H (fun w H => ⟨H.sub (.cons _ ((.cons_cons _ (.cons_cons _ (.cons_cons _ (List.nil_sublist _)))))), ?_⟩)
      refine N1 rfl rfl (y_fieldAddr 0 rfl rfl Try.underlying45 rfl Try.sizeOf43 rfl) ?_
      refine N1 rfl rfl (y_load (v := (.slice _ _ _)) rfl rfl Try.isAgg43 (by first | exact cell_blk (k := 0) rfl rfl | exact cell_blk (k := 1) rfl rfl | exact cell_blk (k := 2) rfl rfl | exact cell_blk (k := 3) rfl rfl | exact cell_blk (k := 4) rfl rfl | exact cell_blk (k := 5) rfl rfl | exact cell_blk (k := 6) rfl rfl | exact cell_blk (k := 7) rfl rfl)) ?_
      refine N1 rfl rfl (y_move (v := (.slice _ _ _)) rfl rfl) ?_
      refine N1 rfl rfl (y_fieldAddr 0 rfl rfl Try.underlying45 rfl Try.sizeOf43 rfl) ?_
      refine N1 rfl rfl (y_load (v := (.slice _ _ _)) rfl rfl Try.isAgg43 (by first | exact cell_blk (k := 0) rfl rfl | exact cell_blk (k := 1) rfl rfl | exact cell_blk (k := 2) rfl rfl | exact cell_blk (k := 3) rfl rfl | exact cell_blk (k := 4) rfl rfl | exact cell_blk (k := 5) rfl rfl | exact cell_blk (k := 6) rfl rfl | exact cell_blk (k := 7) rfl rfl)) ?_
      refine N1 rfl rfl (y_move (v := (.int .i64 _)) rfl rfl) ?_
      obtain ⟨a, ha⟩ := hP.head1 (j := i) (by omega)
      refine N1 rfl rfl (y_indexSlA ha rfl rfl rfl Try.underlying43 Try.sizeOf107 (by omega) (by omega)) ?_
      refine N1 rfl rfl (y_load (v := .slice (B i) (fs.getD i []).length (cc i)) rfl rfl Try.isAgg107 (hP.cellO ha (by omega) (Nat.mul_one _))) ?_
      refine N1 rfl rfl (y_len_slice rfl rfl Try.underlying107) ?_
      refine N1 rfl rfl (y_slice_h rfl rfl rfl Try.underlying107 Try.sizeOf105 (by omega) (by omega)) ?_
      refine N2 ?_
      refine LbuildSlice1 (v := (.slice _ _ _)) rfl rfl rfl rfl H Try.underlying43 Try.sizeOf107 Try.zeroValue107 rfl rfl ?_; intro b40 w H
      refine e_list (e_then ⟨fun _ => H.sub (.cons _ (.cons _ ((.cons_cons _ (.cons_cons _ (.cons_cons _ (List.nil_sublist _))))))), ?_⟩)
      refine N2 ?_
      refine Lapp1 4 rfl rfl rfl rfl rfl H rfl Try.underlying43 Try.underlying43 (i := Try.t107) (by kernel_rfl) (z := .slice none 0 0) rfl rfl rfl rfl (by show (_ + 1) * 24 ≤ _; omega) (by simp only [maxLen]; omega) ?_
      intro Ag2 cg2 w hcg H
      replace H : Heap w0 (Ent.row w0.heap.size 105 4 (.slice A5 ((fs.getD i []).length + 64) c5) ((fs.getD i []).length + 64) (cellsV (fs.getD i [] ++ tailS 64)) :: Ent.blk b3 45 [.slice Ag i cg] :: Ent.blk b2 45 [.slice none 0 0] :: Ent.blk b1 45 [.slice A fs.length cap] :: Ent.row w0.heap.size 107 1 (.slice Ag2 (i + 1) cg2) (i + 1) ((List.range i).map (hdrV Bf cf fs) ++ [.slice A5 (fs.getD i []).length c5]) :: (List.range i).map (rowL w0 Bf cf fs)) w := H
      refine e_list (e_then ⟨fun _ => H.sub (.cons _ ((.cons_cons _ (.cons_cons _ (.cons_cons _ (List.nil_sublist _)))))), ?_⟩)
      refine N1 rfl rfl (y_fieldAddr 0 rfl rfl Try.underlying45 rfl Try.sizeOf43 rfl) ?_
      refine N2 ?_
      (first | refine Lstore 0 rfl rfl rfl rfl (v := (.slice _ _ _)) rfl H rfl (vs := [_]) rfl Try.sizeOf43 rfl rfl ?_ | refine Lstore 1 rfl rfl rfl rfl (v := (.slice _ _ _)) rfl H rfl (vs := [_]) rfl Try.sizeOf43 rfl rfl ?_ | refine Lstore 2 rfl rfl rfl rfl (v := (.slice _ _ _)) rfl H rfl (vs := [_]) rfl Try.sizeOf43 rfl rfl ?_ | refine Lstore 3 rfl rfl rfl rfl (v := (.slice _ _ _)) rfl H rfl (vs := [_]) rfl Try.sizeOf43 rfl rfl ?_ | refine Lstore 4 rfl rfl rfl rfl (v := (.slice _ _ _)) rfl H rfl (vs := [_]) rfl Try.sizeOf43 rfl rfl ?_ | refine Lstore 5 rfl rfl rfl rfl (v := (.slice _ _ _)) rfl H rfl (vs := [_]) rfl Try.sizeOf43 rfl rfl ?_ | refine Lstore 6 rfl rfl rfl rfl (v := (.slice _ _ _)) rfl H rfl (vs := [_]) rfl Try.sizeOf43 rfl rfl ?_); intro w H
      refine e_list (e_then ⟨fun h => absurd rfl h, ?_⟩)
      refine Nend ?_; (repeat (first | (with_reducible first | refine e_then ?_ | refine e_block ?_ | refine e_then_ret ?_ | refine e_block_ret ?_ | refine e_then_exit ?_ | refine e_block_here ?_ | refine e_then_panic ?_ | refine e_block_panic ?_) | refine e_block_on rfl ?_))
      -- R4
      refine c_region ?_
      refine L1 rfl rfl H (y_move (v := (.int .i64 _)) rfl rfl) ?_
      refine L1 rfl rfl H (y_add (r := ((i + 1 : Nat) : Int)) rfl rfl rfl (by rw [wr_i64 (by omega) (by omega)]; omega)) ?_
      refine L1 rfl rfl H (y_assign (v := (.int .i64 _)) rfl rfl) ?_
      refine e_list ?_; (repeat (first | (with_reducible first | refine e_then ?_ | refine e_block ?_ | refine e_then_ret ?_ | refine e_block_ret ?_ | refine e_then_exit ?_ | refine e_block_here ?_ | refine e_then_panic ?_ | refine e_block_panic ?_) | refine e_block_on rfl ?_))
      replace H := lent_step H
      exact ⟨(i + 1, upd Bf i A5, upd cf i c5, Ag2, cg2), _, rfl, ⟨ov_ex _ ⟨rfl, rfl, rfl, rfl, trivial⟩, H, by omega⟩, by show fs.length - (i + 1) < fs.length - i; omega⟩
  · skip
    have hin : i = fs.length := by omega
    subst hin
    refine wp_exit ?_; (repeat (first | (with_reducible first | refine e_then ?_ | refine e_block ?_ | refine e_then_ret ?_ | refine e_block_ret ?_ | refine e_then_exit ?_ | refine e_block_here ?_ | refine e_then_panic ?_ | refine e_block_panic ?_) | refine e_block_on rfl ?_))
    refine wp_seq ?_
    -- R12
    refine c_region ?_
    refine L1 rfl rfl H (y_loadAgg (vs := [.slice Ag fs.length cg]) rfl rfl Try.isAgg45 Try.sizeOf45 (cells_blk (k := 0) rfl rfl)) ?_
    (first | refine Lstore 0 rfl rfl rfl rfl (v := (.agg _)) rfl H rfl (vs := [_]) rfl Try.sizeOf45 rfl rfl ?_ | refine Lstore 1 rfl rfl rfl rfl (v := (.agg _)) rfl H rfl (vs := [_]) rfl Try.sizeOf45 rfl rfl ?_ | refine Lstore 2 rfl rfl rfl rfl (v := (.agg _)) rfl H rfl (vs := [_]) rfl Try.sizeOf45 rfl rfl ?_ | refine Lstore 3 rfl rfl rfl rfl (v := (.agg _)) rfl H rfl (vs := [_]) rfl Try.sizeOf45 rfl rfl ?_ | refine Lstore 4 rfl rfl rfl rfl (v := (.agg _)) rfl H rfl (vs := [_]) rfl Try.sizeOf45 rfl rfl ?_ | refine Lstore 5 rfl rfl rfl rfl (v := (.agg _)) rfl H rfl (vs := [_]) rfl Try.sizeOf45 rfl rfl ?_ | refine Lstore 6 rfl rfl rfl rfl (v := (.agg _)) rfl H rfl (vs := [_]) rfl Try.sizeOf45 rfl rfl ?_); intro w H
    refine e_list ?_; (repeat (first | (with_reducible first | refine e_then ?_ | refine e_block ?_ | refine e_then_ret ?_ | refine e_block_ret ?_ | refine e_then_exit ?_ | refine e_block_here ?_ | refine e_then_panic ?_ | refine e_block_panic ?_) | refine e_block_on rfl ?_))
    refine wp_ret ?_; (repeat (first | (with_reducible first | refine e_then ?_ | refine e_block ?_ | refine e_then_ret ?_ | refine e_block_ret ?_ | refine e_then_exit ?_ | refine e_block_here ?_ | refine e_then_panic ?_ | refine e_block_panic ?_) | refine e_block_on rfl ?_))
    refine r_c rfl rfl (run_loadAgg (vs := [.slice Ag fs.length cg]) Try.isAgg45 Try.sizeOf45 (fun j u hu => cells_blk (k := 1) (off := 0) (vs := [.slice Ag fs.length cg]) rfl rfl w H j u hu)) ?_
    exact ⟨Ag, cg, Bf, cf, rfl, H.drop 3⟩
-- »lent
end
end Go.Pf
