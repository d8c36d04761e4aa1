/-
  The law: ProfileHot.
-/
import Derived.Test.YtjfifehofflaeaaHotP2
import Derived.Test.YtjfifehofflaeaaSame1
namespace Go.Pf
open Go.RowKit Go.Eng Go.Proofs
set_option linter.unusedSimpArgs false
set_option linter.unusedVariables false
attribute [local irreducible] wpList wpQuiet wpStill wpMix wpMixE

def g2 {α : Type} (a b : α) : Nat → α
  | 0 => a
  | _ => b
section
variable {w0 w : World} {R : List Ent} {A : Option Addr} {fs : Fs} {B : Nat → Option Addr} {cc : Nat → Nat} {cap : Nat}
theorem sameN {l : List Nat} {A1 A2 : Option Addr} {c1 c2 : Nat} (h1 : Rd w0 A1 (l.map ivN)) (h2 : Rd w0 A2 (l.map ivN)) (hb : l.length ≤ 140737488355328) :
    Calls Try.prog 26 #[.slice A1 l.length c1, .slice A2 l.length c2] w0 fun e w' => e = .returned (.bool true) ∧ Heap w0 [] w' := by
  have e : (l.map fun y : Nat => (y : Int)).map iv = l.map ivN := by rw [List.map_map]; rfl
  have h := sameInts_calls (w0 := w0) (l := l.map fun y : Nat => (y : Int)) (m := l.map fun y : Nat => (y : Int)) (c1 := c1) (c2 := c2) (by rw [e]; exact h1) (by rw [e]; exact h2) (by rw [List.length_map]; exact hb)
  rw [List.length_map] at h
  exact h.mono fun e w' ⟨h1, h2⟩ => ⟨by rw [h1, decide_eq_true rfl], h2⟩
theorem HotOk.len {c : Nat → Int} {n : Nat} {least : Int} {l : List Nat} (h : HotOk c n least l) : l.length ≤ n := nodup_le n l (pw_nodup h.pw) fun x hx => ((h.mem x).1 hx).1
end
section
variable {w0 w : World} {R : List Ent} {A : Option Addr} {fs : Fs} {B : Nat → Option Addr} {cc : Nat → Nat} {cap : Nat}
-- «law»
set_option maxHeartbeats 1000000 in
theorem profileHot_calls {least : Int} (hP : PfRd w0 A fs B cc) (hb : fs.length ≤ 5864062014634) (hn : ∀ j, j < fs.length → (fs.getD j []).length ≤ 5864062014634) (hr : ∀ j, inR (cN fs j)) :
    Calls Try.prog 6 #[.agg #[.slice A fs.length cap], .int .i64 least] w0 fun e w' => e = .returned (.bool true) ∧ Heap w0 [] w' := by
  refine c_enter (xa := [.agg #[.slice A fs.length cap], .int .i64 least]) 47 Try.func6 rfl rfl rfl ?_
  have H := Heap.init w0
  refine wp_seq ?_
  -- R0
  refine c_region ?_
  refine Lbox rfl rfl rfl (z := .agg #[.slice A fs.length cap]) rfl H (cs := [.slice A fs.length cap]) rfl ?_; intro b2 w H
  refine L1 rfl rfl H (y_assign (v := (.bool _)) rfl rfl) ?_
  refine e_list ?_; (repeat (first | (with_reducible first | refine e_then ?_ | refine e_block ?_ | refine e_then_ret ?_ | refine e_block_ret ?_ | refine e_then_exit ?_ | refine e_block_here ?_ | refine e_then_panic ?_ | refine e_block_panic ?_) | refine e_block_on rfl ?_))
  refine wp_seq ?_
  -- R1
  refine c_region ?_
  refine L1 rfl rfl H (y_loadAgg (vs := [.slice A fs.length cap]) rfl rfl Try.isAgg45 Try.sizeOf45 (cells_blk (k := 0) rfl rfl)) ?_
  refine L1 rfl rfl H (y_move (v := (.int .i64 _)) rfl rfl) ?_
  refine Lfn rfl rfl rfl (xa := [.agg #[.slice A fs.length cap], .int .i64 least]) rfl Try.call23 ?_   -- portage/portageref18.Hot
  refine (refHot_calls (hP.old H) (by omega)).mono ?_
  rintro e w1 ⟨l, Aw, cw, rfl, hl, K⟩
  replace H := H.app_row K
  clear K
  have hll := hl.len
  refine ⟨.slice Aw l.length cw, rfl, ?_⟩
  refine L1 rfl rfl H (y_assign (v := (.slice _ _ _)) rfl rfl) ?_
  refine e_list ?_; (repeat (first | (with_reducible first | refine e_then ?_ | refine e_block ?_ | refine e_then_ret ?_ | refine e_block_ret ?_ | refine e_then_exit ?_ | refine e_block_here ?_ | refine e_then_panic ?_ | refine e_block_panic ?_) | refine e_block_on rfl ?_))
  refine wp_seq ?_
  -- R2
  refine c_region ?_
  refine L1 rfl rfl H (y_loadAgg (vs := [.slice A fs.length cap]) rfl rfl Try.isAgg45 Try.sizeOf45 (cells_blk (k := 1) rfl rfl)) ?_
  refine Lfn rfl rfl rfl (xa := [.agg #[.slice A fs.length cap]]) rfl Try.call24 ?_   -- portage/portagelaw18.lent
  refine (lent_calls (hP.old H) hb hn).mono ?_
  rintro e w ⟨Ag, cg, Bf, cf, rfl, K⟩
  replace H := (H.app K).perm List.perm_append_comm
  clear K
  refine ⟨.agg #[.slice Ag fs.length cg], rfl, ?_⟩
  refine Lalloc rfl rfl rfl H Try.zeroValue45 (cs := [.slice none 0 0]) rfl ?_; intro b6 w H
  refine Lstore 0 rfl rfl rfl rfl (v := .agg #[.slice Ag fs.length cg]) rfl H rfl (vs := [.slice Ag fs.length cg]) rfl Try.sizeOf45 rfl rfl ?_; intro w H
  replace H : Heap w0 (Ent.blk b6 45 [.slice Ag fs.length cg] :: Ent.row w0.heap.size 3 1 (.slice Aw l.length cw) l.length (l.map ivN) :: Ent.blk b2 45 [.slice A fs.length cap] :: lentE w1 Ag cg Bf cf fs) w := H
  refine e_list ?_; (repeat (first | (with_reducible first | refine e_then ?_ | refine e_block ?_ | refine e_then_ret ?_ | refine e_block_ret ?_ | refine e_then_exit ?_ | refine e_block_here ?_ | refine e_then_panic ?_ | refine e_block_panic ?_) | refine e_block_on rfl ?_))
  refine wp_seq ?_
  -- R3
  refine c_region ?_
  refine L1 rfl rfl H (y_loadAgg (vs := [.slice Ag fs.length cg]) rfl rfl Try.isAgg45 Try.sizeOf45 (cells_blk (k := 0) rfl rfl)) ?_
  refine L1 rfl rfl H (y_move (v := (.int .i64 _)) rfl rfl) ?_
  refine Lfn rfl rfl rfl (xa := [(.agg _), (.int .i64 _)]) rfl Try.call25 ?_   -- portage/profile.Hot
  have hx : PfRd w Ag fs Bf cf := lentE_rd (R := []) (by rw [List.append_nil]; exact H.drop 3)
  refine (hotP_calls hx hb hr).mono ?_
  rintro e w ⟨l', Aa, ca, rfl, hl', K⟩
  obtain rfl : l = l' := hl.uniq hl'
  replace H := H.app_row K
  clear K hx hl'
  refine ⟨.slice Aa l.length ca, rfl, ?_⟩
  refine L1 rfl rfl H (y_assign (v := (.slice _ _ _)) rfl rfl) ?_
  refine e_list ?_; (repeat (first | (with_reducible first | refine e_then ?_ | refine e_block ?_ | refine e_then_ret ?_ | refine e_block_ret ?_ | refine e_then_exit ?_ | refine e_block_here ?_ | refine e_then_panic ?_ | refine e_block_panic ?_) | refine e_block_on rfl ?_))
  refine wp_seq ?_
  -- R4
  refine c_region ?_
  refine L1 rfl rfl H (y_loadAgg (vs := [.slice Ag fs.length cg]) rfl rfl Try.isAgg45 Try.sizeOf45 (cells_blk (k := 1) rfl rfl)) ?_
  refine L1 rfl rfl H (y_move (v := (.int .i64 _)) rfl rfl) ?_
  refine Lfn rfl rfl rfl (xa := [(.agg _), (.int .i64 _)]) rfl Try.call25 ?_   -- portage/profile.Hot
  have hx : PfRd w Ag fs Bf cf := lentE_rd (R := []) (by rw [List.append_nil]; exact H.drop 4)
  refine (hotP_calls hx hb hr).mono ?_
  rintro e w ⟨l', Ab, cb, rfl, hl', K⟩
  obtain rfl : l = l' := hl.uniq hl'
  replace H := H.app_row K
  clear K hx hl'
  refine ⟨.slice Ab l.length cb, rfl, ?_⟩
  refine L1 rfl rfl H (y_assign (v := (.slice _ _ _)) rfl rfl) ?_
  refine e_list ?_; (repeat (first | (with_reducible first | refine e_then ?_ | refine e_block ?_ | refine e_then_ret ?_ | refine e_block_ret ?_ | refine e_then_exit ?_ | refine e_block_here ?_ | refine e_then_panic ?_ | refine e_block_panic ?_) | refine e_block_on rfl ?_))
  refine wp_seq ?_
  refine wp_seq ?_
  -- R5
  refine c_region ?_
  refine L1 rfl rfl H (y_move (v := (.slice _ _ _)) rfl rfl) ?_
  refine L1 rfl rfl H (y_move (v := (.slice _ _ _)) rfl rfl) ?_
  refine Lfn rfl rfl rfl (xa := [(.slice _ _ _), (.slice _ _ _)]) rfl Try.call26 ?_   -- portage/portageref0.SameInts
  refine (sameN (l := l) (rd_row (H.get 1 rfl)) (rd_row (H.get 3 rfl)) (by omega)).mono ?_
  rintro e w ⟨rfl, K⟩
  replace H := H.app0 K
  clear K
  refine ⟨_, rfl, ?_⟩
  refine L1 rfl rfl H (y_not rfl rfl) ?_
  refine L1 rfl rfl H (y_move (v := (.bool _)) rfl rfl) ?_
  refine L1g rfl rfl rfl rfl H (y_move (v := (.slice _ _ _)) rfl rfl) ?_
  refine L1g rfl rfl rfl rfl H (y_move (v := (.slice _ _ _)) rfl rfl) ?_
  refine Lfng rfl rfl rfl rfl rfl (xa := [(.slice _ _ _), (.slice _ _ _)]) rfl Try.call26 ?_   -- portage/portageref0.SameInts
  refine (sameN (l := l) (rd_row (H.get 0 rfl)) (rd_row (H.get 3 rfl)) (by omega)).mono ?_
  rintro e w ⟨rfl, K⟩
  replace H := H.app0 K
  clear K
  refine ⟨_, rfl, ?_⟩
  refine L1g rfl rfl rfl rfl H (y_not rfl rfl) ?_
  refine L1 rfl rfl H (y_pick (v := (.bool _)) rfl rfl rfl) ?_
  refine L1 rfl rfl H (y_move (v := (.bool _)) rfl rfl) ?_
  refine L1g rfl rfl rfl rfl H (y_loadAgg (vs := [.slice Ag fs.length cg]) rfl rfl Try.isAgg45 Try.sizeOf45 (cells_blk (k := 2) rfl rfl)) ?_
  refine L1g rfl rfl rfl rfl H (y_loadAgg (vs := [.slice A fs.length cap]) rfl rfl Try.isAgg45 Try.sizeOf45 (cells_blk (k := 4) rfl rfl)) ?_
  refine Lfng rfl rfl rfl rfl rfl (xa := [.agg #[.slice Ag fs.length cg], .agg #[.slice A fs.length cap]]) rfl Try.call27 ?_   -- portage/portagelaw18.kept
  have hx := H.drop 5
  refine (kept_calls (lentE_rd (R := []) (by rw [List.append_nil]; exact hx)) (lentE_marks (R := []) (by rw [List.append_nil]; exact hx)) (hP.old H) hb hn).mono ?_
  rintro e w ⟨rfl, K⟩
  replace H := H.app0 K
  clear K hx
  refine ⟨_, rfl, ?_⟩
  refine L1g rfl rfl rfl rfl H (y_not rfl rfl) ?_
  refine L1 rfl rfl H (y_pick (v := (.bool _)) rfl rfl rfl) ?_
  refine e_list ?_; (repeat (first | (with_reducible first | refine e_then ?_ | refine e_block ?_ | refine e_then_ret ?_ | refine e_block_ret ?_ | refine e_then_exit ?_ | refine e_block_here ?_ | refine e_then_panic ?_ | refine e_block_panic ?_) | refine e_block_on rfl ?_))
  refine c_f rfl ?_   -- if 0
  refine wp_skip ?_; (repeat (first | (with_reducible first | refine e_then ?_ | refine e_block ?_ | refine e_then_ret ?_ | refine e_block_ret ?_ | refine e_then_exit ?_ | refine e_block_here ?_ | refine e_then_panic ?_ | refine e_block_panic ?_) | refine e_block_on rfl ?_))
  refine wp_seq ?_
  -- R7
  refine c_region ?_
  refine L1 rfl rfl H (y_move (v := (.slice _ _ _)) rfl rfl) ?_
  refine L1 rfl rfl H (y_move (v := (.slice _ _ _)) rfl rfl) ?_
  refine LbuildSlice (cs := [.slice Aa l.length ca, .slice Ab l.length cb]) (e := 46) rfl rfl rfl H (fun w => by simp [Instr.buildSlice, Instr.fill, go_sem] <;> rfl) ?_; intro b38 w H
  refine Lfn rfl rfl rfl (xa := [.slice (some ⟨b38, 0, none⟩) 2 2]) rfl Try.call28 ?_   -- portage/portagekit.ApartInts
  replace H := ((H.pick 1 rfl).pick 2 rfl).pick 2 rfl
  refine (apartInts_calls (w0 := w0) (m := 2) (A := g2 Aa Ab) (n := g2 l.length l.length) (c := g2 ca cb) (xs0 := g2 (l.map ivN) (l.map ivN)) (R := Ent.blk b6 45 [.slice Ag fs.length cg] :: Ent.row w0.heap.size 3 1 (.slice Aw l.length cw) l.length (l.map ivN) :: Ent.blk b2 45 [.slice A fs.length cap] :: lentE w1 Ag cg Bf cf fs) (by decide) (fun j _ => by match j with | 0 => exact Nat.le_trans hll (by omega) | _ + 1 => exact Nat.le_trans hll (by omega)) H).mono ?_
  rintro e w ⟨rfl, H⟩
  refine ⟨_, rfl, ?_⟩
  refine L1 rfl rfl H (y_move (v := (.bool _)) rfl rfl) ?_
  refine L1g rfl rfl rfl rfl H (y_loadAgg (vs := [.slice Ag fs.length cg]) rfl rfl Try.isAgg45 Try.sizeOf45 (cells_blk (k := 0) rfl rfl)) ?_
  refine L1g rfl rfl rfl rfl H (y_move (v := (.int .i64 _)) rfl rfl) ?_
  refine Lfng rfl rfl rfl rfl rfl (xa := [(.agg _), (.int .i64 _)]) rfl Try.call25 ?_   -- portage/profile.Hot
  have hx : PfRd w Ag fs Bf cf := lentE_rd (R := []) (by rw [List.append_nil]; exact H.drop 3)
  refine (hotP_calls hx hb hr).mono ?_
  rintro e w ⟨l', Ac, cc3, rfl, hl', K⟩
  obtain rfl : l = l' := hl.uniq hl'
  replace H := H.app_row K
  clear K hx hl'
  refine ⟨.slice Ac l.length cc3, rfl, ?_⟩
  refine L1g rfl rfl rfl rfl H (y_move (v := (.slice _ _ _)) rfl rfl) ?_
  refine Lfng rfl rfl rfl rfl rfl (xa := [(.slice _ _ _), (.slice _ _ _)]) rfl Try.call26 ?_   -- portage/portageref0.SameInts
  refine (sameN (l := l) (rd_row (H.get 0 rfl)) (rd_row (H.get 2 rfl)) (by omega)).mono ?_
  rintro e w ⟨rfl, K⟩
  replace H := H.app0 K
  clear K
  refine ⟨_, rfl, ?_⟩
  refine L1 rfl rfl H (y_pick (v := (.bool _)) rfl rfl rfl) ?_
  refine L1 rfl rfl H (y_assign (v := (.bool _)) rfl rfl) ?_
  refine e_list ?_; (repeat (first | (with_reducible first | refine e_then ?_ | refine e_block ?_ | refine e_then_ret ?_ | refine e_block_ret ?_ | refine e_then_exit ?_ | refine e_block_here ?_ | refine e_then_panic ?_ | refine e_block_panic ?_) | refine e_block_on rfl ?_))
  refine wp_ret ?_; (repeat (first | (with_reducible first | refine e_then ?_ | refine e_block ?_ | refine e_then_ret ?_ | refine e_block_ret ?_ | refine e_then_exit ?_ | refine e_block_here ?_ | refine e_then_panic ?_ | refine e_block_panic ?_) | refine e_block_on rfl ?_))
  refine r_1 (v := (.bool _)) rfl rfl ?_
  exact ⟨rfl, H.clear⟩
-- »law
end
end Go.Pf
