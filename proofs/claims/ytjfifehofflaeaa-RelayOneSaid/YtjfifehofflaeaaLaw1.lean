/-
  The laws' own functions: opened, RelaySealed.
-/
import Derived.Test.YtjfifehofflaeaaRef4
namespace Go.Ref
open Go.RowKit Go.Eng Go.Proofs Go.Wire Go.Relay
set_option linter.unusedSimpArgs false
set_option linter.unusedVariables false
attribute [local irreducible] wpList wpQuiet wpStill wpMix wpMixE

def openL (b : By) : By × List By := match openS b with
  | .ok p => p
  | .error _ => ([], [])
def openK (b : By) : Nat := match openS b with
  | .ok _ => 0
  | .error k => k
theorem openL_fits (b : By) : fitsS (openL b).1 (openL b).2 := by
  unfold openL
  cases h : openS b with
  | ok p => exact (open_back (img := p.1) (ts := p.2) h).2
  | error k => exact ⟨Nat.zero_le _, Nat.zero_le _, by simp⟩
theorem y_neqF {P : Program} {C : World → Prop} {o : Oper} {ρ : Operand → Value} {t t2 : TypeId} {x y : Operand} {k : IntKind} {a : Int} (ho : o.op = .binOp .neq t x y t2) (hx : ρ x = .int k a) (hy : ρ y = .int k a) : Gives P C o ρ (.bool false) := by
  have := y_neq (P := P) (C := C) ho hx hy
  rw [decide_eq_false (by simp)] at this
  exact this
section
variable {w0 w : World} {R : List Ent} {g : Nat} {A : Option Addr} {cap : Nat} {b : By}
theorem unite {e : Ending} {w' : World} (h : (∃ k, openS b = .error k ∧ e = .returned (.tuple #[.slice none 0 0, .slice none 0 0, .int .i64 (k : Nat)]) ∧ Heap w0 [] w') ∨
      (∃ l ts A1 c1 A2 c2, openS b = .ok (l, ts) ∧ e = .returned (.tuple #[.slice A1 l.length c1, .slice A2 ts.length c2, .int .i64 0]) ∧ l.length ≤ c1 ∧ ts.length ≤ c2 ∧ Heap w0 [rowB w0 A1 c1 l, rowT w0 A2 c2 ts] w')) :
    ∃ A1 c1 A2 c2, e = .returned (.tuple #[.slice A1 (openL b).1.length c1, .slice A2 (openL b).2.length c2, .int .i64 (openK b : Nat)]) ∧ (openL b).1.length ≤ c1 ∧ (openL b).2.length ≤ c2 ∧ Heap w0 [rowB w0 A1 c1 (openL b).1, rowT w0 A2 c2 (openL b).2] w' := by
  rcases h with ⟨k, ho, rfl, H⟩ | ⟨l, ts, A1, c1, A2, c2, ho, rfl, h1, h2, H⟩
  · have e1 : openL b = ([], []) := by unfold openL; rw [ho]
    have e2 : openK b = k := by unfold openK; rw [ho]
    rw [e1, e2]
    exact ⟨none, 0, none, 0, rfl, Nat.le_refl _, Nat.le_refl _, (H.row0 9 1).row0 5 1⟩
  · have e1 : openL b = (l, ts) := by unfold openL; rw [ho]
    have e2 : openK b = 0 := by unfold openK; rw [ho]
    rw [e1, e2]
    exact ⟨A1, c1, A2, c2, rfl, h1, h2, H⟩
/-- what a callee has opened joins the memory -/
theorem join2 {L : List Ent} {w' : World} {A1 A2 : Option Addr} {c1 c2 : Nat} {l : By} {ts : List By} (H : Heap w0 L w) (K : Heap w [rowB w A1 c1 l, rowT w A2 c2 ts] w') : Heap w0 (rowB w0 A1 c1 l :: rowT w0 A2 c2 ts :: L) w' :=
  ((H.app K).row_base_at 0 rfl H.base.size).row_base_at 1 rfl H.base.size
theorem num_calls {x : Int} : Calls Try.prog 21 #[.int .i64 x] w0 fun e w' => e = .returned (.int .i64 x) ∧ Heap w0 [] w' := by
  refine c_enter (xa := [.int .i64 x]) 4 Try.func21 rfl rfl rfl ?_
  have H := Heap.init w0
  refine wp_seq ?_
  refine c_region ?_
  refine L1 rfl rfl H (y_assign (v := (.int .i64 _)) rfl rfl) ?_
  refine e_list ?_; (repeat (first | (with_reducible first | refine e_then ?_ | refine e_block ?_ | refine e_then_ret ?_ | refine e_block_ret ?_ | refine e_then_exit ?_ | refine e_block_here ?_ | refine e_then_panic ?_ | refine e_block_panic ?_) | refine e_block_on rfl ?_))
  refine wp_seq ?_
  refine c_region ?_
  refine L1 rfl rfl H (y_move (v := (.int .i64 _)) rfl rfl) ?_
  refine L1 rfl rfl H (y_assign (v := (.int .i64 _)) rfl rfl) ?_
  refine e_list ?_; (repeat (first | (with_reducible first | refine e_then ?_ | refine e_block ?_ | refine e_then_ret ?_ | refine e_block_ret ?_ | refine e_then_exit ?_ | refine e_block_here ?_ | refine e_then_panic ?_ | refine e_block_panic ?_) | refine e_block_on rfl ?_))
  refine wp_ret ?_; (repeat (first | (with_reducible first | refine e_then ?_ | refine e_block ?_ | refine e_then_ret ?_ | refine e_block_ret ?_ | refine e_then_exit ?_ | refine e_block_here ?_ | refine e_then_panic ?_ | refine e_block_panic ?_) | refine e_block_on rfl ?_))
  refine r_1 (v := (.int .i64 _)) rfl rfl ?_
  exact ⟨rfl, H⟩
-- «opened»
theorem opened_calls {A0 : Option Addr} {c0 : Nat} (hR : Rd w0 A0 (b.map bv)) (hc0 : b.length ≤ c0) (hb : b.length ≤ 140737488353000) :
    Calls Try.prog 11 #[.slice A0 b.length c0] w0 fun e w' => ∃ A1 c1 A2 c2, e = .returned (.tuple #[.slice A1 (openL b).1.length c1, .slice A2 (openL b).2.length c2, .bool true]) ∧ (openL b).1.length ≤ c1 ∧ (openL b).2.length ≤ c2 ∧ Heap w0 [rowB w0 A1 c1 (openL b).1, rowT w0 A2 c2 (openL b).2] w' := by
  refine c_enter (xa := [.slice A0 b.length c0]) 47 Try.func11 rfl rfl rfl ?_
  have H := Heap.init w0
  have hfit := openL_fits b
  obtain ⟨hf1, hf2, -⟩ := hfit
  refine wp_seq ?_
  -- R0
  refine c_region ?_
  refine L1 rfl rfl H (y_assign (v := (.slice _ _ _)) rfl rfl) ?_
  refine L1 rfl rfl H (y_assign (v := (.slice _ _ _)) rfl rfl) ?_
  refine L1 rfl rfl H (y_assign (v := (.bool _)) rfl rfl) ?_
  refine e_list ?_; (repeat (first | (with_reducible first | refine e_then ?_ | refine e_block ?_ | refine e_then_ret ?_ | refine e_block_ret ?_ | refine e_then_exit ?_ | refine e_block_here ?_ | refine e_then_panic ?_ | refine e_block_panic ?_) | refine e_block_on rfl ?_))
  refine wp_seq ?_
  -- R1
  refine c_region ?_
  refine L1 rfl rfl H (y_move (v := (.slice _ _ _)) rfl rfl) ?_
  refine Lfn rfl rfl rfl (xa := [.slice A0 b.length c0]) rfl Try.call44 ?_   -- portage/portageref0.CopyBytes
  refine (copyBytes_calls hR (by omega)).mono ?_
  rintro e w ⟨A3, c3, rfl, hc3, H⟩
  refine ⟨.slice A3 b.length c3, rfl, ?_⟩
  refine L1 rfl rfl H (y_assign (v := (.slice _ _ _)) rfl rfl) ?_
  refine e_list ?_; (repeat (first | (with_reducible first | refine e_then ?_ | refine e_block ?_ | refine e_then_ret ?_ | refine e_block_ret ?_ | refine e_then_exit ?_ | refine e_block_here ?_ | refine e_then_panic ?_ | refine e_block_panic ?_) | refine e_block_on rfl ?_))
  refine wp_seq ?_
  -- R2
  refine c_region ?_
  refine L1 rfl rfl H (y_move (v := (.slice _ _ _)) rfl rfl) ?_
  refine Lfn rfl rfl rfl (xa := [.slice A3 b.length c3]) rfl Try.call45 ?_   -- portage/portageref30.Open
  refine (refOpen_calls (rd_row (H.get 0 rfl)) hb).mono ?_
  intro e w' hu
  obtain ⟨A1, c1, A2, c2, rfl, hc1, hc2, K⟩ := unite hu
  clear hu
  replace H := join2 H K
  clear K
  refine ⟨_, rfl, ?_⟩
  refine L1 rfl rfl H (y_move (v := (.tuple _)) rfl rfl) ?_
  refine L1 rfl rfl H (y_extract (v := (.slice _ _ _)) rfl rfl rfl) ?_
  refine L1 rfl rfl H (y_extract (v := (.slice _ _ _)) rfl rfl rfl) ?_
  refine L1 rfl rfl H (y_extract (v := (.int .i64 _)) rfl rfl rfl) ?_
  refine L1 rfl rfl H (y_assign (v := (.slice _ _ _)) rfl rfl) ?_
  refine L1 rfl rfl H (y_assign (v := (.slice _ _ _)) rfl rfl) ?_
  refine L1 rfl rfl H (y_assign (v := (.int .i64 _)) rfl rfl) ?_
  refine e_list ?_; (repeat (first | (with_reducible first | refine e_then ?_ | refine e_block ?_ | refine e_then_ret ?_ | refine e_block_ret ?_ | refine e_then_exit ?_ | refine e_block_here ?_ | refine e_then_panic ?_ | refine e_block_panic ?_) | refine e_block_on rfl ?_))
  refine wp_seq ?_
  -- R3
  refine c_region ?_
  refine L1 rfl rfl H (y_move (v := (.slice _ _ _)) rfl rfl) ?_
  refine Lfn rfl rfl rfl (xa := [.slice A0 b.length c0]) rfl Try.call20 ?_   -- portage/relay.Open
  refine (open_calls (hR.old H) hc0 (by omega)).mono ?_
  intro e w' hu
  obtain ⟨A5, c5, A6, c6, rfl, hc5, hc6, K⟩ := unite hu
  clear hu
  replace H := join2 H K
  clear K
  refine ⟨_, rfl, ?_⟩
  refine L1 rfl rfl H (y_move (v := (.tuple _)) rfl rfl) ?_
  refine L1 rfl rfl H (y_extract (v := (.slice _ _ _)) rfl rfl rfl) ?_
  refine L1 rfl rfl H (y_extract (v := (.slice _ _ _)) rfl rfl rfl) ?_
  refine L1 rfl rfl H (y_extract (v := (.int .i64 _)) rfl rfl rfl) ?_
  refine L1 rfl rfl H (y_assign (v := (.slice _ _ _)) rfl rfl) ?_
  refine L1 rfl rfl H (y_assign (v := (.slice _ _ _)) rfl rfl) ?_
  refine L1 rfl rfl H (y_assign (v := (.int .i64 _)) rfl rfl) ?_
  refine e_list ?_; (repeat (first | (with_reducible first | refine e_then ?_ | refine e_block ?_ | refine e_then_ret ?_ | refine e_block_ret ?_ | refine e_then_exit ?_ | refine e_block_here ?_ | refine e_then_panic ?_ | refine e_block_panic ?_) | refine e_block_on rfl ?_))
  refine wp_seq ?_
  refine wp_seq ?_
  -- R4
  refine c_region ?_
  refine L1 rfl rfl H (y_move (v := (.int .i64 _)) rfl rfl) ?_
  refine Lfn rfl rfl rfl (xa := [(.int .i64 _)]) rfl Try.call21 ?_   -- portage/portagekit.Num
  refine num_calls.mono ?_
  rintro e w' ⟨rfl, K⟩
  replace H := H.app0 K
  clear K
  refine ⟨.int .i64 (openK b : Nat), rfl, ?_⟩
  refine L1 rfl rfl H (y_move (v := (.int .i64 _)) rfl rfl) ?_
  refine L1 rfl rfl H (y_neqF rfl rfl rfl) ?_
  refine L1 rfl rfl H (y_move (v := (.bool _)) rfl rfl) ?_
  refine L1g rfl rfl rfl rfl H (y_move (v := (.slice _ _ _)) rfl rfl) ?_
  refine L1g rfl rfl rfl rfl H (y_move (v := (.slice _ _ _)) rfl rfl) ?_
  refine Lfng rfl rfl rfl rfl rfl (xa := [(.slice _ _ _), (.slice _ _ _)]) rfl Try.call14 ?_   -- portage/portageref0.SameBytes
  refine (sameBytes_calls (l := (openL b).1) (m := (openL b).1) (rd_row (H.get 0 rfl)) (rd_row (H.get 2 rfl)) (Nat.le_trans hf1 (by decide))).mono ?_
  rintro e w' ⟨rfl, K⟩
  replace H := H.app0 K
  clear K
  rw [decide_eq_true rfl]
  refine ⟨.bool true, rfl, ?_⟩
  refine L1g rfl rfl rfl rfl H (y_not rfl rfl) ?_
  refine L1 rfl rfl H (y_pick (v := (.bool _)) rfl rfl rfl) ?_
  refine L1 rfl rfl H (y_move (v := (.bool _)) rfl rfl) ?_
  refine L1g rfl rfl rfl rfl H (y_move (v := (.slice _ _ _)) rfl rfl) ?_
  refine L1g rfl rfl rfl rfl H (y_move (v := (.slice _ _ _)) rfl rfl) ?_
  refine Lfng rfl rfl rfl rfl rfl (xa := [(.slice _ _ _), (.slice _ _ _)]) rfl Try.call15 ?_   -- portage/portageref0.SameTexts
  refine (sameTexts_calls (l := (openL b).2) (m := (openL b).2) (rd_row (H.get 1 rfl)) (rd_row (H.get 3 rfl)) (Nat.le_trans hf2 (by decide))).mono ?_
  rintro e w' ⟨rfl, K⟩
  replace H := H.app0 K
  clear K
  rw [decide_eq_true rfl]
  refine ⟨.bool true, rfl, ?_⟩
  refine L1g rfl rfl rfl rfl H (y_not rfl rfl) ?_
  refine L1 rfl rfl H (y_pick (v := (.bool _)) rfl rfl rfl) ?_
  refine e_list ?_; (repeat (first | (with_reducible first | refine e_then ?_ | refine e_block ?_ | refine e_then_ret ?_ | refine e_block_ret ?_ | refine e_then_exit ?_ | refine e_block_here ?_ | refine e_then_panic ?_ | refine e_block_panic ?_) | refine e_block_on rfl ?_))
  refine c_f rfl ?_   -- if 0
  refine wp_skip ?_; (repeat (first | (with_reducible first | refine e_then ?_ | refine e_block ?_ | refine e_then_ret ?_ | refine e_block_ret ?_ | refine e_then_exit ?_ | refine e_block_here ?_ | refine e_then_panic ?_ | refine e_block_panic ?_) | refine e_block_on rfl ?_))
  refine wp_seq ?_
  -- R6
  refine c_region ?_
  refine L1 rfl rfl H (y_move (v := (.slice _ _ _)) rfl rfl) ?_
  refine L1 rfl rfl H (y_move (v := (.slice _ _ _)) rfl rfl) ?_
  refine L1 rfl rfl H (y_move (v := (.slice _ _ _)) rfl rfl) ?_
  refine L1 rfl rfl H (y_move (v := (.slice _ _ _)) rfl rfl) ?_
  refine Lfn rfl rfl rfl (xa := [(.slice _ _ _), (.slice _ _ _)]) rfl Try.call14 ?_   -- portage/portageref0.SameBytes
  refine (sameBytes_calls (l := b) (m := b) (hR.old H) (rd_row (H.get 4 rfl)) (by omega)).mono ?_
  rintro e w' ⟨rfl, K⟩
  replace H := H.app0 K
  clear K
  rw [decide_eq_true rfl]
  refine ⟨.bool true, rfl, ?_⟩
  refine L1 rfl rfl H (y_assign (v := (.slice _ _ _)) rfl rfl) ?_
  refine L1 rfl rfl H (y_assign (v := (.slice _ _ _)) rfl rfl) ?_
  refine L1 rfl rfl H (y_assign (v := (.bool _)) rfl rfl) ?_
  refine e_list ?_; (repeat (first | (with_reducible first | refine e_then ?_ | refine e_block ?_ | refine e_then_ret ?_ | refine e_block_ret ?_ | refine e_then_exit ?_ | refine e_block_here ?_ | refine e_then_panic ?_ | refine e_block_panic ?_) | refine e_block_on rfl ?_))
  refine wp_ret ?_; (repeat (first | (with_reducible first | refine e_then ?_ | refine e_block ?_ | refine e_then_ret ?_ | refine e_block_ret ?_ | refine e_then_exit ?_ | refine e_block_here ?_ | refine e_then_panic ?_ | refine e_block_panic ?_) | refine e_block_on rfl ?_))
  refine r_3 (v1 := (.slice _ _ _)) (v2 := (.slice _ _ _)) (v3 := (.bool _)) rfl rfl rfl rfl ?_
  exact ⟨A5, c5, A6, c6, rfl, hc5, hc6, H.sub (L' := [rowB w0 A5 c5 (openL b).1, rowT w0 A6 c6 (openL b).2]) (.cons_cons _ (.cons_cons _ (List.nil_sublist _)))⟩
-- »opened
-- «sealedLaw»
theorem relaySealed_calls {A0 : Option Addr} {c0 : Nat} (hR : Rd w0 A0 (b.map bv)) (hb : b.length ≤ 140737488352900) :
    Calls Try.prog 4 #[.slice A0 b.length c0] w0 fun e w' => e = .returned (.bool true) ∧ Heap w0 [] w' := by
  refine c_enter (xa := [.slice A0 b.length c0]) 14 Try.func4 rfl rfl rfl ?_
  have H := Heap.init w0
  refine wp_seq ?_
  -- R0
  refine c_region ?_
  refine L1 rfl rfl H (y_assign (v := (.bool _)) rfl rfl) ?_
  refine e_list ?_; (repeat (first | (with_reducible first | refine e_then ?_ | refine e_block ?_ | refine e_then_ret ?_ | refine e_block_ret ?_ | refine e_then_exit ?_ | refine e_block_here ?_ | refine e_then_panic ?_ | refine e_block_panic ?_) | refine e_block_on rfl ?_))
  refine wp_seq ?_
  -- R1
  refine c_region ?_
  refine L1 rfl rfl H (y_move (v := (.slice _ _ _)) rfl rfl) ?_
  refine Lfn rfl rfl rfl (xa := [.slice A0 b.length c0]) rfl Try.call18 ?_   -- portage/portageref30.Sealed
  refine (sealed_calls hR hb).mono ?_
  rintro e w ⟨A3, c3, rfl, hc3, H⟩
  refine ⟨.slice A3 (sealS b).length c3, rfl, ?_⟩
  refine Lfn rfl rfl rfl (xa := [.slice A3 (sealS b).length c3]) rfl Try.call11 ?_   -- portage/portagelaw30.opened
  refine (opened_calls (rd_row (H.get 0 rfl)) hc3 (by rw [sealS_length]; omega)).mono ?_
  rintro e w' ⟨A1, c1, A2, c2, rfl, hc1, hc2, K⟩
  replace H := H.app K
  clear K
  refine ⟨_, rfl, ?_⟩
  refine L1 rfl rfl H (y_move (v := (.tuple _)) rfl rfl) ?_
  refine L1 rfl rfl H (y_extract (v := (.slice _ _ _)) rfl rfl rfl) ?_
  refine L1 rfl rfl H (y_extract (v := (.slice _ _ _)) rfl rfl rfl) ?_
  refine L1 rfl rfl H (y_extract (v := (.bool _)) rfl rfl rfl) ?_
  refine L1 rfl rfl H (y_assign (v := (.slice _ _ _)) rfl rfl) ?_
  refine L1 rfl rfl H (y_assign (v := (.slice _ _ _)) rfl rfl) ?_
  refine L1 rfl rfl H (y_assign (v := (.bool _)) rfl rfl) ?_
  refine e_list ?_; (repeat (first | (with_reducible first | refine e_then ?_ | refine e_block ?_ | refine e_then_ret ?_ | refine e_block_ret ?_ | refine e_then_exit ?_ | refine e_block_here ?_ | refine e_then_panic ?_ | refine e_block_panic ?_) | refine e_block_on rfl ?_))
  refine wp_seq ?_
  -- R2
  refine c_region ?_
  refine L1 rfl rfl H (y_move (v := (.bool _)) rfl rfl) ?_
  refine L1 rfl rfl H (y_assign (v := (.bool _)) rfl rfl) ?_
  refine e_list ?_; (repeat (first | (with_reducible first | refine e_then ?_ | refine e_block ?_ | refine e_then_ret ?_ | refine e_block_ret ?_ | refine e_then_exit ?_ | refine e_block_here ?_ | refine e_then_panic ?_ | refine e_block_panic ?_) | refine e_block_on rfl ?_))
  refine wp_ret ?_; (repeat (first | (with_reducible first | refine e_then ?_ | refine e_block ?_ | refine e_then_ret ?_ | refine e_block_ret ?_ | refine e_then_exit ?_ | refine e_block_here ?_ | refine e_then_panic ?_ | refine e_block_panic ?_) | refine e_block_on rfl ?_))
  refine r_1 (v := (.bool _)) rfl rfl ?_
  exact ⟨rfl, H.clear⟩
-- »sealedLaw
end
end Go.Ref
