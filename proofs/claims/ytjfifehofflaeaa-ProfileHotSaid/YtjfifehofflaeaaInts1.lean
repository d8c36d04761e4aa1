/-
  Lists of numbers: alike; lying apart.
-/
import Derived.Test.YtjfifehofflaeaaEng15
import Derived.Test.YtjfifehofflaeaaChecked
namespace Go.Pf
open Go.RowKit Go.Eng Go.Proofs
set_option linter.unusedSimpArgs false
set_option linter.unusedVariables false
attribute [local irreducible] wpList wpQuiet wpStill wpMix wpMixE

def iv (n : Int) : Value := .int .i64 n
theorem y_neqF {P : Program} {C : World → Prop} {o : Oper} {ρ : Operand → Value} {t t2 : TypeId} {x y : Operand} {k : IntKind} {a : Int} (ho : o.op = .binOp .neq t x y t2) (hx : ρ x = .int k a) (hy : ρ y = .int k a) : Gives P C o ρ (.bool false) := by
  have := y_neq (P := P) (C := C) ho hx hy
  rw [decide_eq_false (by simp)] at this
  exact this
theorem take_stepI {l m : List Int} {i : Nat} (h1 : i < l.length) (h2 : i < m.length) (ht : l.take i = m.take i) (hg : l.getD i 0 = m.getD i 0) : l.take (i + 1) = m.take (i + 1) := by
  rw [List.getD_eq_getElem?_getD, List.getD_eq_getElem?_getD, List.getElem?_eq_getElem h1, List.getElem?_eq_getElem h2] at hg
  rw [List.take_add_one, List.take_add_one, ht, List.getElem?_eq_getElem h1, List.getElem?_eq_getElem h2]
  simp only [Option.getD_some] at hg
  rw [hg]
theorem rd_getI {w0 : World} {L : List Ent} {a : Addr} {l : List Int} {i : Nat} (hR : Rd w0 (some a) (l.map iv)) (h : i < l.length) : ∀ w, Heap w0 L w → w.cell? (a.add (i * 1)) = some (iv (l.getD i 0)) := fun w H => by
  rw [Nat.mul_one]
  refine cell_old (hR.at_ (j := i) ?_) w H
  rw [List.getElem?_map, List.getD_eq_getElem?_getD, List.getElem?_eq_getElem h]
  rfl
def mkI (k i : Nat) : Value := .int .i64 ((1000003 * (k + 1) + i : Nat) : Int)
section
variable {w0 w : World} {R : List Ent} {l m : List Int}
-- «sameInts»
theorem sameInts_calls {A1 A2 : Option Addr} {c1 c2 : Nat} (hL : Rd w0 A1 (l.map iv)) (hM : Rd w0 A2 (m.map iv)) (hb : l.length ≤ 140737488355328) :
    Calls Try.prog 26 #[.slice A1 l.length c1, .slice A2 m.length c2] w0 fun e w' => e = .returned (.bool (decide (l = m))) ∧ Heap w0 [] w' := by
  refine c_enter (xa := [.slice A1 l.length c1, .slice A2 m.length c2]) 26 Try.func26 rfl rfl rfl ?_
  have H := Heap.init w0
  refine wp_seq ?_
  -- R0
  refine c_region ?_
  refine L1 rfl rfl H (y_assign (v := (.bool _)) rfl rfl) ?_
  refine e_list ?_; (repeat (first | (with_reducible first | refine e_then ?_ | refine e_block ?_ | refine e_then_ret ?_ | refine e_block_ret ?_ | refine e_then_exit ?_ | refine e_block_here ?_ | refine e_then_panic ?_ | refine e_block_panic ?_) | refine e_block_on rfl ?_))
  refine wp_seq ?_
  refine wp_seq ?_
  -- R1
  refine c_region ?_
  refine L1 rfl rfl H (y_move (v := (.slice _ _ _)) rfl rfl) ?_
  refine L1 rfl rfl H (y_len_slice rfl rfl Try.underlying46) ?_
  refine L1 rfl rfl H (y_move (v := (.slice _ _ _)) rfl rfl) ?_
  refine L1 rfl rfl H (y_len_slice rfl rfl Try.underlying46) ?_
  refine L1 rfl rfl H (y_neq rfl rfl rfl) ?_
  refine e_list ?_; (repeat (first | (with_reducible first | refine e_then ?_ | refine e_block ?_ | refine e_then_ret ?_ | refine e_block_ret ?_ | refine e_then_exit ?_ | refine e_block_here ?_ | refine e_then_panic ?_ | refine e_block_panic ?_) | refine e_block_on rfl ?_))
  refine c_if rfl (fun hd => ?_) (fun hd => ?_)   -- if 0
  · skip
    have hne : ¬ l = m := fun h => by subst h; exact hd rfl
    refine wp_seq ?_
    -- R2
    refine c_region ?_
    refine L1 rfl rfl H (y_assign (v := (.bool _)) rfl rfl) ?_
    refine e_list ?_; (repeat (first | (with_reducible first | refine e_then ?_ | refine e_block ?_ | refine e_then_ret ?_ | refine e_block_ret ?_ | refine e_then_exit ?_ | refine e_block_here ?_ | refine e_then_panic ?_ | refine e_block_panic ?_) | refine e_block_on rfl ?_))
    refine wp_ret ?_; (repeat (first | (with_reducible first | refine e_then ?_ | refine e_block ?_ | refine e_then_ret ?_ | refine e_block_ret ?_ | refine e_then_exit ?_ | refine e_block_here ?_ | refine e_then_panic ?_ | refine e_block_panic ?_) | refine e_block_on rfl ?_))
    refine r_1 (v := (.bool _)) rfl rfl ?_
    rw [decide_eq_false hne]
    exact ⟨rfl, H⟩
  · skip
    have hlm : l.length = m.length := by omega
    refine wp_skip ?_; (repeat (first | (with_reducible first | refine e_then ?_ | refine e_block ?_ | refine e_then_ret ?_ | refine e_block_ret ?_ | refine e_then_exit ?_ | refine e_block_here ?_ | refine e_then_panic ?_ | refine e_block_panic ?_) | refine e_block_on rfl ?_))
    refine wp_seq ?_
    refine wp_seq ?_
    -- R3
    refine c_region ?_
    refine L1 rfl rfl H (y_assign (v := (.int .i64 _)) rfl rfl) ?_
    refine e_list ?_; (repeat (first | (with_reducible first | refine e_then ?_ | refine e_block ?_ | refine e_then_ret ?_ | refine e_block_ret ?_ | refine e_then_exit ?_ | refine e_block_here ?_ | refine e_then_panic ?_ | refine e_block_panic ?_) | refine e_block_on rfl ?_))
    refine wp_block ?_   -- block 0
    refine c_loop (ι := Nat) (fun i f w => (∃ gx, f = ov [(0, .slice A1 l.length c1), (1, .slice A2 m.length c2), (5, .int .i64 (i : Nat))] gx) ∧ Heap w0 ([]) w ∧ i ≤ l.length ∧ l.take i = m.take i) (fun i => l.length - i) 0 ?_ ?_
    · exact ⟨ov_ex _ ⟨rfl, rfl, rfl, trivial⟩, H, by omega, rfl⟩
    rintro i f w ⟨⟨gg, rfl⟩, H, hi, ht⟩
    refine wp_seq ?_
    refine wp_seq ?_
    -- R4
    refine c_region ?_
    refine L1 rfl rfl H (y_move (v := (.int .i64 _)) rfl rfl) ?_
    refine L1 rfl rfl H (y_move (v := (.slice _ _ _)) rfl rfl) ?_
    refine L1 rfl rfl H (y_len_slice rfl rfl Try.underlying46) ?_
    refine L1 rfl rfl H (y_lss rfl rfl rfl) ?_
    refine e_list ?_; (repeat (first | (with_reducible first | refine e_then ?_ | refine e_block ?_ | refine e_then_ret ?_ | refine e_block_ret ?_ | refine e_then_exit ?_ | refine e_block_here ?_ | refine e_then_panic ?_ | refine e_block_panic ?_) | refine e_block_on rfl ?_))
    refine c_if rfl (fun hd1 => ?_) (fun hd1 => ?_)   -- if 1
    · skip
      have hil : i < l.length := by omega
      refine wp_skip ?_; (repeat (first | (with_reducible first | refine e_then ?_ | refine e_block ?_ | refine e_then_ret ?_ | refine e_block_ret ?_ | refine e_then_exit ?_ | refine e_block_here ?_ | refine e_then_panic ?_ | refine e_block_panic ?_) | refine e_block_on rfl ?_))
      refine wp_seq ?_
      refine wp_block ?_   -- block 1
      refine wp_seq ?_
      -- R6 draws
      refine c_draw H (by kernel_rfl) (by kernel_rfl) ?_
      refine Q1 rfl rfl (y_move (v := (.slice _ _ _)) rfl rfl) ?_
      refine Q1 rfl rfl (y_move (v := (.int .i64 _)) rfl rfl) ?_
      obtain ⟨a1, rfl, _⟩ := hL.some (j := i) (by rw [List.length_map]; omega)
      obtain ⟨a2, rfl, _⟩ := hM.some (j := i) (by rw [List.length_map]; omega)
      refine Q1 rfl rfl (y_indexSl rfl rfl rfl Try.underlying46 Try.sizeOf3 (by omega) (by omega)) ?_
      refine Q1 rfl rfl (y_load (v := iv (l.getD i 0)) rfl rfl Try.isAgg3 (rd_getI hL hil)) ?_
      refine Q1 rfl rfl (y_move (v := (.slice _ _ _)) rfl rfl) ?_
      refine Q1 rfl rfl (y_move (v := (.int .i64 _)) rfl rfl) ?_
      refine Q1 rfl rfl (y_indexSl rfl rfl rfl Try.underlying46 Try.sizeOf3 (by omega) (by omega)) ?_
      refine Q1 rfl rfl (y_load (v := iv (m.getD i 0)) rfl rfl Try.isAgg3 (rd_getI hM (by omega))) ?_
      refine Q1 rfl rfl (y_neq rfl rfl rfl) ?_
      refine Qend ?_; intro w H; (repeat (first | (with_reducible first | refine e_then ?_ | refine e_block ?_ | refine e_then_ret ?_ | refine e_block_ret ?_ | refine e_then_exit ?_ | refine e_block_here ?_ | refine e_then_panic ?_ | refine e_block_panic ?_) | refine e_block_on rfl ?_))
      refine c_if rfl (fun hd2 => ?_) (fun hd2 => ?_)   -- if 2
      · skip
        have hne : ¬ l = m := fun h => by subst h; exact hd2 rfl
        refine wp_seq ?_
        -- R7
        refine c_region ?_
        refine L1 rfl rfl H (y_assign (v := (.bool _)) rfl rfl) ?_
        refine e_list ?_; (repeat (first | (with_reducible first | refine e_then ?_ | refine e_block ?_ | refine e_then_ret ?_ | refine e_block_ret ?_ | refine e_then_exit ?_ | refine e_block_here ?_ | refine e_then_panic ?_ | refine e_block_panic ?_) | refine e_block_on rfl ?_))
        refine wp_ret ?_; (repeat (first | (with_reducible first | refine e_then ?_ | refine e_block ?_ | refine e_then_ret ?_ | refine e_block_ret ?_ | refine e_then_exit ?_ | refine e_block_here ?_ | refine e_then_panic ?_ | refine e_block_panic ?_) | refine e_block_on rfl ?_))
        refine r_1 (v := (.bool _)) rfl rfl ?_
        rw [decide_eq_false hne]
        exact ⟨rfl, H⟩
      · skip
        have hq : l.getD i 0 = m.getD i 0 := by omega
        refine wp_skip ?_; (repeat (first | (with_reducible first | refine e_then ?_ | refine e_block ?_ | refine e_then_ret ?_ | refine e_block_ret ?_ | refine e_then_exit ?_ | refine e_block_here ?_ | refine e_then_panic ?_ | refine e_block_panic ?_) | refine e_block_on rfl ?_))
        -- R5
        refine c_region ?_
        refine L1 rfl rfl H (y_move (v := (.int .i64 _)) rfl rfl) ?_
        refine L1 rfl rfl H (y_add (r := ((i + 1 : Nat) : Int)) rfl rfl rfl (by rw [wr_i64 (by omega) (by omega)]; omega)) ?_
        refine L1 rfl rfl H (y_assign (v := (.int .i64 _)) rfl rfl) ?_
        refine e_list ?_; (repeat (first | (with_reducible first | refine e_then ?_ | refine e_block ?_ | refine e_then_ret ?_ | refine e_block_ret ?_ | refine e_then_exit ?_ | refine e_block_here ?_ | refine e_then_panic ?_ | refine e_block_panic ?_) | refine e_block_on rfl ?_))
        exact ⟨i + 1, _, rfl, ⟨ov_ex _ ⟨rfl, rfl, rfl, trivial⟩, H, by omega, take_stepI hil (by omega) ht hq⟩, by omega⟩
    · skip
      have hlm2 : l = m := by rw [← List.take_of_length_le (show l.length ≤ i by omega), ht, List.take_of_length_le (by omega)]
      refine wp_exit ?_; (repeat (first | (with_reducible first | refine e_then ?_ | refine e_block ?_ | refine e_then_ret ?_ | refine e_block_ret ?_ | refine e_then_exit ?_ | refine e_block_here ?_ | refine e_then_panic ?_ | refine e_block_panic ?_) | refine e_block_on rfl ?_))
      refine wp_seq ?_
      -- R8
      refine c_region ?_
      refine L1 rfl rfl H (y_assign (v := (.bool _)) rfl rfl) ?_
      refine e_list ?_; (repeat (first | (with_reducible first | refine e_then ?_ | refine e_block ?_ | refine e_then_ret ?_ | refine e_block_ret ?_ | refine e_then_exit ?_ | refine e_block_here ?_ | refine e_then_panic ?_ | refine e_block_panic ?_) | refine e_block_on rfl ?_))
      refine wp_ret ?_; (repeat (first | (with_reducible first | refine e_then ?_ | refine e_block ?_ | refine e_then_ret ?_ | refine e_block_ret ?_ | refine e_then_exit ?_ | refine e_block_here ?_ | refine e_then_panic ?_ | refine e_block_panic ?_) | refine e_block_on rfl ?_))
      refine r_1 (v := (.bool _)) rfl rfl ?_
      rw [decide_eq_true hlm2]
      exact ⟨rfl, H⟩
-- »sameInts
end
section
variable {w0 w : World} {R : List Ent} {gb m : Nat} {A : Nat → Option Addr} {n c : Nat → Nat} {xs0 : Nat → List Value}
-- «apart»
theorem apartInts_calls (hm : m ≤ 1000) (hn : ∀ j, j < m → n j ≤ 17000000000000) (H : Heap w0 (Ent.blk gb 46 ((List.range m).map (hdV A n c)) :: ((List.range m).map (rowF w0 3 A n c xs0) ++ R)) w) :
    Calls Try.prog 28 #[.slice (some ⟨gb, 0, none⟩) m m] w fun e w' => e = .returned (.bool true) ∧ Heap w0 R w' := by
  refine c_enter (xa := [.slice (some ⟨gb, 0, none⟩) m m]) 119 Try.func28 rfl rfl rfl ?_
  have hl : ∀ j, j < m → (xs0 j).length = n j := fun j hj => by have h := (H.get (j + 1) (at1 hj)).1; rw [Nat.mul_one] at h; exact h
  replace H : Heap w0 (Ent.blk gb 46 ((List.range m).map (hdV A n c)) :: ((List.range m).map (rowF w0 3 A n c (cont mkI n xs0 0 0)) ++ R)) w := by rw [cont_zero]; exact H
  refine wp_seq ?_
  -- R0
  refine c_region ?_
  refine L1 rfl rfl H (y_assign (v := (.bool _)) rfl rfl) ?_
  refine e_list ?_; (repeat (first | (with_reducible first | refine e_then ?_ | refine e_block ?_ | refine e_then_ret ?_ | refine e_block_ret ?_ | refine e_then_exit ?_ | refine e_block_here ?_ | refine e_then_panic ?_ | refine e_block_panic ?_) | refine e_block_on rfl ?_))
  refine wp_seq ?_
  refine wp_seq ?_
  -- R1
  refine c_region ?_
  refine L1 rfl rfl H (y_assign (v := (.int .i64 _)) rfl rfl) ?_
  refine e_list ?_; (repeat (first | (with_reducible first | refine e_then ?_ | refine e_block ?_ | refine e_then_ret ?_ | refine e_block_ret ?_ | refine e_then_exit ?_ | refine e_block_here ?_ | refine e_then_panic ?_ | refine e_block_panic ?_) | refine e_block_on rfl ?_))
  refine wp_block ?_   -- block 0
  refine c_loop (ι := Nat) (fun k f w => (∃ gx, f = ov [(0, .slice (some ⟨gb, 0, none⟩) m m), (3, .int .i64 (k : Nat))] gx) ∧ Heap w0 (Ent.blk gb 46 ((List.range m).map (hdV A n c)) :: ((List.range m).map (rowF w0 3 A n c (cont mkI n xs0 k 0)) ++ R)) w ∧ k ≤ m) (fun k => m - k) 0 ?_ ?_
  · exact ⟨ov_ex _ ⟨rfl, rfl, trivial⟩, H, Nat.zero_le _⟩
  rintro k f w ⟨⟨gg, rfl⟩, H, hkle⟩
  refine wp_seq ?_
  refine wp_seq ?_
  -- R2
  refine c_region ?_
  refine L1 rfl rfl H (y_move (v := (.int .i64 _)) rfl rfl) ?_
  refine L1 rfl rfl H (y_move (v := (.slice _ _ _)) rfl rfl) ?_
  refine L1 rfl rfl H (y_len_slice rfl rfl Try.underlying52) ?_
  refine L1 rfl rfl H (y_lss rfl rfl rfl) ?_
  refine e_list ?_; (repeat (first | (with_reducible first | refine e_then ?_ | refine e_block ?_ | refine e_then_ret ?_ | refine e_block_ret ?_ | refine e_then_exit ?_ | refine e_block_here ?_ | refine e_then_panic ?_ | refine e_block_panic ?_) | refine e_block_on rfl ?_))
  refine c_if rfl (fun h0 => ?_) (fun h0 => ?_)   -- if 0
  · skip
    have hkm : k < m := by omega
    have hnk := hn k hkm
    refine wp_skip ?_; (repeat (first | (with_reducible first | refine e_then ?_ | refine e_block ?_ | refine e_then_ret ?_ | refine e_block_ret ?_ | refine e_then_exit ?_ | refine e_block_here ?_ | refine e_then_panic ?_ | refine e_block_panic ?_) | refine e_block_on rfl ?_))
    refine wp_seq ?_
    refine wp_block ?_   -- block 1
    refine wp_seq ?_
    -- R4
    refine c_region ?_
    refine L1 rfl rfl H (y_assign (v := (.int .i64 _)) rfl rfl) ?_
    refine e_list ?_; (repeat (first | (with_reducible first | refine e_then ?_ | refine e_block ?_ | refine e_then_ret ?_ | refine e_block_ret ?_ | refine e_then_exit ?_ | refine e_block_here ?_ | refine e_then_panic ?_ | refine e_block_panic ?_) | refine e_block_on rfl ?_))
    refine wp_block ?_   -- block 2
    refine c_loop (ι := Nat) (fun i f w => (∃ gx, f = ov [(0, .slice (some ⟨gb, 0, none⟩) m m), (3, .int .i64 (k : Nat)), (4, .int .i64 (i : Nat))] gx) ∧ Heap w0 (Ent.blk gb 46 ((List.range m).map (hdV A n c)) :: ((List.range m).map (rowF w0 3 A n c (cont mkI n xs0 k i)) ++ R)) w ∧ i ≤ n k) (fun i => n k - i) 0 ?_ ?_
    · exact ⟨ov_ex _ ⟨rfl, rfl, rfl, trivial⟩, H, Nat.zero_le _⟩
    rintro i f w ⟨⟨gg, rfl⟩, H, hile⟩
    refine wp_seq ?_
    refine wp_seq ?_
    -- R5
    refine c_region ?_
    refine L1 rfl rfl H (y_move (v := (.int .i64 _)) rfl rfl) ?_
    refine L1 rfl rfl H (y_move (v := (.slice _ _ _)) rfl rfl) ?_
    refine L1 rfl rfl H (y_move (v := (.int .i64 _)) rfl rfl) ?_
    refine L1 rfl rfl H (y_indexSl rfl rfl rfl Try.underlying52 Try.sizeOf46 (by omega) (by omega)) ?_
    refine L1 rfl rfl H (y_load (v := hdV A n c k) rfl rfl Try.isAgg46 (cell_blkA (k := 0) rfl (Nat.mul_one _) (hd_get hkm))) ?_
    refine L1 rfl rfl H (y_len_sliceV rfl rfl rfl Try.underlying46) ?_
    refine L1 rfl rfl H (y_lss rfl rfl rfl) ?_
    refine e_list ?_; (repeat (first | (with_reducible first | refine e_then ?_ | refine e_block ?_ | refine e_then_ret ?_ | refine e_block_ret ?_ | refine e_then_exit ?_ | refine e_block_here ?_ | refine e_then_panic ?_ | refine e_block_panic ?_) | refine e_block_on rfl ?_))
    refine c_if rfl (fun h1 => ?_) (fun h1 => ?_)   -- if 1
    · skip
      refine wp_skip ?_; (repeat (first | (with_reducible first | refine e_then ?_ | refine e_block ?_ | refine e_then_ret ?_ | refine e_block_ret ?_ | refine e_then_exit ?_ | refine e_block_here ?_ | refine e_then_panic ?_ | refine e_block_panic ?_) | refine e_block_on rfl ?_))
      refine wp_seq ?_
      refine wp_block ?_   -- block 3
      -- R7
      refine c_region ?_
      refine L1 rfl rfl H (y_move (v := (.slice _ _ _)) rfl rfl) ?_
      refine L1 rfl rfl H (y_move (v := (.int .i64 _)) rfl rfl) ?_
      refine L1 rfl rfl H (y_indexSl rfl rfl rfl Try.underlying52 Try.sizeOf46 (by omega) (by omega)) ?_
      refine L1 rfl rfl H (y_load (v := hdV A n c k) rfl rfl Try.isAgg46 (cell_blkA (k := 0) rfl (Nat.mul_one _) (hd_get hkm))) ?_
      refine L1 rfl rfl H (y_move (v := (.int .i64 _)) rfl rfl) ?_
      refine L1 rfl rfl H (y_move (v := (.int .i64 _)) rfl rfl) ?_
      refine L1 rfl rfl H (y_add (r := ((k + 1 : Nat) : Int)) rfl rfl rfl (by rw [wr_i64 (by omega) (by omega)]; omega)) ?_
      refine L1 rfl rfl H (y_mul (r := ((1000003 * (k + 1) : Nat) : Int)) rfl rfl rfl (by rw [wr_i64 (by omega) (by omega)]; omega)) ?_
      refine L1 rfl rfl H (y_move (v := (.int .i64 _)) rfl rfl) ?_
      refine L1 rfl rfl H (y_add (r := ((1000003 * (k + 1) + i : Nat) : Int)) rfl rfl rfl (by rw [wr_i64 (by omega) (by omega)]; omega)) ?_
      obtain ⟨a, ha, _⟩ := (rd_row (H.get (k + 1) (at1 hkm))).some (j := i) (by rw [(H.get (k + 1) (at1 hkm)).1]; omega)
      refine L1 rfl rfl H (y_indexSlA ha rfl rfl rfl Try.underlying46 Try.sizeOf3 (by omega) (by omega)) ?_
      refine LstoreRow (k + 1) i ha (Nat.mul_one _) rfl rfl rfl rfl rfl H (at1 hkm) rfl Try.sizeOf3 rfl (by omega) ?_; intro w H
      replace H := H.mark hkm (hl k hkm) (by omega)
      refine e_list ?_; (repeat (first | (with_reducible first | refine e_then ?_ | refine e_block ?_ | refine e_then_ret ?_ | refine e_block_ret ?_ | refine e_then_exit ?_ | refine e_block_here ?_ | refine e_then_panic ?_ | refine e_block_panic ?_) | refine e_block_on rfl ?_))
      -- R6
      refine c_region ?_
      refine L1 rfl rfl H (y_move (v := (.int .i64 _)) rfl rfl) ?_
      refine L1 rfl rfl H (y_add (r := ((i + 1 : Nat) : Int)) rfl rfl rfl (by rw [wr_i64 (by omega) (by omega)]; omega)) ?_
      refine L1 rfl rfl H (y_assign (v := (.int .i64 _)) rfl rfl) ?_
      refine e_list ?_; (repeat (first | (with_reducible first | refine e_then ?_ | refine e_block ?_ | refine e_then_ret ?_ | refine e_block_ret ?_ | refine e_then_exit ?_ | refine e_block_here ?_ | refine e_then_panic ?_ | refine e_block_panic ?_) | refine e_block_on rfl ?_))
      exact ⟨i + 1, _, rfl, ⟨ov_ex _ ⟨rfl, rfl, rfl, trivial⟩, H, by omega⟩, by omega⟩
    · skip
      have hin : i = n k := by omega
      subst hin
      rw [cont_next (hl k hkm)] at H
      refine wp_exit ?_; (repeat (first | (with_reducible first | refine e_then ?_ | refine e_block ?_ | refine e_then_ret ?_ | refine e_block_ret ?_ | refine e_then_exit ?_ | refine e_block_here ?_ | refine e_then_panic ?_ | refine e_block_panic ?_) | refine e_block_on rfl ?_))
      -- R3
      refine c_region ?_
      refine L1 rfl rfl H (y_move (v := (.int .i64 _)) rfl rfl) ?_
      refine L1 rfl rfl H (y_add (r := ((k + 1 : Nat) : Int)) rfl rfl rfl (by rw [wr_i64 (by omega) (by omega)]; omega)) ?_
      refine L1 rfl rfl H (y_assign (v := (.int .i64 _)) rfl rfl) ?_
      refine e_list ?_; (repeat (first | (with_reducible first | refine e_then ?_ | refine e_block ?_ | refine e_then_ret ?_ | refine e_block_ret ?_ | refine e_then_exit ?_ | refine e_block_here ?_ | refine e_then_panic ?_ | refine e_block_panic ?_) | refine e_block_on rfl ?_))
      exact ⟨k + 1, _, rfl, ⟨ov_ex _ ⟨rfl, rfl, trivial⟩, H, by omega⟩, by omega⟩
  · skip
    have hkm : m = k := by omega
    subst hkm
    rw [map_range_congr (F := rowF w0 3 A n c (cont mkI n xs0 m 0)) (G := rowF w0 3 A n c (fun j => mks mkI j (n j))) (fun j hj => by unfold rowF; rw [cont_all hj])] at H
    replace H := (rows_to_row2 H).row0 46 1
    refine wp_exit ?_; (repeat (first | (with_reducible first | refine e_then ?_ | refine e_block ?_ | refine e_then_ret ?_ | refine e_block_ret ?_ | refine e_then_exit ?_ | refine e_block_here ?_ | refine e_then_panic ?_ | refine e_block_panic ?_) | refine e_block_on rfl ?_))
    refine wp_seq ?_
    -- R8
    refine c_region ?_
    refine L1 rfl rfl H (y_assign (v := (.slice _ _ _)) rfl rfl) ?_
    refine e_list ?_; (repeat (first | (with_reducible first | refine e_then ?_ | refine e_block ?_ | refine e_then_ret ?_ | refine e_block_ret ?_ | refine e_then_exit ?_ | refine e_block_here ?_ | refine e_then_panic ?_ | refine e_block_panic ?_) | refine e_block_on rfl ?_))
    refine wp_seq ?_
    refine wp_seq ?_
    -- R9
    refine c_region ?_
    refine L1 rfl rfl H (y_assign (v := (.int .i64 _)) rfl rfl) ?_
    refine e_list ?_; (repeat (first | (with_reducible first | refine e_then ?_ | refine e_block ?_ | refine e_then_ret ?_ | refine e_block_ret ?_ | refine e_then_exit ?_ | refine e_block_here ?_ | refine e_then_panic ?_ | refine e_block_panic ?_) | refine e_block_on rfl ?_))
    refine wp_block ?_   -- block 4
    refine c_loop (ι := Nat × (Nat → Value) × Option Addr × Nat) (fun (k, g, A5, c5) f w => (∃ gx, f = ov [(0, .slice (some ⟨gb, 0, none⟩) m m), (5, .slice A5 k c5), (6, .int .i64 (k : Nat))] gx) ∧ Heap w0 (Ent.row w0.heap.size 46 1 (.slice A5 k c5) k ((List.range k).map g) :: Ent.blk gb 46 ((List.range m).map (hdV A n c)) :: ((List.range m).map (row2F w0 3 A n mkI g (cntF n k 0)) ++ R)) w ∧ k ≤ m ∧ ∀ j, k ≤ j → g j = hdV A n c j) (fun (k, g, A5, c5) => m - k) (0, hdV A n c, none, 0) ?_ ?_
    · exact ⟨ov_ex _ ⟨rfl, rfl, rfl, trivial⟩, (by show Heap w0 (_ :: _ :: ((List.range m).map (row2F w0 _ A n _ (hdV A n c) (cntF n 0 0)) ++ R)) _; rw [cntF_zero]; exact H), Nat.zero_le _, fun _ _ => rfl⟩
    rintro ⟨k, g, A5, c5⟩ f w ⟨⟨gg, rfl⟩, H, hkle, hgj⟩
    refine wp_seq ?_
    refine wp_seq ?_
    -- R10
    refine c_region ?_
    refine L1 rfl rfl H (y_move (v := (.int .i64 _)) rfl rfl) ?_
    refine L1 rfl rfl H (y_move (v := (.slice _ _ _)) rfl rfl) ?_
    refine L1 rfl rfl H (y_len_slice rfl rfl Try.underlying52) ?_
    refine L1 rfl rfl H (y_lss rfl rfl rfl) ?_
    refine e_list ?_; (repeat (first | (with_reducible first | refine e_then ?_ | refine e_block ?_ | refine e_then_ret ?_ | refine e_block_ret ?_ | refine e_then_exit ?_ | refine e_block_here ?_ | refine e_then_panic ?_ | refine e_block_panic ?_) | refine e_block_on rfl ?_))
    refine c_if rfl (fun h2 => ?_) (fun h2 => ?_)   -- if 2
    · skip
      have hkm : k < m := by omega
      have hnk := hn k hkm
      refine wp_skip ?_; (repeat (first | (with_reducible first | refine e_then ?_ | refine e_block ?_ | refine e_then_ret ?_ | refine e_block_ret ?_ | refine e_then_exit ?_ | refine e_block_here ?_ | refine e_then_panic ?_ | refine e_block_panic ?_) | refine e_block_on rfl ?_))
      refine wp_seq ?_
      refine wp_block ?_   -- block 5
      refine wp_seq ?_
      -- R12
      refine c_region ?_
      refine L1 rfl rfl H (y_move (v := (.slice _ _ _)) rfl rfl) ?_
      refine L1 rfl rfl H (y_move (v := (.int .i64 _)) rfl rfl) ?_
      refine L1 rfl rfl H (y_indexSl rfl rfl rfl Try.underlying52 Try.sizeOf46 (by omega) (by omega)) ?_
      refine L1 rfl rfl H (y_load (v := hdV A n c k) rfl rfl Try.isAgg46 (cell_blkA (k := 1) rfl (Nat.mul_one _) (hd_get hkm))) ?_
      refine L1 rfl rfl H (y_assign (v := (.slice _ _ _)) rfl rfl) ?_
      refine e_list ?_; (repeat (first | (with_reducible first | refine e_then ?_ | refine e_block ?_ | refine e_then_ret ?_ | refine e_block_ret ?_ | refine e_then_exit ?_ | refine e_block_here ?_ | refine e_then_panic ?_ | refine e_block_panic ?_) | refine e_block_on rfl ?_))
      refine wp_seq ?_
      refine wp_seq ?_
      -- R13
      refine c_region ?_
      refine L1 rfl rfl H (y_assign (v := (.int .i64 _)) rfl rfl) ?_
      refine e_list ?_; (repeat (first | (with_reducible first | refine e_then ?_ | refine e_block ?_ | refine e_then_ret ?_ | refine e_block_ret ?_ | refine e_then_exit ?_ | refine e_block_here ?_ | refine e_then_panic ?_ | refine e_block_panic ?_) | refine e_block_on rfl ?_))
      refine wp_block ?_   -- block 6
      refine c_loop (ι := Nat × Option Addr × Nat) (fun (i, A1, c1) f w => (∃ gx, f = ov [(0, .slice (some ⟨gb, 0, none⟩) m m), (5, .slice A5 k c5), (6, .int .i64 (k : Nat)), (7, .slice A1 (n k + i) c1), (8, .int .i64 (i : Nat))] gx) ∧ Heap w0 (Ent.row w0.heap.size 46 1 (.slice A5 k c5) k ((List.range k).map g) :: Ent.blk gb 46 ((List.range m).map (hdV A n c)) :: ((List.range m).map (row2F w0 3 A n mkI (up g k (.slice A1 (n k + i) c1)) (cntF n k i)) ++ R)) w ∧ i ≤ 64) (fun (i, A1, c1) => 64 - i) (0, A k, c k) ?_ ?_
      · exact ⟨ov_ex _ ⟨rfl, rfl, rfl, rfl, rfl, trivial⟩, (by show Heap w0 (_ :: _ :: ((List.range m).map (row2F w0 _ A n _ (up g k (.slice (A k) (n k + 0) (c k))) (cntF n k 0)) ++ R)) _; rw [← up_self g k (.slice (A k) (n k + 0) (c k)) (hgj k (Nat.le_refl _))]; exact H), by omega⟩
      rintro ⟨i, A1, c1⟩ f w ⟨⟨gg, rfl⟩, H, hi64⟩
      refine wp_seq ?_
      refine wp_seq ?_
      -- R14
      refine c_region ?_
      refine L1 rfl rfl H (y_move (v := (.int .i64 _)) rfl rfl) ?_
      refine L1 rfl rfl H (y_lss rfl rfl rfl) ?_
      refine e_list ?_; (repeat (first | (with_reducible first | refine e_then ?_ | refine e_block ?_ | refine e_then_ret ?_ | refine e_block_ret ?_ | refine e_then_exit ?_ | refine e_block_here ?_ | refine e_then_panic ?_ | refine e_block_panic ?_) | refine e_block_on rfl ?_))
      refine c_if rfl (fun h3 => ?_) (fun h3 => ?_)   -- if 3
      · skip
        refine wp_skip ?_; (repeat (first | (with_reducible first | refine e_then ?_ | refine e_block ?_ | refine e_then_ret ?_ | refine e_block_ret ?_ | refine e_then_exit ?_ | refine e_block_here ?_ | refine e_then_panic ?_ | refine e_block_panic ?_) | refine e_block_on rfl ?_))
        refine wp_seq ?_
        refine wp_block ?_   -- block 7
        -- R16
        refine c_region ?_
        refine L1 rfl rfl H (y_move (v := (.slice _ _ _)) rfl rfl) ?_
        refine L1 rfl rfl H (y_move (v := (.int .i64 _)) rfl rfl) ?_
        refine L1 rfl rfl H (y_add (r := ((k + 1 : Nat) : Int)) rfl rfl rfl (by rw [wr_i64 (by omega) (by omega)]; omega)) ?_
        refine L1 rfl rfl H (y_mul (r := ((1000003 * (k + 1) : Nat) : Int)) rfl rfl rfl (by rw [wr_i64 (by omega) (by omega)]; omega)) ?_
        refine L1 rfl rfl H (y_move (v := (.slice _ _ _)) rfl rfl) ?_
        refine L1 rfl rfl H (y_move (v := (.int .i64 _)) rfl rfl) ?_
        refine L1 rfl rfl H (y_indexSl rfl rfl rfl Try.underlying52 Try.sizeOf46 (by omega) (by omega)) ?_
        refine L1 rfl rfl H (y_load (v := hdV A n c k) rfl rfl Try.isAgg46 (cell_blkA (k := 1) rfl (Nat.mul_one _) (hd_get hkm))) ?_
        refine L1 rfl rfl H (y_len_sliceV rfl rfl rfl Try.underlying46) ?_
        refine L1 rfl rfl H (y_add (r := ((1000003 * (k + 1) + n k : Nat) : Int)) rfl rfl rfl (by rw [wr_i64 (by omega) (by omega)]; omega)) ?_
        refine L1 rfl rfl H (y_move (v := (.int .i64 _)) rfl rfl) ?_
        refine L1 rfl rfl H (y_add (r := ((1000003 * (k + 1) + (n k + i) : Nat) : Int)) rfl rfl rfl (by rw [wr_i64 (by omega) (by omega)]; omega)) ?_
        refine LbuildSlice1 (v := (.int .i64 _)) rfl rfl rfl rfl H Try.underlying46 Try.sizeOf3 Try.zeroValue3 rfl rfl ?_; intro b64 w H
        refine LappKeep (k + 2) rfl rfl rfl rfl rfl H ((at2 hkm).trans (congrArg some row2F_at)) Try.underlying46 Try.underlying46 (i := Try.t3) (by kernel_rfl) (z := .int .i64 0) rfl rfl rfl rfl (by have := hn k hkm; show (_ + 1) * 8 ≤ _; omega) (by have := hn k hkm; simp only [maxLen]; omega) ?_
        intro A1 c1 w hc1 H
        replace H := H.grow hkm
        refine L1 rfl rfl H (y_assign (v := (.slice _ _ _)) rfl rfl) ?_
        refine e_list ?_; (repeat (first | (with_reducible first | refine e_then ?_ | refine e_block ?_ | refine e_then_ret ?_ | refine e_block_ret ?_ | refine e_then_exit ?_ | refine e_block_here ?_ | refine e_then_panic ?_ | refine e_block_panic ?_) | refine e_block_on rfl ?_))
        -- R15
        refine c_region ?_
        refine L1 rfl rfl H (y_move (v := (.int .i64 _)) rfl rfl) ?_
        refine L1 rfl rfl H (y_add (r := ((i + 1 : Nat) : Int)) rfl rfl rfl (by rw [wr_i64 (by omega) (by omega)]; omega)) ?_
        refine L1 rfl rfl H (y_assign (v := (.int .i64 _)) rfl rfl) ?_
        refine e_list ?_; (repeat (first | (with_reducible first | refine e_then ?_ | refine e_block ?_ | refine e_then_ret ?_ | refine e_block_ret ?_ | refine e_then_exit ?_ | refine e_block_here ?_ | refine e_then_panic ?_ | refine e_block_panic ?_) | refine e_block_on rfl ?_))
        exact ⟨(i + 1, A1, c1), _, rfl, ⟨ov_ex _ ⟨rfl, rfl, rfl, rfl, rfl, trivial⟩, H, by omega⟩, by show 64 - (i + 1) < 64 - i; omega⟩
      · skip
        have hi64 : i = 64 := by omega
        subst hi64
        refine wp_exit ?_; (repeat (first | (with_reducible first | refine e_then ?_ | refine e_block ?_ | refine e_then_ret ?_ | refine e_block_ret ?_ | refine e_then_exit ?_ | refine e_block_here ?_ | refine e_then_panic ?_ | refine e_block_panic ?_) | refine e_block_on rfl ?_))
        -- R17
        refine c_region ?_
        refine L1 rfl rfl H (y_move (v := (.slice _ _ _)) rfl rfl) ?_
        refine L1 rfl rfl H (y_move (v := (.slice _ _ _)) rfl rfl) ?_
        refine LbuildSlice1 (v := (.slice _ _ _)) rfl rfl rfl rfl H Try.underlying52 Try.sizeOf46 Try.zeroValue46 rfl rfl ?_; intro b68 w H
        refine Lapp1 0 rfl rfl rfl rfl rfl H rfl Try.underlying52 Try.underlying52 (i := Try.t46) (by kernel_rfl) (z := .slice none 0 0) rfl rfl rfl rfl (by show (_ + 1) * 24 ≤ _; omega) (by simp only [maxLen]; omega) ?_
        intro A5 c5 w hc5 H
        replace H : Heap w0 (Ent.row w0.heap.size 46 1 (.slice A5 (k + 1) c5) (k + 1) ((List.range k).map g ++ [.slice A1 (n k + 64) c1]) :: Ent.blk gb 46 ((List.range m).map (hdV A n c)) :: ((List.range m).map (row2F w0 3 A n mkI (up g k (.slice A1 (n k + 64) c1)) (cntF n k 64)) ++ R)) w := H
        rw [← up_range, cntF_next] at H
        refine L1 rfl rfl H (y_assign (v := (.slice _ _ _)) rfl rfl) ?_
        refine e_list ?_; (repeat (first | (with_reducible first | refine e_then ?_ | refine e_block ?_ | refine e_then_ret ?_ | refine e_block_ret ?_ | refine e_then_exit ?_ | refine e_block_here ?_ | refine e_then_panic ?_ | refine e_block_panic ?_) | refine e_block_on rfl ?_))
        -- R11
        refine c_region ?_
        refine L1 rfl rfl H (y_move (v := (.int .i64 _)) rfl rfl) ?_
        refine L1 rfl rfl H (y_add (r := ((k + 1 : Nat) : Int)) rfl rfl rfl (by rw [wr_i64 (by omega) (by omega)]; omega)) ?_
        refine L1 rfl rfl H (y_assign (v := (.int .i64 _)) rfl rfl) ?_
        refine e_list ?_; (repeat (first | (with_reducible first | refine e_then ?_ | refine e_block ?_ | refine e_then_ret ?_ | refine e_block_ret ?_ | refine e_then_exit ?_ | refine e_block_here ?_ | refine e_then_panic ?_ | refine e_block_panic ?_) | refine e_block_on rfl ?_))
        exact ⟨(k + 1, up g k (.slice A1 (n k + 64) c1), A5, c5), _, rfl, ⟨ov_ex _ ⟨rfl, rfl, rfl, trivial⟩, H, by omega, fun j hj => by rw [up_ne (by omega)]; exact hgj j (by omega)⟩, by show m - (k + 1) < m - k; omega⟩
    · skip
      have hkm : m = k := by omega
      subst hkm
      refine wp_exit ?_; (repeat (first | (with_reducible first | refine e_then ?_ | refine e_block ?_ | refine e_then_ret ?_ | refine e_block_ret ?_ | refine e_then_exit ?_ | refine e_block_here ?_ | refine e_then_panic ?_ | refine e_block_panic ?_) | refine e_block_on rfl ?_))
      refine wp_seq ?_
      refine wp_seq ?_
      -- R18
      refine c_region ?_
      refine L1 rfl rfl H (y_assign (v := (.int .i64 _)) rfl rfl) ?_
      refine e_list ?_; (repeat (first | (with_reducible first | refine e_then ?_ | refine e_block ?_ | refine e_then_ret ?_ | refine e_block_ret ?_ | refine e_then_exit ?_ | refine e_block_here ?_ | refine e_then_panic ?_ | refine e_block_panic ?_) | refine e_block_on rfl ?_))
      refine wp_block ?_   -- block 8
      refine c_loop (ι := Nat) (fun k f w => (∃ gx, f = ov [(0, .slice (some ⟨gb, 0, none⟩) m m), (5, .slice A5 m c5), (9, .int .i64 (k : Nat))] gx) ∧ Heap w0 (Ent.row w0.heap.size 46 1 (.slice A5 m c5) m ((List.range m).map g) :: Ent.blk gb 46 ((List.range m).map (hdV A n c)) :: ((List.range m).map (row2F w0 3 A n mkI g (cntF n m 0)) ++ R)) w ∧ k ≤ m) (fun k => m - k) 0 ?_ ?_
      · exact ⟨ov_ex _ ⟨rfl, rfl, rfl, trivial⟩, H, Nat.zero_le _⟩
      rintro k f w ⟨⟨gg, rfl⟩, H, hkle⟩
      refine wp_seq ?_
      refine wp_seq ?_
      -- R19
      refine c_region ?_
      refine L1 rfl rfl H (y_move (v := (.int .i64 _)) rfl rfl) ?_
      refine L1 rfl rfl H (y_move (v := (.slice _ _ _)) rfl rfl) ?_
      refine L1 rfl rfl H (y_len_slice rfl rfl Try.underlying52) ?_
      refine L1 rfl rfl H (y_lss rfl rfl rfl) ?_
      refine e_list ?_; (repeat (first | (with_reducible first | refine e_then ?_ | refine e_block ?_ | refine e_then_ret ?_ | refine e_block_ret ?_ | refine e_then_exit ?_ | refine e_block_here ?_ | refine e_then_panic ?_ | refine e_block_panic ?_) | refine e_block_on rfl ?_))
      refine c_if rfl (fun h4 => ?_) (fun h4 => ?_)   -- if 4
      · skip
        have hkm : k < m := by omega
        have hnk := hn k hkm
        obtain ⟨A1, c1, hgk⟩ := grown_form hkm H
        refine wp_skip ?_; (repeat (first | (with_reducible first | refine e_then ?_ | refine e_block ?_ | refine e_then_ret ?_ | refine e_block_ret ?_ | refine e_then_exit ?_ | refine e_block_here ?_ | refine e_then_panic ?_ | refine e_block_panic ?_) | refine e_block_on rfl ?_))
        refine wp_seq ?_
        refine wp_block ?_   -- block 9
        refine wp_seq ?_
        -- R21
        refine c_region ?_
        refine L1 rfl rfl H (y_assign (v := (.int .i64 _)) rfl rfl) ?_
        refine e_list ?_; (repeat (first | (with_reducible first | refine e_then ?_ | refine e_block ?_ | refine e_then_ret ?_ | refine e_block_ret ?_ | refine e_then_exit ?_ | refine e_block_here ?_ | refine e_then_panic ?_ | refine e_block_panic ?_) | refine e_block_on rfl ?_))
        refine wp_block ?_   -- block 10
        refine c_loop (ι := Nat) (fun i f w => (∃ gx, f = ov [(0, .slice (some ⟨gb, 0, none⟩) m m), (5, .slice A5 m c5), (9, .int .i64 (k : Nat)), (10, .int .i64 (i : Nat))] gx) ∧ Heap w0 (Ent.row w0.heap.size 46 1 (.slice A5 m c5) m ((List.range m).map g) :: Ent.blk gb 46 ((List.range m).map (hdV A n c)) :: ((List.range m).map (row2F w0 3 A n mkI g (cntF n m 0)) ++ R)) w ∧ i ≤ n k + 64) (fun i => n k + 64 - i) 0 ?_ ?_
        · exact ⟨ov_ex _ ⟨rfl, rfl, rfl, rfl, trivial⟩, H, Nat.zero_le _⟩
        rintro i f w ⟨⟨gg, rfl⟩, H, hile⟩
        refine wp_seq ?_
        refine wp_seq ?_
        -- R22
        refine c_region ?_
        refine L1 rfl rfl H (y_move (v := (.int .i64 _)) rfl rfl) ?_
        refine L1 rfl rfl H (y_move (v := (.slice _ _ _)) rfl rfl) ?_
        refine L1 rfl rfl H (y_move (v := (.int .i64 _)) rfl rfl) ?_
        obtain ⟨a5, hA5, _⟩ := (rd_row (H.get 0 rfl)).some (j := k) (by simpa using hkm)
        refine L1 rfl rfl H (y_indexSlA hA5 rfl rfl rfl Try.underlying52 Try.sizeOf46 (by omega) (by omega)) ?_
        refine L1 rfl rfl H (y_load (v := g k) rfl rfl Try.isAgg46 (cell_rowA (k := 0) rfl hA5 (Nat.mul_one _) (hd_get hkm))) ?_
        refine L1 rfl rfl H (y_len_sliceV rfl rfl hgk Try.underlying46) ?_
        refine L1 rfl rfl H (y_lss rfl rfl rfl) ?_
        refine e_list ?_; (repeat (first | (with_reducible first | refine e_then ?_ | refine e_block ?_ | refine e_then_ret ?_ | refine e_block_ret ?_ | refine e_then_exit ?_ | refine e_block_here ?_ | refine e_then_panic ?_ | refine e_block_panic ?_) | refine e_block_on rfl ?_))
        refine c_if rfl (fun h5 => ?_) (fun h5 => ?_)   -- if 5
        · skip
          refine wp_skip ?_; (repeat (first | (with_reducible first | refine e_then ?_ | refine e_block ?_ | refine e_then_ret ?_ | refine e_block_ret ?_ | refine e_then_exit ?_ | refine e_block_here ?_ | refine e_then_panic ?_ | refine e_block_panic ?_) | refine e_block_on rfl ?_))
          refine wp_seq ?_
          refine wp_block ?_   -- block 11
          refine wp_seq ?_
          -- R24
          refine c_region ?_
          refine L1 rfl rfl H (y_move (v := (.int .i64 _)) rfl rfl) ?_
          refine L1 rfl rfl H (y_add (r := ((k + 1 : Nat) : Int)) rfl rfl rfl (by rw [wr_i64 (by omega) (by omega)]; omega)) ?_
          refine L1 rfl rfl H (y_mul (r := ((1000003 * (k + 1) : Nat) : Int)) rfl rfl rfl (by rw [wr_i64 (by omega) (by omega)]; omega)) ?_
          refine L1 rfl rfl H (y_move (v := (.int .i64 _)) rfl rfl) ?_
          refine L1 rfl rfl H (y_add (r := ((1000003 * (k + 1) + i : Nat) : Int)) rfl rfl rfl (by rw [wr_i64 (by omega) (by omega)]; omega)) ?_
          refine L1 rfl rfl H (y_assign (v := (.int .i64 _)) rfl rfl) ?_
          refine e_list ?_; (repeat (first | (with_reducible first | refine e_then ?_ | refine e_block ?_ | refine e_then_ret ?_ | refine e_block_ret ?_ | refine e_then_exit ?_ | refine e_block_here ?_ | refine e_then_panic ?_ | refine e_block_panic ?_) | refine e_block_on rfl ?_))
          refine c_cutR [0, 5, 9, 10] 118 (False) (Ent.row w0.heap.size 46 1 (.slice A5 m c5) m ((List.range m).map g) :: Ent.blk gb 46 ((List.range m).map (hdV A n c)) :: ((List.range m).map (row2F w0 3 A n mkI g (cntF n m 0)) ++ R)) H ?_ ?_
          · skip
            -- R25
            refine c_region ?_
            refine L1 rfl rfl H (y_move (v := (.slice _ _ _)) rfl rfl) ?_
            refine L1 rfl rfl H (y_move (v := (.int .i64 _)) rfl rfl) ?_
            refine L1 rfl rfl H (y_indexSlA hA5 rfl rfl rfl Try.underlying52 Try.sizeOf46 (by omega) (by omega)) ?_
            refine L1 rfl rfl H (y_load (v := g k) rfl rfl Try.isAgg46 (cell_rowA (k := 0) rfl hA5 (Nat.mul_one _) (hd_get hkm))) ?_
            refine L1 rfl rfl H (y_move (v := (.int .i64 _)) rfl rfl) ?_
            obtain ⟨a1, rfl⟩ : ∃ a1, A1 = some a1 := by
              have h := (H.get (k + 2) (at2 hkm)).1
              rw [cntF_all hkm] at h
              have hl1 := h.1
              rw [hgk] at h
              obtain ⟨a1, h1, _⟩ := (rd_row h).some (j := i) (by omega)
              exact ⟨a1, h1⟩
            refine L1 rfl rfl H (y_indexSlA (A := some a1) rfl rfl hgk rfl Try.underlying46 Try.sizeOf3 (by omega) (by omega)) ?_
            refine L1 rfl rfl H (y_load (v := mkI k i) rfl rfl Try.isAgg3 (cell_row2 (k := k + 2) (at2 hkm) hgk (Nat.mul_one _) (by rw [cntF_all hkm]; exact mks_get (by omega)))) ?_
            refine L1 rfl rfl H (y_move (v := (.int .i64 _)) rfl rfl) ?_
            refine L1 rfl rfl H (y_neqF rfl rfl rfl) ?_
            refine L1 rfl rfl H (y_move (v := (.bool _)) rfl rfl) ?_
            refine L1g rfl rfl rfl rfl H (y_move (v := (.int .i64 _)) rfl rfl) ?_
            refine L1g rfl rfl rfl rfl H (y_move (v := (.slice _ _ _)) rfl rfl) ?_
            refine L1g rfl rfl rfl rfl H (y_move (v := (.int .i64 _)) rfl rfl) ?_
            refine L1g rfl rfl rfl rfl H (y_indexSl rfl rfl rfl Try.underlying52 Try.sizeOf46 (by omega) (by omega)) ?_
            refine L1g rfl rfl rfl rfl H (y_load (v := hdV A n c k) rfl rfl Try.isAgg46 (cell_blkA (k := 1) rfl (Nat.mul_one _) (hd_get hkm))) ?_
            refine L1g rfl rfl rfl rfl H (y_len_sliceV rfl rfl rfl Try.underlying46) ?_
            refine L1g rfl rfl rfl rfl H (y_lss rfl rfl rfl) ?_
            refine L_splitg rfl rfl rfl rfl rfl rfl (fun hg25_17 => ?_) (fun hg25_17 => ?_)
            · skip
              refine L1g rfl rfl rfl rfl H (y_move (v := (.slice _ _ _)) rfl rfl) ?_
              refine L1g rfl rfl rfl rfl H (y_move (v := (.int .i64 _)) rfl rfl) ?_
              refine L1g rfl rfl rfl rfl H (y_indexSl rfl rfl rfl Try.underlying52 Try.sizeOf46 (by omega) (by omega)) ?_
              refine L1g rfl rfl rfl rfl H (y_load (v := hdV A n c k) rfl rfl Try.isAgg46 (cell_blkA (k := 1) rfl (Nat.mul_one _) (hd_get hkm))) ?_
              refine L1g rfl rfl rfl rfl H (y_move (v := (.int .i64 _)) rfl rfl) ?_
              have hin : i < n k := by omega
              obtain ⟨a, ha, _⟩ := (H.get (k + 2) (at2 hkm)).2.1.some (j := i) (by rw [mks_length]; exact hin)
              refine L1g rfl rfl rfl rfl H (y_indexSlA ha rfl rfl rfl Try.underlying46 Try.sizeOf3 (by omega) (by omega)) ?_
              refine L1g rfl rfl rfl rfl H (y_load (v := mkI k i) rfl rfl Try.isAgg3 (cell_row2o (k := k + 2) (at2 hkm) ha (Nat.mul_one _) (mks_get hin))) ?_
              refine L1g rfl rfl rfl rfl H (y_move (v := (.int .i64 _)) rfl rfl) ?_
              refine L1g rfl rfl rfl rfl H (y_neqF rfl rfl rfl) ?_
              refine L1g rfl rfl rfl rfl H (y_pick (v := (.bool _)) rfl rfl rfl) ?_
              refine L1 rfl rfl H (y_pick (v := (.bool _)) rfl rfl rfl) ?_
              refine e_list ?_; (repeat (first | (with_reducible first | refine e_then ?_ | refine e_block ?_ | refine e_then_ret ?_ | refine e_block_ret ?_ | refine e_then_exit ?_ | refine e_block_here ?_ | refine e_then_panic ?_ | refine e_block_panic ?_) | refine e_block_on rfl ?_))
              refine ⟨_, rfl, rfl, ⟨rfl, rfl, rfl, rfl, trivial⟩, H⟩
            · skip
              refine Lno rfl rfl rfl rfl rfl ?_
              refine Lno rfl rfl rfl rfl rfl ?_
              refine Lno rfl rfl rfl rfl rfl ?_
              refine Lno rfl rfl rfl rfl rfl ?_
              refine Lno rfl rfl rfl rfl rfl ?_
              refine Lno rfl rfl rfl rfl rfl ?_
              refine Lno rfl rfl rfl rfl rfl ?_
              refine Lno rfl rfl rfl rfl rfl ?_
              refine Lno rfl rfl rfl rfl rfl ?_
              refine L1g rfl rfl rfl rfl H (y_pick (v := (.bool _)) rfl rfl rfl) ?_
              refine L1 rfl rfl H (y_pick (v := (.bool _)) rfl rfl rfl) ?_
              refine e_list ?_; (repeat (first | (with_reducible first | refine e_then ?_ | refine e_block ?_ | refine e_then_ret ?_ | refine e_block_ret ?_ | refine e_then_exit ?_ | refine e_block_here ?_ | refine e_then_panic ?_ | refine e_block_panic ?_) | refine e_block_on rfl ?_))
              refine ⟨_, rfl, rfl, ⟨rfl, rfl, rfl, rfl, trivial⟩, H⟩
          intro g25 w H
          refine c_f rfl ?_   -- if 6
          refine wp_skip ?_; (repeat (first | (with_reducible first | refine e_then ?_ | refine e_block ?_ | refine e_then_ret ?_ | refine e_block_ret ?_ | refine e_then_exit ?_ | refine e_block_here ?_ | refine e_then_panic ?_ | refine e_block_panic ?_) | refine e_block_on rfl ?_))
          -- R23
          refine c_region ?_
          refine L1 rfl rfl H (y_move (v := (.int .i64 _)) rfl rfl) ?_
          refine L1 rfl rfl H (y_add (r := ((i + 1 : Nat) : Int)) rfl rfl rfl (by rw [wr_i64 (by omega) (by omega)]; omega)) ?_
          refine L1 rfl rfl H (y_assign (v := (.int .i64 _)) rfl rfl) ?_
          refine e_list ?_; (repeat (first | (with_reducible first | refine e_then ?_ | refine e_block ?_ | refine e_then_ret ?_ | refine e_block_ret ?_ | refine e_then_exit ?_ | refine e_block_here ?_ | refine e_then_panic ?_ | refine e_block_panic ?_) | refine e_block_on rfl ?_))
          exact ⟨i + 1, _, rfl, ⟨ov_ex _ ⟨rfl, rfl, rfl, rfl, trivial⟩, H, by omega⟩, by omega⟩
        · skip
          refine wp_exit ?_; (repeat (first | (with_reducible first | refine e_then ?_ | refine e_block ?_ | refine e_then_ret ?_ | refine e_block_ret ?_ | refine e_then_exit ?_ | refine e_block_here ?_ | refine e_then_panic ?_ | refine e_block_panic ?_) | refine e_block_on rfl ?_))
          -- R20
          refine c_region ?_
          refine L1 rfl rfl H (y_move (v := (.int .i64 _)) rfl rfl) ?_
          refine L1 rfl rfl H (y_add (r := ((k + 1 : Nat) : Int)) rfl rfl rfl (by rw [wr_i64 (by omega) (by omega)]; omega)) ?_
          refine L1 rfl rfl H (y_assign (v := (.int .i64 _)) rfl rfl) ?_
          refine e_list ?_; (repeat (first | (with_reducible first | refine e_then ?_ | refine e_block ?_ | refine e_then_ret ?_ | refine e_block_ret ?_ | refine e_then_exit ?_ | refine e_block_here ?_ | refine e_then_panic ?_ | refine e_block_panic ?_) | refine e_block_on rfl ?_))
          exact ⟨k + 1, _, rfl, ⟨ov_ex _ ⟨rfl, rfl, rfl, trivial⟩, H, by omega⟩, by omega⟩
      · skip
        refine wp_exit ?_; (repeat (first | (with_reducible first | refine e_then ?_ | refine e_block ?_ | refine e_then_ret ?_ | refine e_block_ret ?_ | refine e_then_exit ?_ | refine e_block_here ?_ | refine e_then_panic ?_ | refine e_block_panic ?_) | refine e_block_on rfl ?_))
        refine wp_seq ?_
        -- R27
        refine c_region ?_
        refine L1 rfl rfl H (y_assign (v := (.bool _)) rfl rfl) ?_
        refine e_list ?_; (repeat (first | (with_reducible first | refine e_then ?_ | refine e_block ?_ | refine e_then_ret ?_ | refine e_block_ret ?_ | refine e_then_exit ?_ | refine e_block_here ?_ | refine e_then_panic ?_ | refine e_block_panic ?_) | refine e_block_on rfl ?_))
        refine wp_ret ?_; (repeat (first | (with_reducible first | refine e_then ?_ | refine e_block ?_ | refine e_then_ret ?_ | refine e_block_ret ?_ | refine e_then_exit ?_ | refine e_block_here ?_ | refine e_then_panic ?_ | refine e_block_panic ?_) | refine e_block_on rfl ?_))
        refine r_1 (v := (.bool _)) rfl rfl ?_
        exact ⟨rfl, H.sub (.cons _ (.cons _ (List.sublist_append_right _ _)))⟩
-- »apart
end
end Go.Pf
