/-
  The program's relay: a parcel is made.
-/
import Derived.Test.YtjfifehofflaeaaLaw1
import Derived.Test.YtjfifehofflaeaaEng15
namespace Go.Ref
open Go.RowKit Go.Eng Go.Proofs Go.Wire Go.Relay
set_option linter.unusedSimpArgs false
set_option linter.unusedVariables false
attribute [local irreducible] wpList wpQuiet wpStill wpMix wpMixE

theorem y_gtrF {P : Program} {C : World → Prop} {o : Oper} {ρ : Operand → Value} {t t2 : TypeId} {x y : Operand} {k : IntKind} {a b : Int} (h : ¬ b < a) (ho : o.op = .binOp .gtr t x y t2) (hx : ρ x = .int k a) (hy : ρ y = .int k b) : Gives P C o ρ (.bool false) := by
  have := y_gtr (P := P) (C := C) ho hx hy
  rw [decide_eq_false h] at this
  exact this
theorem getD_le {ts : List By} {i N : Nat} (h : ∀ t ∈ ts, t.length ≤ N) (hi : i < ts.length) : (ts.getD i []).length ≤ N := by
  rw [List.getD_eq_getElem?_getD, List.getElem?_eq_getElem hi]
  exact h _ (List.getElem_mem hi)
def preB (img : By) (ts : List By) : By := (([] ++ digS img.length) ++ img) ++ digS ts.length
theorem textsS_take {ts : List By} {i : Nat} (h : i < ts.length) : textsS (ts.take (i + 1)) = textsS (ts.take i) ++ (digS (ts.getD i []).length ++ ts.getD i []) := by
  rw [List.take_add_one, List.getElem?_eq_getElem h, List.getD_eq_getElem?_getD, List.getElem?_eq_getElem h]
  unfold textsS
  rw [List.flatMap_append]
  simp only [Option.toList, List.flatMap_cons, List.flatMap_nil, List.append_nil, Option.getD_some]
theorem preB_body {img : By} {ts : List By} : preB img ts ++ textsS ts = bodyS img ts := by simp [preB, bodyS]
theorem preB_len {img : By} {ts : List By} (h : fitsS img ts) {i : Nat} : (preB img ts ++ textsS (ts.take i)).length ≤ 5000000000 := by
  have h1 := bodyS_len h
  obtain ⟨h2, h3, h4⟩ := h
  have h5 := textsS_len (ts.take i) (fun t ht => h4 t (List.mem_of_mem_take ht))
  have h6 : (ts.take i).length ≤ ts.length := by rw [List.length_take]; omega
  have h7 := digS_ten (x := img.length) (by omega)
  have h8 := digS_ten (x := ts.length) (by omega)
  simp only [preB, List.length_append, List.length_nil]
  omega
section
variable {w0 w : World} {R : List Ent} {g : Nat} {A : Option Addr} {cap : Nat} {b img : By} {ts : List By}
-- «fits»
theorem fits_calls {A1 A2 : Option Addr} {c1 c2 : Nat} (hf : fitsS img ts) (hT : Rd w0 A2 (ts.map tv)) :
    Calls Try.prog 51 #[.slice A1 img.length c1, .slice A2 ts.length c2] w0 fun e w' => e = .returned (.bool true) ∧ Heap w0 [] w' := by
  refine c_enter (xa := [.slice A1 img.length c1, .slice A2 ts.length c2]) 26 Try.func51 rfl rfl rfl ?_
  have H := Heap.init w0
  obtain ⟨hf1, hf2, hf3⟩ := hf
  refine wp_seq ?_
  -- R0
  refine c_region ?_
  refine L1 rfl rfl H (y_assign (v := (.bool _)) rfl rfl) ?_
  refine e_list ?_; (repeat (first | (with_reducible first | refine e_then ?_ | refine e_block ?_ | refine e_then_ret ?_ | refine e_block_ret ?_ | refine e_then_exit ?_ | refine e_block_here ?_ | refine e_then_panic ?_ | refine e_block_panic ?_) | refine e_block_on rfl ?_))
  refine wp_seq ?_
  refine wp_seq ?_
  -- R1
  refine c_region ?_
  refine L1 rfl rfl H (y_move (v := (.slice _ _ _)) rfl rfl) ?_
  refine L1 rfl rfl H (y_len_slice rfl rfl Try.underlying22) ?_
  refine L1 rfl rfl H (y_gtrF (by omega) rfl rfl rfl) ?_
  refine L1 rfl rfl H (y_move (v := (.bool _)) rfl rfl) ?_
  refine L1g rfl rfl rfl rfl H (y_move (v := (.slice _ _ _)) rfl rfl) ?_
  refine L1g rfl rfl rfl rfl H (y_len_slice rfl rfl Try.underlying24) ?_
  refine L1g rfl rfl rfl rfl H (y_gtrF (by omega) rfl rfl rfl) ?_
  refine L1 rfl rfl H (y_pick (v := (.bool _)) rfl rfl rfl) ?_
  refine e_list ?_; (repeat (first | (with_reducible first | refine e_then ?_ | refine e_block ?_ | refine e_then_ret ?_ | refine e_block_ret ?_ | refine e_then_exit ?_ | refine e_block_here ?_ | refine e_then_panic ?_ | refine e_block_panic ?_) | refine e_block_on rfl ?_))
  refine c_f rfl ?_   -- if 0
  refine wp_skip ?_; (repeat (first | (with_reducible first | refine e_then ?_ | refine e_block ?_ | refine e_then_ret ?_ | refine e_block_ret ?_ | refine e_then_exit ?_ | refine e_block_here ?_ | refine e_then_panic ?_ | refine e_block_panic ?_) | refine e_block_on rfl ?_))
  refine wp_seq ?_
  refine wp_seq ?_
  -- R3
  refine c_region ?_
  refine L1 rfl rfl H (y_assign (v := (.int .i64 _)) rfl rfl) ?_
  refine e_list ?_; (repeat (first | (with_reducible first | refine e_then ?_ | refine e_block ?_ | refine e_then_ret ?_ | refine e_block_ret ?_ | refine e_then_exit ?_ | refine e_block_here ?_ | refine e_then_panic ?_ | refine e_block_panic ?_) | refine e_block_on rfl ?_))
  refine wp_block ?_   -- block 0
  refine c_loop (ι := Nat) (fun i f w => (∃ gx, f = ov [(1, .slice A2 ts.length c2), (5, .int .i64 (i : Nat))] gx) ∧ Heap w0 ([]) w ∧ i ≤ ts.length) (fun i => ts.length - i) 0 ?_ ?_
  · exact ⟨ov_ex _ ⟨rfl, rfl, trivial⟩, H, by omega⟩
  rintro i f w ⟨⟨gg, rfl⟩, H, hi⟩
  refine wp_seq ?_
  refine wp_seq ?_
  -- R4
  refine c_region ?_
  refine L1 rfl rfl H (y_move (v := (.int .i64 _)) rfl rfl) ?_
  refine L1 rfl rfl H (y_move (v := (.slice _ _ _)) rfl rfl) ?_
  refine L1 rfl rfl H (y_len_slice rfl rfl Try.underlying24) ?_
  refine L1 rfl rfl H (y_lss rfl rfl rfl) ?_
  refine e_list ?_; (repeat (first | (with_reducible first | refine e_then ?_ | refine e_block ?_ | refine e_then_ret ?_ | refine e_block_ret ?_ | refine e_then_exit ?_ | refine e_block_here ?_ | refine e_then_panic ?_ | refine e_block_panic ?_) | refine e_block_on rfl ?_))
  refine c_if rfl (fun h1 => ?_) (fun h1 => ?_)   -- if 1
  · skip
    refine wp_skip ?_; (repeat (first | (with_reducible first | refine e_then ?_ | refine e_block ?_ | refine e_then_ret ?_ | refine e_block_ret ?_ | refine e_then_exit ?_ | refine e_block_here ?_ | refine e_then_panic ?_ | refine e_block_panic ?_) | refine e_block_on rfl ?_))
    refine wp_seq ?_
    refine wp_block ?_   -- block 1
    refine wp_seq ?_
    -- R6
    refine c_region ?_
    refine L1 rfl rfl H (y_move (v := (.slice _ _ _)) rfl rfl) ?_
    refine L1 rfl rfl H (y_move (v := (.int .i64 _)) rfl rfl) ?_
    have hlt := getD_le (i := i) hf3 (by omega)
    obtain ⟨a2, rfl, _⟩ := hT.some (j := i) (by rw [List.length_map]; omega)
    refine L1 rfl rfl H (y_indexSl rfl rfl rfl Try.underlying24 Try.sizeOf9 (by omega) (by omega)) ?_
    refine L1 rfl rfl H (y_load (v := tv (ts.getD i [])) rfl rfl Try.isAgg9 (rd_getT hT (by omega))) ?_
    refine L1 rfl rfl H (y_len_string rfl rfl Try.underlying9) ?_
    refine L1 rfl rfl H (y_gtrF (b := 4096) (a := ((ts.getD i []).length : Int)) (by omega) rfl rfl rfl) ?_
    refine e_list ?_; (repeat (first | (with_reducible first | refine e_then ?_ | refine e_block ?_ | refine e_then_ret ?_ | refine e_block_ret ?_ | refine e_then_exit ?_ | refine e_block_here ?_ | refine e_then_panic ?_ | refine e_block_panic ?_) | refine e_block_on rfl ?_))
    refine c_f rfl ?_   -- if 2
    refine wp_skip ?_; (repeat (first | (with_reducible first | refine e_then ?_ | refine e_block ?_ | refine e_then_ret ?_ | refine e_block_ret ?_ | refine e_then_exit ?_ | refine e_block_here ?_ | refine e_then_panic ?_ | refine e_block_panic ?_) | refine e_block_on rfl ?_))
    -- R5
    refine c_region ?_
    refine L1 rfl rfl H (y_move (v := (.int .i64 _)) rfl rfl) ?_
    refine L1 rfl rfl H (y_add (r := ((i + 1 : Nat) : Int)) rfl rfl rfl (by rw [wr_i64 (by omega) (by omega)]; omega)) ?_
    refine L1 rfl rfl H (y_assign (v := (.int .i64 _)) rfl rfl) ?_
    refine e_list ?_; (repeat (first | (with_reducible first | refine e_then ?_ | refine e_block ?_ | refine e_then_ret ?_ | refine e_block_ret ?_ | refine e_then_exit ?_ | refine e_block_here ?_ | refine e_then_panic ?_ | refine e_block_panic ?_) | refine e_block_on rfl ?_))
    exact ⟨i + 1, _, rfl, ⟨ov_ex _ ⟨rfl, rfl, trivial⟩, H, by omega⟩, by omega⟩
  · skip
    refine wp_exit ?_; (repeat (first | (with_reducible first | refine e_then ?_ | refine e_block ?_ | refine e_then_ret ?_ | refine e_block_ret ?_ | refine e_then_exit ?_ | refine e_block_here ?_ | refine e_then_panic ?_ | refine e_block_panic ?_) | refine e_block_on rfl ?_))
    refine wp_seq ?_
    -- R8
    refine c_region ?_
    refine L1 rfl rfl H (y_assign (v := (.bool _)) rfl rfl) ?_
    refine e_list ?_; (repeat (first | (with_reducible first | refine e_then ?_ | refine e_block ?_ | refine e_then_ret ?_ | refine e_block_ret ?_ | refine e_then_exit ?_ | refine e_block_here ?_ | refine e_then_panic ?_ | refine e_block_panic ?_) | refine e_block_on rfl ?_))
    refine wp_ret ?_; (repeat (first | (with_reducible first | refine e_then ?_ | refine e_block ?_ | refine e_then_ret ?_ | refine e_block_ret ?_ | refine e_then_exit ?_ | refine e_block_here ?_ | refine e_then_panic ?_ | refine e_block_panic ?_) | refine e_block_on rfl ?_))
    refine r_1 (v := (.bool _)) rfl rfl ?_
    exact ⟨rfl, H⟩
-- »fits
-- «parcel»
set_option maxHeartbeats 1000000 in
theorem parcel_calls {A1 A2 : Option Addr} {c1 c2 : Nat} (hf : fitsS img ts) (hA : Rd w0 A1 (img.map bv)) (hT : Rd w0 A2 (ts.map tv)) :
    Calls Try.prog 22 #[.slice A1 img.length c1, .slice A2 ts.length c2] w0 fun e w' => ∃ A c, e = .returned (.tuple #[.slice A (sealS (bodyS img ts)).length c, .int .i64 0]) ∧ (sealS (bodyS img ts)).length ≤ c ∧ Heap w0 [rowB w0 A c (sealS (bodyS img ts))] w' := by
  refine c_enter (xa := [.slice A1 img.length c1, .slice A2 ts.length c2]) 83 Try.func22 rfl rfl rfl ?_
  have H := Heap.init w0
  have hbl := bodyS_len hf
  have hpl := fun i => preB_len (i := i) hf
  have hf0 := hf
  obtain ⟨hf1, hf2, hf3⟩ := hf
  have hd1 := digS_ten (x := img.length) (by omega)
  have hd2 := digS_ten (x := ts.length) (by omega)
  have hsl : (signS (bodyS img ts)).length = (bodyS img ts).length + 32 := by unfold signS; rw [List.length_append, Dig.sum_length]; omega
  have hsm : sumN (signS (bodyS img ts)) < 2 ^ 64 := by have := sumN_le (signS (bodyS img ts)); omega
  refine wp_seq ?_
  -- R0
  refine c_region ?_
  refine L1 rfl rfl H (y_assign (v := (.slice _ _ _)) rfl rfl) ?_
  refine L1 rfl rfl H (y_assign (v := (.int .i64 _)) rfl rfl) ?_
  refine e_list ?_; (repeat (first | (with_reducible first | refine e_then ?_ | refine e_block ?_ | refine e_then_ret ?_ | refine e_block_ret ?_ | refine e_then_exit ?_ | refine e_block_here ?_ | refine e_then_panic ?_ | refine e_block_panic ?_) | refine e_block_on rfl ?_))
  refine wp_seq ?_
  refine wp_seq ?_
  -- R1
  refine c_region ?_
  refine L1 rfl rfl H (y_move (v := (.slice _ _ _)) rfl rfl) ?_
  refine L1 rfl rfl H (y_len_slice rfl rfl Try.underlying22) ?_
  refine L1 rfl rfl H (y_gtrF (by omega) rfl rfl rfl) ?_
  refine L1 rfl rfl H (y_move (v := (.bool _)) rfl rfl) ?_
  refine L1g rfl rfl rfl rfl H (y_move (v := (.slice _ _ _)) rfl rfl) ?_
  refine L1g rfl rfl rfl rfl H (y_len_slice rfl rfl Try.underlying24) ?_
  refine L1g rfl rfl rfl rfl H (y_gtrF (by omega) rfl rfl rfl) ?_
  refine L1 rfl rfl H (y_pick (v := (.bool _)) rfl rfl rfl) ?_
  refine e_list ?_; (repeat (first | (with_reducible first | refine e_then ?_ | refine e_block ?_ | refine e_then_ret ?_ | refine e_block_ret ?_ | refine e_then_exit ?_ | refine e_block_here ?_ | refine e_then_panic ?_ | refine e_block_panic ?_) | refine e_block_on rfl ?_))
  refine c_f rfl ?_   -- if 0
  refine wp_skip ?_; (repeat (first | (with_reducible first | refine e_then ?_ | refine e_block ?_ | refine e_then_ret ?_ | refine e_block_ret ?_ | refine e_then_exit ?_ | refine e_block_here ?_ | refine e_then_panic ?_ | refine e_block_panic ?_) | refine e_block_on rfl ?_))
  refine wp_seq ?_
  refine wp_seq ?_
  -- R3
  refine c_region ?_
  refine L1 rfl rfl H (y_move (v := (.slice _ _ _)) rfl rfl) ?_
  refine L1 rfl rfl H (y_len_slice rfl rfl Try.underlying24) ?_
  refine L1 rfl rfl H (y_move (v := (.int .i64 _)) rfl rfl) ?_
  refine e_list ?_; (repeat (first | (with_reducible first | refine e_then ?_ | refine e_block ?_ | refine e_then_ret ?_ | refine e_block_ret ?_ | refine e_then_exit ?_ | refine e_block_here ?_ | refine e_then_panic ?_ | refine e_block_panic ?_) | refine e_block_on rfl ?_))
  refine wp_block ?_   -- block 0
  refine c_loop (ι := Nat) (fun i f w => (∃ gx, f = ov [(0, .slice A1 img.length c1), (1, .slice A2 ts.length c2), (22, .slice A2 ts.length c2), (23, .int .i64 (ts.length : Nat)), (24, .int .i64 (i : Nat))] gx) ∧ Heap w0 ([]) w ∧ i ≤ ts.length) (fun i => ts.length - i) 0 ?_ ?_
  · exact ⟨ov_ex _ ⟨rfl, rfl, rfl, rfl, rfl, trivial⟩, H, by omega⟩
  rintro i f w ⟨⟨gg, rfl⟩, H, hi⟩
  refine wp_seq ?_
  -- R4
  refine c_region ?_
  refine L1 rfl rfl H (y_lss rfl rfl rfl) ?_
  refine e_list ?_; (repeat (first | (with_reducible first | refine e_then ?_ | refine e_block ?_ | refine e_then_ret ?_ | refine e_block_ret ?_ | refine e_then_exit ?_ | refine e_block_here ?_ | refine e_then_panic ?_ | refine e_block_panic ?_) | refine e_block_on rfl ?_))
  refine wp_seq ?_
  refine c_if rfl (fun h1 => ?_) (fun h1 => ?_)   -- if 1
  · skip
    refine wp_skip ?_; (repeat (first | (with_reducible first | refine e_then ?_ | refine e_block ?_ | refine e_then_ret ?_ | refine e_block_ret ?_ | refine e_then_exit ?_ | refine e_block_here ?_ | refine e_then_panic ?_ | refine e_block_panic ?_) | refine e_block_on rfl ?_))
    refine wp_seq ?_
    refine wp_block ?_   -- block 1
    refine wp_seq ?_
    -- R5
    refine c_region ?_
    have hlt := getD_le (i := i) hf3 (by omega)
    obtain ⟨a2, ha2, _⟩ := hT.some (j := i) (by rw [List.length_map]; omega)
    refine L1 rfl rfl H (y_indexSlA ha2 rfl rfl rfl Try.underlying24 Try.sizeOf9 (by omega) (by omega)) ?_
    refine L1 rfl rfl H (y_load (v := tv (ts.getD i [])) rfl rfl Try.isAgg9 (by subst ha2; exact rd_getT hT (by omega))) ?_
    refine L1 rfl rfl H (y_assign (v := (.string _)) rfl rfl) ?_
    refine e_list ?_; (repeat (first | (with_reducible first | refine e_then ?_ | refine e_block ?_ | refine e_then_ret ?_ | refine e_block_ret ?_ | refine e_then_exit ?_ | refine e_block_here ?_ | refine e_then_panic ?_ | refine e_block_panic ?_) | refine e_block_on rfl ?_))
    refine wp_seq ?_
    -- R6
    refine c_region ?_
    refine L1 rfl rfl H (y_move (v := (.string _)) rfl rfl) ?_
    refine L1 rfl rfl H (y_len_string rfl rfl Try.underlying9) ?_
    refine L1 rfl rfl H (y_gtrF (b := 4096) (a := ((ts.getD i []).length : Int)) (by omega) rfl rfl rfl) ?_
    refine e_list ?_; (repeat (first | (with_reducible first | refine e_then ?_ | refine e_block ?_ | refine e_then_ret ?_ | refine e_block_ret ?_ | refine e_then_exit ?_ | refine e_block_here ?_ | refine e_then_panic ?_ | refine e_block_panic ?_) | refine e_block_on rfl ?_))
    refine c_f rfl ?_   -- if 2
    refine wp_skip ?_; (repeat (first | (with_reducible first | refine e_then ?_ | refine e_block ?_ | refine e_then_ret ?_ | refine e_block_ret ?_ | refine e_then_exit ?_ | refine e_block_here ?_ | refine e_then_panic ?_ | refine e_block_panic ?_) | refine e_block_on rfl ?_))
    -- R8
    refine c_region ?_
    refine L1 rfl rfl H (y_add (r := ((i + 1 : Nat) : Int)) rfl rfl rfl (by rw [wr_i64 (by omega) (by omega)]; omega)) ?_
    refine L1 rfl rfl H (y_move (v := (.int .i64 _)) rfl rfl) ?_
    refine e_list ?_; (repeat (first | (with_reducible first | refine e_then ?_ | refine e_block ?_ | refine e_then_ret ?_ | refine e_block_ret ?_ | refine e_then_exit ?_ | refine e_block_here ?_ | refine e_then_panic ?_ | refine e_block_panic ?_) | refine e_block_on rfl ?_))
    exact ⟨i + 1, _, rfl, ⟨ov_ex _ ⟨rfl, rfl, rfl, rfl, rfl, trivial⟩, H, by omega⟩, by omega⟩
  · skip
    refine wp_exit ?_; (repeat (first | (with_reducible first | refine e_then ?_ | refine e_block ?_ | refine e_then_ret ?_ | refine e_block_ret ?_ | refine e_then_exit ?_ | refine e_block_here ?_ | refine e_then_panic ?_ | refine e_block_panic ?_) | refine e_block_on rfl ?_))
    refine wp_seq ?_
    -- R9
    refine c_region ?_
    refine Lfn rfl rfl rfl (xa := []) rfl Try.call59 ?_   -- portage/wire.NewWriter
    refine (newWriter_calls H).mono ?_
    rintro e w ⟨g8, rfl, H⟩
    refine ⟨_, rfl, ?_⟩
    refine L1 rfl rfl H (y_assign (v := (.pointer _)) rfl rfl) ?_
    refine e_list ?_; (repeat (first | (with_reducible first | refine e_then ?_ | refine e_block ?_ | refine e_then_ret ?_ | refine e_block_ret ?_ | refine e_then_exit ?_ | refine e_block_here ?_ | refine e_then_panic ?_ | refine e_block_panic ?_) | refine e_block_on rfl ?_))
    refine wp_seq ?_
    -- R10
    refine c_region ?_
    refine L1 rfl rfl H (y_move (v := (.pointer _)) rfl rfl) ?_
    refine L1 rfl rfl H (y_move (v := (.slice _ _ _)) rfl rfl) ?_
    refine L1 rfl rfl H (y_len_slice rfl rfl Try.underlying22) ?_
    refine L1 rfl rfl H (y_conv (r := ((img.length : Nat) : Int)) rfl rfl Try.underlying3 Try.underlying86 (wr_u64 (by omega) (by omega))) ?_
    refine Lfn rfl rfl rfl (xa := [(.pointer _), (.int .u64 _)]) rfl Try.call60 ?_   -- (*portage/wire.Writer).Uint
    refine (uint_calls (b := []) (x := img.length) (by omega) (Nat.zero_le _) H (by simp only [List.length_nil]; omega)).mono ?_
    rintro e w ⟨A8, c8, rfl, hc8, H⟩
    refine ⟨_, rfl, ?_⟩
    refine e_list ?_; (repeat (first | (with_reducible first | refine e_then ?_ | refine e_block ?_ | refine e_then_ret ?_ | refine e_block_ret ?_ | refine e_then_exit ?_ | refine e_block_here ?_ | refine e_then_panic ?_ | refine e_block_panic ?_) | refine e_block_on rfl ?_))
    refine wp_seq ?_
    -- R11
    refine c_region ?_
    refine L1 rfl rfl H (y_move (v := (.pointer _)) rfl rfl) ?_
    refine L1 rfl rfl H (y_move (v := (.slice _ _ _)) rfl rfl) ?_
    refine Lfn rfl rfl rfl (xa := [(.pointer _), (.slice _ _ _)]) rfl Try.call61 ?_   -- (*portage/wire.Writer).Raw
    refine (rawW_calls (b := [] ++ digS img.length) (m := img) hc8 H (hA.old H) (by simp only [List.length_nil, List.length_append]; omega)).mono ?_
    rintro e w ⟨A8, c8, rfl, hc8, H⟩
    refine ⟨_, rfl, ?_⟩
    refine e_list ?_; (repeat (first | (with_reducible first | refine e_then ?_ | refine e_block ?_ | refine e_then_ret ?_ | refine e_block_ret ?_ | refine e_then_exit ?_ | refine e_block_here ?_ | refine e_then_panic ?_ | refine e_block_panic ?_) | refine e_block_on rfl ?_))
    refine wp_seq ?_
    -- R12
    refine c_region ?_
    refine L1 rfl rfl H (y_move (v := (.pointer _)) rfl rfl) ?_
    refine L1 rfl rfl H (y_move (v := (.slice _ _ _)) rfl rfl) ?_
    refine L1 rfl rfl H (y_len_slice rfl rfl Try.underlying24) ?_
    refine L1 rfl rfl H (y_conv (r := ((ts.length : Nat) : Int)) rfl rfl Try.underlying3 Try.underlying86 (wr_u64 (by omega) (by omega))) ?_
    refine Lfn rfl rfl rfl (xa := [(.pointer _), (.int .u64 _)]) rfl Try.call60 ?_   -- (*portage/wire.Writer).Uint
    refine (uint_calls (b := ([] ++ digS img.length) ++ img) (x := ts.length) (by omega) hc8 H (by simp only [List.length_nil, List.length_append]; omega)).mono ?_
    rintro e w ⟨A8, c8, rfl, hc8, H⟩
    replace hc8 : (preB img ts).length ≤ c8 := hc8
    refine ⟨_, rfl, ?_⟩
    refine e_list ?_; (repeat (first | (with_reducible first | refine e_then ?_ | refine e_block ?_ | refine e_then_ret ?_ | refine e_block_ret ?_ | refine e_then_exit ?_ | refine e_block_here ?_ | refine e_then_panic ?_ | refine e_block_panic ?_) | refine e_block_on rfl ?_))
    refine wp_seq ?_
    refine wp_seq ?_
    -- R13
    refine c_region ?_
    refine L1 rfl rfl H (y_move (v := (.slice _ _ _)) rfl rfl) ?_
    refine L1 rfl rfl H (y_len_slice rfl rfl Try.underlying24) ?_
    refine L1 rfl rfl H (y_move (v := (.int .i64 _)) rfl rfl) ?_
    refine e_list ?_; (repeat (first | (with_reducible first | refine e_then ?_ | refine e_block ?_ | refine e_then_ret ?_ | refine e_block_ret ?_ | refine e_then_exit ?_ | refine e_block_here ?_ | refine e_then_panic ?_ | refine e_block_panic ?_) | refine e_block_on rfl ?_))
    refine wp_block ?_   -- block 2
    refine c_loop (ι := Nat × Option Addr × Nat) (fun (i, A8, c8) f w => (∃ gx, f = ov [(8, .pointer (some ⟨g8, 0, none⟩)), (46, .slice A2 ts.length c2), (47, .int .i64 (ts.length : Nat)), (48, .int .i64 (i : Nat))] gx) ∧ Heap w0 (wtr w0 g8 A8 c8 (preB img ts ++ textsS (ts.take i)) []) w ∧ i ≤ ts.length ∧ (preB img ts ++ textsS (ts.take i)).length ≤ c8) (fun (i, A8, c8) => ts.length - i) (0, A8, c8) ?_ ?_
    · exact ⟨ov_ex _ ⟨rfl, rfl, rfl, rfl, trivial⟩, (by show Heap w0 (wtr w0 g8 A8 c8 (preB img ts ++ []) []) _; rw [List.append_nil]; exact H), by omega, (by show (preB img ts ++ []).length ≤ c8; rw [List.append_nil]; exact hc8)⟩
    rintro ⟨i, A8, c8⟩ f w ⟨⟨gg, rfl⟩, H, hi, hc8⟩
    refine wp_seq ?_
    -- R14
    refine c_region ?_
    refine L1 rfl rfl H (y_lss rfl rfl rfl) ?_
    refine e_list ?_; (repeat (first | (with_reducible first | refine e_then ?_ | refine e_block ?_ | refine e_then_ret ?_ | refine e_block_ret ?_ | refine e_then_exit ?_ | refine e_block_here ?_ | refine e_then_panic ?_ | refine e_block_panic ?_) | refine e_block_on rfl ?_))
    refine wp_seq ?_
    refine c_if rfl (fun h3 => ?_) (fun h3 => ?_)   -- if 3
    · skip
      refine wp_skip ?_; (repeat (first | (with_reducible first | refine e_then ?_ | refine e_block ?_ | refine e_then_ret ?_ | refine e_block_ret ?_ | refine e_then_exit ?_ | refine e_block_here ?_ | refine e_then_panic ?_ | refine e_block_panic ?_) | refine e_block_on rfl ?_))
      refine wp_seq ?_
      refine wp_block ?_   -- block 3
      refine wp_seq ?_
      -- R15
      refine c_region ?_
      have hlt := getD_le (i := i) hf3 (by omega)
      have hd3 := digS_ten (x := (ts.getD i []).length) (by omega)
      have hpi := hpl i
      obtain ⟨a2, ha2, _⟩ := hT.some (j := i) (by rw [List.length_map]; omega)
      refine L1 rfl rfl H (y_indexSlA ha2 rfl rfl rfl Try.underlying24 Try.sizeOf9 (by omega) (by omega)) ?_
      refine L1 rfl rfl H (y_load (v := tv (ts.getD i [])) rfl rfl Try.isAgg9 (by subst ha2; exact rd_getT hT (by omega))) ?_
      refine L1 rfl rfl H (y_assign (v := (.string _)) rfl rfl) ?_
      refine e_list ?_; (repeat (first | (with_reducible first | refine e_then ?_ | refine e_block ?_ | refine e_then_ret ?_ | refine e_block_ret ?_ | refine e_then_exit ?_ | refine e_block_here ?_ | refine e_then_panic ?_ | refine e_block_panic ?_) | refine e_block_on rfl ?_))
      -- R16
      refine c_region ?_
      refine L1 rfl rfl H (y_move (v := (.pointer _)) rfl rfl) ?_
      refine L1 rfl rfl H (y_move (v := (.string _)) rfl rfl) ?_
      refine Lfn rfl rfl rfl (xa := [(.pointer _), (.string _)]) rfl Try.call62 ?_   -- (*portage/wire.Writer).Text
      refine (textW_calls (b := (preB img ts ++ textsS (ts.take i))) (m := ts.getD i []) hc8 H (by omega)).mono ?_
      rintro e w ⟨A8, c8, rfl, hc8, H⟩
      rw [List.append_assoc, List.append_assoc, ← textsS_take (by omega)] at H hc8
      refine ⟨_, rfl, ?_⟩
      refine e_list ?_; (repeat (first | (with_reducible first | refine e_then ?_ | refine e_block ?_ | refine e_then_ret ?_ | refine e_block_ret ?_ | refine e_then_exit ?_ | refine e_block_here ?_ | refine e_then_panic ?_ | refine e_block_panic ?_) | refine e_block_on rfl ?_))
      -- R17
      refine c_region ?_
      refine L1 rfl rfl H (y_add (r := ((i + 1 : Nat) : Int)) rfl rfl rfl (by rw [wr_i64 (by omega) (by omega)]; omega)) ?_
      refine L1 rfl rfl H (y_move (v := (.int .i64 _)) rfl rfl) ?_
      refine e_list ?_; (repeat (first | (with_reducible first | refine e_then ?_ | refine e_block ?_ | refine e_then_ret ?_ | refine e_block_ret ?_ | refine e_then_exit ?_ | refine e_block_here ?_ | refine e_then_panic ?_ | refine e_block_panic ?_) | refine e_block_on rfl ?_))
      exact ⟨(i + 1, A8, c8), _, rfl, ⟨ov_ex _ ⟨rfl, rfl, rfl, rfl, trivial⟩, H, by omega, hc8⟩, by show ts.length - (i + 1) < ts.length - i; omega⟩
    · skip
      have hie : i = ts.length := by omega
      subst hie
      rw [List.take_length, preB_body] at H hc8
      refine wp_exit ?_; (repeat (first | (with_reducible first | refine e_then ?_ | refine e_block ?_ | refine e_then_ret ?_ | refine e_block_ret ?_ | refine e_then_exit ?_ | refine e_block_here ?_ | refine e_then_panic ?_ | refine e_block_panic ?_) | refine e_block_on rfl ?_))
      refine wp_seq ?_
      -- R18
      refine c_region ?_
      refine L1 rfl rfl H (y_move (v := (.pointer _)) rfl rfl) ?_
      refine Lfn rfl rfl rfl (xa := [(.pointer _)]) rfl Try.call64 ?_   -- (*portage/wire.Writer).Done
      refine (done_calls H (by omega)).mono ?_
      rintro e w ⟨A57, c57, rfl, hc57, H⟩
      refine ⟨_, rfl, ?_⟩
      refine Lfn rfl rfl rfl (xa := [(.slice _ _ _)]) rfl Try.call63 ?_   -- portage/digest.Sum
      refine (Dig.sum_calls (rd_row (H.get 0 rfl)) (by omega) hc57).mono ?_
      rintro e w' ⟨rfl, K⟩
      replace H := H.app0 K
      clear K
      refine ⟨_, rfl, ?_⟩
      refine Lalloc rfl rfl rfl H Try.zeroValue82 (cs := List.replicate 32 (bv 0)) rfl ?_; intro b11 w H
      refine Lstore 0 rfl rfl rfl rfl (v := .agg ((Dig.sum (bodyS img ts)).map bv).toArray) rfl H rfl (vs := (Dig.sum (bodyS img ts)).map bv) rfl (by rw [List.length_map, Dig.sum_length]; exact Try.sizeOf82) (List.all_eq_true.2 (bv_one _)) (by rw [List.length_map, Dig.sum_length]; rfl) ?_; intro w H
      replace H : Heap w0 (Ent.blk b11 82 ((List.replicate 32 (bv 0)).take 0 ++ (Dig.sum (bodyS img ts)).map bv ++ (List.replicate 32 (bv 0)).drop (0 + ((Dig.sum (bodyS img ts)).map bv).length)) :: rowB w0 A57 c57 (bodyS img ts) :: wtr w0 g8 A8 c8 (bodyS img ts) []) w := H
      rw [sum_whole] at H
      replace H : Heap w0 (Ent.blk b11 82 ((Dig.sum (bodyS img ts)).map bv) :: wtr w0 g8 A8 c8 (bodyS img ts) []) w := H.del 1
      refine e_list ?_; (repeat (first | (with_reducible first | refine e_then ?_ | refine e_block ?_ | refine e_then_ret ?_ | refine e_block_ret ?_ | refine e_then_exit ?_ | refine e_block_here ?_ | refine e_then_panic ?_ | refine e_block_panic ?_) | refine e_block_on rfl ?_))
      refine wp_seq ?_
      -- R19
      refine c_region ?_
      refine Lfn rfl rfl rfl (xa := []) rfl Try.call59 ?_   -- portage/wire.NewWriter
      refine (newWriter_calls H).mono ?_
      rintro e w ⟨g12, rfl, H⟩
      refine ⟨_, rfl, ?_⟩
      refine L1 rfl rfl H (y_assign (v := (.pointer _)) rfl rfl) ?_
      refine e_list ?_; (repeat (first | (with_reducible first | refine e_then ?_ | refine e_block ?_ | refine e_then_ret ?_ | refine e_block_ret ?_ | refine e_then_exit ?_ | refine e_block_here ?_ | refine e_then_panic ?_ | refine e_block_panic ?_) | refine e_block_on rfl ?_))
      refine wp_seq ?_
      -- R20
      refine c_region ?_
      refine L1 rfl rfl H (y_move (v := (.pointer _)) rfl rfl) ?_
      refine L1 rfl rfl H (y_slice_arr_ rfl rfl Try.underlying82 Try.sizeOf5) ?_
      refine Lfn rfl rfl rfl (xa := [(.pointer _), (.slice _ _ _)]) rfl Try.call61 ?_   -- (*portage/wire.Writer).Raw
      have hr := rawW_calls (b := []) (m := Dig.sum (bodyS img ts)) (c2 := 32) (Nat.zero_le _) H (rd_blk H 2 rfl) (by simp only [List.length_nil]; rw [Dig.sum_length]; omega)
      rw [Dig.sum_length] at hr
      refine hr.mono ?_
      clear hr
      rintro e w ⟨A12, c12, rfl, hc12, H⟩
      refine ⟨_, rfl, ?_⟩
      refine e_list ?_; (repeat (first | (with_reducible first | refine e_then ?_ | refine e_block ?_ | refine e_then_ret ?_ | refine e_block_ret ?_ | refine e_then_exit ?_ | refine e_block_here ?_ | refine e_then_panic ?_ | refine e_block_panic ?_) | refine e_block_on rfl ?_))
      refine wp_seq ?_
      -- R21
      refine c_region ?_
      refine L1 rfl rfl H (y_move (v := (.pointer _)) rfl rfl) ?_
      refine L1 rfl rfl H (y_move (v := (.pointer _)) rfl rfl) ?_
      refine Lfn rfl rfl rfl (xa := [(.pointer _)]) rfl Try.call64 ?_   -- (*portage/wire.Writer).Done
      replace H := (H.pick 4 rfl).pick 4 rfl
      refine (done_calls H (by omega)).mono ?_
      rintro e w ⟨A65, c65, rfl, hc65, H⟩
      refine ⟨_, rfl, ?_⟩
      refine Lfn rfl rfl rfl (xa := [(.pointer _), (.slice _ _ _)]) rfl Try.call61 ?_   -- (*portage/wire.Writer).Raw
      replace H := (H.pick 4 rfl).pick 4 rfl
      refine (rawW_calls (b := [] ++ Dig.sum (bodyS img ts)) (m := bodyS img ts) hc12 H (rd_row (H.get 2 rfl)) (by simp only [List.length_nil, List.length_append]; rw [Dig.sum_length]; omega)).mono ?_
      rintro e w ⟨A12, c12, rfl, hc12, H⟩
      replace H : Heap w0 (wtr w0 g12 A12 c12 (signS (bodyS img ts)) []) w := H.sub (.cons_cons _ (.cons_cons _ (List.nil_sublist _)))
      replace hc12 : (signS (bodyS img ts)).length ≤ c12 := hc12
      refine ⟨_, rfl, ?_⟩
      refine e_list ?_; (repeat (first | (with_reducible first | refine e_then ?_ | refine e_block ?_ | refine e_then_ret ?_ | refine e_block_ret ?_ | refine e_then_exit ?_ | refine e_block_here ?_ | refine e_then_panic ?_ | refine e_block_panic ?_) | refine e_block_on rfl ?_))
      refine wp_seq ?_
      -- R22
      refine c_region ?_
      refine Lfn rfl rfl rfl (xa := []) rfl Try.call59 ?_   -- portage/wire.NewWriter
      refine (newWriter_calls H).mono ?_
      rintro e w ⟨g13, rfl, H⟩
      refine ⟨_, rfl, ?_⟩
      refine L1 rfl rfl H (y_assign (v := (.pointer _)) rfl rfl) ?_
      refine e_list ?_; (repeat (first | (with_reducible first | refine e_then ?_ | refine e_block ?_ | refine e_then_ret ?_ | refine e_block_ret ?_ | refine e_then_exit ?_ | refine e_block_here ?_ | refine e_then_panic ?_ | refine e_block_panic ?_) | refine e_block_on rfl ?_))
      refine wp_seq ?_
      -- R23
      refine c_region ?_
      refine L1 rfl rfl H (y_move (v := (.pointer _)) rfl rfl) ?_
      refine LbuildSlice (cs := markB.map bv) (e := 5) rfl rfl rfl H (fun w => by simp [Instr.buildSlice, Instr.fill, go_sem] <;> rfl) ?_; intro b69 w H
      refine LconvMark 0 rfl rfl rfl rfl H rfl Try.underlying22 Try.underlying5 ?_; intro w H
      refine Lfn rfl rfl rfl (xa := [(.pointer _), (.slice _ _ _)]) rfl Try.call61 ?_   -- (*portage/wire.Writer).Raw
      replace H := (H.pick 2 rfl).pick 2 rfl
      refine (rawW_calls (b := []) (m := markB) (Nat.zero_le _) H (rd_obj (cs := markB.map bv) H 2 rfl) (by decide)).mono ?_
      rintro e w ⟨A13, c13, rfl, hc13, H⟩
      refine ⟨_, rfl, ?_⟩
      refine e_list ?_; (repeat (first | (with_reducible first | refine e_then ?_ | refine e_block ?_ | refine e_then_ret ?_ | refine e_block_ret ?_ | refine e_then_exit ?_ | refine e_block_here ?_ | refine e_then_panic ?_ | refine e_block_panic ?_) | refine e_block_on rfl ?_))
      refine wp_seq ?_
      -- R24
      refine c_region ?_
      refine L1 rfl rfl H (y_move (v := (.pointer _)) rfl rfl) ?_
      refine L1 rfl rfl H (y_move (v := (.pointer _)) rfl rfl) ?_
      refine Lfn rfl rfl rfl (xa := [(.pointer _)]) rfl Try.call64 ?_   -- (*portage/wire.Writer).Done
      replace H := (H.pick 4 rfl).pick 4 rfl
      refine (done_calls H (by omega)).mono ?_
      rintro e w ⟨A74, c74, rfl, hc74, H⟩
      refine ⟨_, rfl, ?_⟩
      refine Lfn rfl rfl rfl (xa := [(.slice _ _ _)]) rfl Try.call66 ?_   -- portage/relay.sum
      refine (sum_calls (rd_row (H.get 0 rfl)) (by omega)).mono ?_
      rintro e w' ⟨rfl, K⟩
      replace H := H.app0 K
      clear K
      refine ⟨_, rfl, ?_⟩
      refine Lfn rfl rfl rfl (xa := [(.pointer _), (.int .u64 _)]) rfl Try.call65 ?_   -- (*portage/wire.Writer).Word
      replace H := (H.pick 4 rfl).pick 4 rfl
      refine (word_calls (b := [] ++ markB) (x := sumN (signS (bodyS img ts))) hsm hc13 H (by decide)).mono ?_
      rintro e w ⟨A13, c13, rfl, hc13, H⟩
      refine ⟨_, rfl, ?_⟩
      refine e_list ?_; (repeat (first | (with_reducible first | refine e_then ?_ | refine e_block ?_ | refine e_then_ret ?_ | refine e_block_ret ?_ | refine e_then_exit ?_ | refine e_block_here ?_ | refine e_then_panic ?_ | refine e_block_panic ?_) | refine e_block_on rfl ?_))
      refine wp_seq ?_
      -- R25
      refine c_region ?_
      refine L1 rfl rfl H (y_move (v := (.pointer _)) rfl rfl) ?_
      refine L1 rfl rfl H (y_move (v := (.pointer _)) rfl rfl) ?_
      refine Lfn rfl rfl rfl (xa := [(.pointer _)]) rfl Try.call64 ?_   -- (*portage/wire.Writer).Done
      replace H := (H.pick 4 rfl).pick 4 rfl
      refine (done_calls H (by omega)).mono ?_
      rintro e w ⟨A79, c79, rfl, hc79, H⟩
      refine ⟨_, rfl, ?_⟩
      refine Lfn rfl rfl rfl (xa := [(.pointer _), (.slice _ _ _)]) rfl Try.call61 ?_   -- (*portage/wire.Writer).Raw
      replace H := (H.pick 4 rfl).pick 4 rfl
      refine (rawW_calls (b := ([] ++ markB) ++ Dig.be8 (sumN (signS (bodyS img ts)))) (m := signS (bodyS img ts)) hc13 H (rd_row (H.get 2 rfl)) (by simp only [List.length_nil, List.length_append, Dig.be8_length]; show 0 + 4 + 8 + _ ≤ _; omega)).mono ?_
      rintro e w ⟨A13, c13, rfl, hc13, H⟩
      rw [List.append_assoc] at H hc13
      refine ⟨_, rfl, ?_⟩
      refine e_list ?_; (repeat (first | (with_reducible first | refine e_then ?_ | refine e_block ?_ | refine e_then_ret ?_ | refine e_block_ret ?_ | refine e_then_exit ?_ | refine e_block_here ?_ | refine e_then_panic ?_ | refine e_block_panic ?_) | refine e_block_on rfl ?_))
      refine wp_seq ?_
      -- R26
      refine c_region ?_
      refine L1 rfl rfl H (y_move (v := (.pointer _)) rfl rfl) ?_
      refine Lfn rfl rfl rfl (xa := [(.pointer _)]) rfl Try.call64 ?_   -- (*portage/wire.Writer).Done
      refine (done_calls (b := sealS (bodyS img ts)) H (by rw [sealS_length]; omega)).mono ?_
      rintro e w ⟨A82, c82, rfl, hc82, H⟩
      refine ⟨_, rfl, ?_⟩
      refine L1 rfl rfl H (y_assign (v := (.slice _ _ _)) rfl rfl) ?_
      refine L1 rfl rfl H (y_assign (v := (.int .i64 _)) rfl rfl) ?_
      refine e_list ?_; (repeat (first | (with_reducible first | refine e_then ?_ | refine e_block ?_ | refine e_then_ret ?_ | refine e_block_ret ?_ | refine e_then_exit ?_ | refine e_block_here ?_ | refine e_then_panic ?_ | refine e_block_panic ?_) | refine e_block_on rfl ?_))
      refine wp_ret ?_; (repeat (first | (with_reducible first | refine e_then ?_ | refine e_block ?_ | refine e_then_ret ?_ | refine e_block_ret ?_ | refine e_then_exit ?_ | refine e_block_here ?_ | refine e_then_panic ?_ | refine e_block_panic ?_) | refine e_block_on rfl ?_))
      refine r_2 (v1 := (.slice _ _ _)) (v2 := (.int .i64 _)) rfl rfl rfl ?_
      exact ⟨A82, c82, rfl, hc82, H.sub (L' := [rowB w0 A82 c82 (sealS (bodyS img ts))]) (.cons_cons _ (List.nil_sublist _))⟩
-- »parcel
end
end Go.Ref
