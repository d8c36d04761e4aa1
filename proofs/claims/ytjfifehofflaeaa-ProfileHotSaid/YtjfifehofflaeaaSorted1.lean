/-
  The program: keys collected and sorted; the functions that ran most.
-/
import Derived.Test.YtjfifehofflaeaaSorted0
import Derived.Shelf.SlIterI.Collect
import Derived.Ground.GgzProg
namespace Go.Proofs
open Go.Shelf Go.RowKit
shelf_lay_g SlLaysZI.n7 Ggz 7 at Try 70 as Try.keysZ
shelf_lay_g SlLaysZI.n8 Ggz 8 at Try 121 as Try.collectZ
end Go.Proofs
namespace Go.Pf
open Go.RowKit Go.Eng Go.Proofs
set_option linter.unusedSimpArgs false
set_option linter.unusedVariables false
attribute [local irreducible] wpList wpQuiet wpStill wpMix wpMixE

theorem heap_of_row {w w' : World} {e sz n : Nat} {v : Value} {xs : List Value} (hb : Below w.heap.size w w') (hr : w'.ownsRow w.heap.size e sz v n xs) : Heap w [Ent.row w.heap.size e sz v n xs] w' := by
  refine ⟨?_, ?_, ?_, hb⟩
  · simp only [feet, List.flatMap_cons, List.flatMap_nil, List.append_nil, Ent.row]
    cases v.ownBlock <;> simp
  · intro b hb'
    simp only [feet, List.flatMap_cons, List.flatMap_nil, List.append_nil, Ent.row, Option.mem_toList] at hb'
    rcases hr.2 with ⟨rfl, _⟩ | ⟨g, cap, cur, rfl, hbg, hg, _⟩
    · simp [Value.ownBlock] at hb'
    · have : g = b := by simpa [Value.ownBlock] using hb'
      subst this
      exact ⟨hbg, (Array.getElem?_eq_some_iff.1 hg).1⟩
  · intro x hx
    have : x = Ent.row w.heap.size e sz v n xs := by simpa using hx
    subst this
    exact hr
section
variable {w0 w : World} {R L : List Ent} {A : Option Addr} {fs : Fs} {B : Nat → Option Addr} {cc : Nat → Nat} {cap : Nat}
theorem collect_calls {b1 bm q k1 km : Nat} {D : DataW Unit} (H : Heap w0 L w) (h1 : L[k1]? = some (Ent.blk b1 108 [.map (some bm)])) (hm : L[km]? = some (Ent.mapE Try.prog 3 2 bm q D)) (hq : q ≤ 6000000000000) :
    Calls Try.prog 121 #[.func (.func 123) #[] #[.pointer (some ⟨b1, 0, none⟩)]] w fun e w' => ∃ (v : Value) (ss : List Int), e = .returned v ∧ ss.Perm (intKeys D) ∧ Heap w [Ent.row w.heap.size 3 1 v ss.length (ss.map iv)] w' := by
  have hown : w.ownsMap Try.prog 3 (plainElem Try.prog 2) bm q D := H.get km hm
  have hc : w.heap[b1]? = some (.cells [Value.map (some bm)].toArray 108 (0, 0)) := H.get k1 h1
  have hlt : b1 < w.heap.size := (Array.getElem?_eq_some_iff.1 hc).1
  have hcell : w.cell? ⟨b1, 0, none⟩ = some (.map (some bm)) := by simp [World.cell?, hc]
  have hsz := hown.size_le
  have hseq : SeqGives Fence.wide 2 Try.prog 123 #[.pointer (some ⟨b1, 0, none⟩)] encZ (fun ss => ss.Perm (intKeys D)) (Maps.size D) w :=
    AnyZI.keys_gives (ρ := Try.keysZ_ren) { Try.keysZ with } Fence.wide _ trivial rfl (by omega) b1 bm q D w hlt hcell hown
  have cC := AnyZI.collect_in Try.collectZ Fence.wide 4 trivial trivial rfl (by omega) 123 #[.pointer (some ⟨b1, 0, none⟩)] trivial (enters_of Try.func123 (by kernel_rfl) rfl) _ (Maps.size D) (by simp only [maxLen]; omega) (by omega) w hseq
  refine ((callsIn_wide (n := 4)).1 cC).mono ?_
  rintro e w' ⟨v, ss, rfl, hS, hrow, _, hb⟩
  exact ⟨v, ss, rfl, hS, heap_of_row hb hrow⟩
end
section
variable {w0 w : World} {R : List Ent} {A : Option Addr} {fs : Fs} {B : Nat → Option Addr} {cc : Nat → Nat} {cap : Nat}
-- «sortedFunc»
/-- what was collected are the numbers that ran often enough -/
theorem keys_of {c : Nat → Int} {least : Int} {n q bm : Nat} {D : DataW Unit} {ss : List Int} {W : World} (hM : MapOk c least n D) (hown : W.ownsMap Try.prog 3 (plainElem Try.prog 2) bm q D) (hS : ss.Perm (intKeys D)) (hn : n ≤ 6000000000000) :
    (∀ x ∈ ss, inR x) ∧ (∀ x : Int, x ∈ ss ↔ ∃ y : Nat, x = y ∧ y < n ∧ least ≤ c y) ∧ ss.length ≤ n ∧ ss.Nodup := by
  obtain ⟨es, hD, hpw, _⟩ := hown.entries keyedI
  obtain ⟨es', hD', hko⟩ := hown.keysOf
  obtain rfl : es = es' := by rw [hD] at hD'; simpa using hD'
  subst hD
  have hm2 : ∀ x : Int, x ∈ ((List.range n).filter (fun y => decide (least ≤ c y))).map (fun y : Nat => (y : Int)) ↔ ∃ y : Nat, x = y ∧ y < n ∧ least ≤ c y := fun x => by
    simp only [List.mem_map, List.mem_filter, List.mem_range, decide_eq_true_eq]
    exact ⟨fun ⟨y, ⟨h1, h2⟩, h3⟩ => ⟨y, h3.symm, h1, h2⟩, fun ⟨y, h1, h2, h3⟩ => ⟨y, ⟨h2, h3⟩, h1.symm⟩⟩
  have hnd : (((List.range n).filter (fun y => decide (least ≤ c y))).map (fun y : Nat => (y : Int))).Nodup :=
    List.pairwise_map.2 ((List.nodup_range.filter _).imp fun {a b} h e => h (by omega))
  have hp := perm_intKeys hpw (fun p hp => by obtain ⟨v, hv⟩ := hko p hp; obtain ⟨x, _, hx, _⟩ := Maps.keyOf_i64 Try.underlying3 hv; exact ⟨x, hx⟩) hnd (fun x => by rw [hm2 x, hM.hs x])
  have hss := hS.trans hp.symm
  have hmem : ∀ x : Int, x ∈ ss ↔ ∃ y : Nat, x = y ∧ y < n ∧ least ≤ c y := fun x => by rw [hss.mem_iff]; exact hm2 x
  refine ⟨fun x hx => by obtain ⟨y, rfl, h1, _⟩ := (hmem x).1 hx; unfold inR; omega, hmem, ?_, hss.nodup_iff.2 hnd⟩
  rw [hss.length_eq, List.length_map]
  have h9 := List.length_filter_le (fun y => decide (least ≤ c y)) (List.range n)
  rw [List.length_range] at h9
  exact h9
theorem hot_of {c : Nat → Int} {least : Int} {n : Nat} {ss ts : List Int} (hp : ts.Perm ss) (hpw : ts.Pairwise (fun x y => ¬ ltI (cnN c least n) y x)) (hm : ∀ x : Int, x ∈ ss ↔ ∃ y : Nat, x = y ∧ y < n ∧ least ≤ c y) (hn : ss.length ≤ n ∧ ss.Nodup) :
    ∃ l : List Nat, ts = l.map (fun y : Nat => (y : Int)) ∧ HotOk c n least l := by
  have hmt : ∀ x : Int, x ∈ ts ↔ ∃ y : Nat, x = y ∧ y < n ∧ least ≤ c y := fun x => by rw [hp.mem_iff]; exact hm x
  have hnd : ts.Nodup := hp.nodup_iff.2 hn.2
  have e : ts = (ts.map Int.toNat).map (fun y : Nat => (y : Int)) := by
    rw [List.map_map]
    conv => lhs; rw [← List.map_id ts]
    refine List.map_congr_left fun x hx => ?_
    obtain ⟨y, rfl, _⟩ := (hmt x).1 hx
    simp
  have hcn : ∀ y : Nat, y < n → least ≤ c y → cnN c least n (y : Int) = c y := fun y h1 h2 => by
    unfold cnN
    rw [if_pos ⟨by omega, by simpa using h1, by simpa using h2⟩]
    simp
  refine ⟨ts.map Int.toNat, e, ?_, fun x => ?_⟩
  · refine List.pairwise_map.2 (List.Pairwise.imp_of_mem (fun {a b} ha hb h => ?_) (List.pairwise_and_iff.2 ⟨hpw, hnd⟩))
    obtain ⟨y, rfl, h1, h2⟩ := (hmt a).1 ha
    obtain ⟨z, rfl, h3, h4⟩ := (hmt b).1 hb
    obtain ⟨h5, h6⟩ := h
    unfold ltI at h5
    rw [hcn y h1 h2, hcn z h3 h4] at h5
    have h7 : y ≠ z := fun e => h6 (by rw [e])
    simp only [Int.toNat_natCast]
    unfold before
    omega
  · rw [List.mem_map]
    constructor
    · rintro ⟨a, ha, rfl⟩
      obtain ⟨y, rfl, h1, h2⟩ := (hmt a).1 ha
      exact ⟨by simpa using h1, by simpa using h2⟩
    · rintro ⟨h1, h2⟩
      exact ⟨(x : Int), (hmt x).2 ⟨x, rfl, h1, h2⟩, by simp⟩
theorem sortedFunc_calls {b1 b5 bm q n : Nat} {D : DataW Unit} {c : Nat → Int} {least : Int} (H : Heap w0 (Ent.blk b1 108 [.map (some bm)] :: Ent.blk b5 108 [.map (some bm)] :: Ent.mapE Try.prog 3 2 bm q D :: R) w) (hM : MapOk c least n D) (hn : n ≤ 6000000000000) (hq : q ≤ 6000000000000) :
    Calls Try.prog 69 #[.func (.func 123) #[] #[.pointer (some ⟨b1, 0, none⟩)], .func (.func 71) #[] #[.pointer (some ⟨b5, 0, none⟩)]] w fun e w' => ∃ (v : Value) (ts : List Int), e = .returned v ∧ (∃ l : List Nat, ts = l.map (fun y : Nat => (y : Int)) ∧ HotOk c n least l) ∧ Heap w0 (Ent.row w0.heap.size 3 1 v ts.length (ts.map iv) :: Ent.blk b1 108 [.map (some bm)] :: Ent.blk b5 108 [.map (some bm)] :: Ent.mapE Try.prog 3 2 bm q D :: R) w' := by
  refine c_enter (xa := [.func (.func 123) #[] #[.pointer (some ⟨b1, 0, none⟩)], .func (.func 71) #[] #[.pointer (some ⟨b5, 0, none⟩)]]) 12 Try.func69 rfl rfl rfl ?_
  refine wp_seq ?_
  -- R0
  refine c_region ?_
  refine L1 rfl rfl H (y_assign (v := (.slice _ _ _)) rfl rfl) ?_
  refine e_list ?_; (repeat (first | (with_reducible first | refine e_then ?_ | refine e_block ?_ | refine e_then_ret ?_ | refine e_block_ret ?_ | refine e_then_exit ?_ | refine e_block_here ?_ | refine e_then_panic ?_ | refine e_block_panic ?_) | refine e_block_on rfl ?_))
  refine wp_seq ?_
  -- R1
  refine c_region ?_
  refine L1 rfl rfl H (y_move (v := .func (.func 123) #[] #[.pointer (some ⟨b1, 0, none⟩)]) rfl rfl) ?_
  refine Lfn rfl rfl rfl (xa := [.func (.func 123) #[] #[.pointer (some ⟨b1, 0, none⟩)]]) rfl Try.call121 ?_   -- slices.Collect[int]
  refine (collect_calls (k1 := 0) (km := 2) H rfl rfl hq).mono ?_
  rintro e w' ⟨v, ss, rfl, hS, K⟩
  replace H := H.app_row K
  clear K
  refine ⟨v, rfl, ?_⟩
  refine L1 rfl rfl H (y_assign (v := v) rfl rfl) ?_
  refine e_list ?_; (repeat (first | (with_reducible first | refine e_then ?_ | refine e_block ?_ | refine e_then_ret ?_ | refine e_block_ret ?_ | refine e_then_exit ?_ | refine e_block_here ?_ | refine e_then_panic ?_ | refine e_block_panic ?_) | refine e_block_on rfl ?_))
  refine wp_seq ?_
  -- R2
  refine c_region ?_
  refine L1 rfl rfl H (y_move (v := v) rfl rfl) ?_
  refine L1 rfl rfl H (y_move (v := .func (.func 71) #[] #[.pointer (some ⟨b5, 0, none⟩)]) rfl rfl) ?_
  refine Lfn rfl rfl rfl (xa := [v, .func (.func 71) #[] #[.pointer (some ⟨b5, 0, none⟩)]]) rfl Try.call122 ?_   -- slices.SortFunc[[]int,int]
  obtain ⟨hsr, hsm, hsn⟩ := keys_of hM (H.get 3 (x := Ent.mapE Try.prog 3 2 bm q D) rfl) hS hn
  refine (sort_calls (k5 := 1) (km := 2) (cn := cnN c least n) H rfl rfl hsr hM.cn (by omega)).mono ?_
  rintro e w ⟨rfl, ts, hp, hpw, H⟩
  refine ⟨_, rfl, ?_⟩
  refine e_list ?_; (repeat (first | (with_reducible first | refine e_then ?_ | refine e_block ?_ | refine e_then_ret ?_ | refine e_block_ret ?_ | refine e_then_exit ?_ | refine e_block_here ?_ | refine e_then_panic ?_ | refine e_block_panic ?_) | refine e_block_on rfl ?_))
  refine wp_seq ?_
  -- R3
  refine c_region ?_
  refine L1 rfl rfl H (y_move (v := v) rfl rfl) ?_
  refine L1 rfl rfl H (y_assign (v := v) rfl rfl) ?_
  refine e_list ?_; (repeat (first | (with_reducible first | refine e_then ?_ | refine e_block ?_ | refine e_then_ret ?_ | refine e_block_ret ?_ | refine e_then_exit ?_ | refine e_block_here ?_ | refine e_then_panic ?_ | refine e_block_panic ?_) | refine e_block_on rfl ?_))
  refine wp_ret ?_; (repeat (first | (with_reducible first | refine e_then ?_ | refine e_block ?_ | refine e_then_ret ?_ | refine e_block_ret ?_ | refine e_then_exit ?_ | refine e_block_here ?_ | refine e_then_panic ?_ | refine e_block_panic ?_) | refine e_block_on rfl ?_))
  refine r_1 (v := v) rfl rfl ?_
  exact ⟨v, ts, rfl, hot_of hp hpw hsm hsn, H⟩
-- »sortedFunc
end
end Go.Pf
