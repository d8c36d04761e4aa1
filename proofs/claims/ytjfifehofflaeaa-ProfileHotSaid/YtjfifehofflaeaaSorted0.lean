/-
  The program sorts numbers by how often they ran: the library's sort, by the kit's contracts.
-/
import Derived.Test.YtjfifehofflaeaaHotP1
import Derived.Shelf.SlSortCmp.NoneTotal
import Derived.Shelf.Lay
import Derived.Ground.SlsfProg
import Derived.Test.YtjfifehofflaeaaProg
namespace Go.Proofs
open Go.Shelf Go.RowKit
shelf_lay_g SlLaysF.n6 Slsf 6 at Try 122 as Try.sortL
shelf_lay_g SlLaysF0.n6 Slsf 6 at Try 122 as Try.sortN
end Go.Proofs
namespace Go.Pf
open Go.RowKit Go.Eng Go.Proofs Go.Shelf Go.Sort
set_option linter.unusedSimpArgs false
set_option linter.unusedVariables false
abbrev IR := { x : Int // inR x }
instance : Inhabited IR := ⟨⟨0, by unfold inR; omega⟩⟩
def ivR (x : IR) : Value := .int .i64 x.1
def cfR (cn : Int → Int) (x y : IR) : Int := orI (cmpI (cn y.1) (cn x.1)) (cmpI x.1 y.1)
def ltI (cn : Int → Int) (x y : Int) : Prop := cn y < cn x ∨ (cn x = cn y ∧ x < y)
theorem lt_iff {cn : Int → Int} {x y : IR} : ltOf (cfR cn) x y = true ↔ ltI cn x.1 y.1 := by
  unfold ltOf cfR orI cmpI ltI
  simp only [decide_eq_true_eq]
  repeat' split
  all_goals omega
theorem lt_false {cn : Int → Int} {x y : IR} : ltOf (cfR cn) x y = false ↔ ¬ ltI cn x.1 y.1 := by
  rw [← lt_iff]; cases ltOf (cfR cn) x y <;> simp
theorem swoR (cn : Int → Int) : SWO (ltOf (cfR cn)) where
  irrefl x := lt_false.2 (by unfold ltI; omega)
  trans x y z h1 h2 := lt_iff.2 (by have h1 := lt_iff.1 h1; have h2 := lt_iff.1 h2; unfold ltI at *; omega)
  ntrans x y z h1 h2 := lt_false.2 (by have h1 := lt_false.1 h1; have h2 := lt_false.1 h2; unfold ltI at *; omega)
theorem totR (cn : Int → Int) : ∀ x y, ltOf (cfR cn) x y = false → ltOf (cfR cn) y x = false → x = y := fun x y h1 h2 => Subtype.ext (by
  have h1 := lt_false.1 h1; have h2 := lt_false.1 h2; unfold ltI at *; omega)
section
variable {α : Type} [Inhabited α] {enc : α → Value} {w : World} {g n : Nat} {os : Array Obj} {cur : Array Value} {e : TypeId} {fr : Nat × Nat}
theorem heap_sw (d : Array α) (hb : w.heap[g]? = some (.cells cur e fr)) : (sortWorld enc w g 0 n d os).heap[g]? = some (.cells (putCells enc 0 d cur) e fr) := by
  have hg : g < w.heap.size := (Array.getElem?_eq_some_iff.1 hb).1
  unfold sortWorld
  rw [heap_grow_old _ _ (by simp [putRow, mapBlock, Sort.ahead]; exact hg)]
  simp [putRow, mapBlock, Sort.ahead, Array.getElem?_modify, hb, onCells]
theorem grownBy_sw (d : Array α) : w.grownBy (sortWorld enc w g 0 n d os) (some g) := by
  refine ⟨rfl, rfl, rfl, by simp [sortWorld, putRow, mapBlock, Sort.ahead], fun k hk hne => ?_⟩
  unfold sortWorld
  rw [heap_grow_old _ _ (by simp [putRow, mapBlock, Sort.ahead]; exact hk)]
  have : g ≠ k := fun e => hne (by rw [e])
  simp [putRow, mapBlock, Sort.ahead, Array.getElem?_modify, this]
theorem take_put (ts : List α) (h : ts.length ≤ cur.size) : (putCells enc 0 ts.toArray cur).toList.take ts.length = ts.map enc := by
  apply List.ext_getElem?
  intro j
  by_cases hj : j < ts.length
  · rw [List.getElem?_take_of_lt hj, Array.getElem?_toList]
    simp [putCells, hj, show j < cur.size by omega]
  · rw [List.getElem?_take_eq_none (by omega), List.getElem?_eq_none (by simp; omega)]
end
section
variable {w0 w : World} {L : List Ent}
theorem sort_calls {v : Value} {ss : List Int} {b5 bm q k5 km : Nat} {D : DataW Unit} {cn : Int → Int}
    (H : Heap w0 (Ent.row w0.heap.size 3 1 v ss.length (ss.map iv) :: L) w) (h5 : L[k5]? = some (Ent.blk b5 108 [.map (some bm)])) (hm : L[km]? = some (Ent.mapE Try.prog 3 2 bm q D))
    (hr : ∀ x ∈ ss, inR x) (hat : ∀ z, D.atKey (.int .i64 z) (.lit (.int .i64 0)) = .lit (.int .i64 (cn z))) (hlen : ss.length < 4611686018427387904) :
    Calls Try.prog 122 #[v, .func (.func 71) #[] #[.pointer (some ⟨b5, 0, none⟩)]] w fun e w' => e = .returned (.tuple #[]) ∧
      ∃ ts : List Int, ts.Perm ss ∧ ts.Pairwise (fun x y => ¬ ltI cn y x) ∧ Heap w0 (Ent.row w0.heap.size 3 1 v ts.length (ts.map iv) :: L) w' := by
  have hrow : w.ownsRow w0.heap.size 3 1 v ss.length (ss.map iv) := H.get 0 rfl
  rcases hrow.2 with ⟨rfl, hnil⟩ | ⟨g, cap, cur, rfl, hbg, hg, hnc, hcm, hcs, htake⟩
  · have hss : ss = [] := List.eq_nil_of_length_eq_zero (by simpa using hnil)
    subst hss
    have h := AnyF.slices_SortFunc_none Try.sortN Option.none 0 (.func (.func 71) #[] #[.pointer (some ⟨b5, 0, none⟩)]) w
    refine Calls.mono h fun e w' ⟨he, hw⟩ => ?_
    subst hw
    exact ⟨he, [], List.Perm.refl _, List.Pairwise.nil, H⟩
  · -- a block of the run's own
    have hgl : g < w.heap.size := (Array.getElem?_eq_some_iff.1 hg).1
    rw [Nat.mul_one] at htake hcs
    obtain ⟨sr, hsr⟩ : ∃ sr : List IR, sr.map Subtype.val = ss := ⟨ss.pmap Subtype.mk hr, by simp [List.map_pmap]⟩
    have hslen : sr.length = ss.length := by rw [← hsr, List.length_map]
    have henc : sr.map ivR = ss.map iv := by rw [← hsr, List.map_map]; rfl
    have hg0 : ∀ (k : Nat) (x : Ent), L[k]? = some x → g ∉ x.foot := fun k x hx hgx => by
      have h1 := H.nodup
      simp only [feet, List.flatMap_cons] at h1
      exact (List.nodup_append.1 h1).2.2 g (by simp [Ent.row, Value.ownBlock]) g (List.mem_flatMap.2 ⟨x, List.mem_of_getElem? hx, hgx⟩) rfl
    have hg5 : g ≠ b5 := fun e => hg0 k5 _ h5 (by simp [Ent.obj, e])
    have hgm : g ≠ bm := fun e => hg0 km _ hm (by simp [Ent.mapE, e])
    have h5l : b5 < w.heap.size := (H.new b5 (mem_feet (k := k5 + 1) (by simpa using h5) (by simp [Ent.obj]))).2
    have hown : w.ownsMap Try.prog 3 (plainElem Try.prog 2) bm q D := H.get (km + 1) (x := Ent.mapE Try.prog 3 2 bm q D) (by simpa using hm)
    have hcell : w.heap[b5]? = some (.cells [Value.map (some bm)].toArray 108 (0, 0)) := H.get (k5 + 1) (x := Ent.blk b5 108 [.map (some bm)]) (by simpa using h5)
    have hcmp : CmpLays1 Try.prog 71 #[.pointer (some ⟨b5, 0, none⟩)] ivR (cfR cn) g 0 sr.toArray.size w := by
      intro m os dk _ x y
      have hgr := grownBy_sw (enc := ivR) (w := w) (g := g) (n := m) (os := os) dk
      have h1 : (sortWorld ivR w g 0 m dk os).cell? ⟨b5, 0, none⟩ = some (.map (some bm)) := by
        have := hgr.block b5 h5l (fun e => hg5 (by simpa using e.symm))
        simp [World.cell?, this, hcell]
      have h2 := hown.kept hgr (fun e => hgm (by simpa using e.symm))
      refine (clo_calls (x := x.1) (y := y.1) (cn := cn) h1 h2 (fun z _ => hat z) x.2 y.2).mono ?_
      rintro e w' ⟨rfl, o, rfl⟩
      exact ⟨rfl, 0, #[o], by rw [alloc_eq_grow]; rfl⟩
    have hH : Holds ivR w g 0 sr.toArray := by
      intro j hj
      have hj' : j < sr.length := by simpa using hj
      refine ⟨?_, by simp [World.frozen?, hg]⟩
      have h1 : (cur.toList.take ss.length)[j]? = (sr.map ivR)[j]? := by rw [htake, henc]
      rw [List.getElem?_take_of_lt (by omega)] at h1
      simp only [World.cell?, hg, Nat.zero_add]
      simp only [Option.isSome_none, Bool.false_eq_true, if_false]
      rw [← Array.getElem?_toList, h1]
      simp [hj']
    have hcon := Any.slices_SortFunc_total Try.sortL ivR (fun _ => rfl) (cfR cn) (swoR cn) 71 #[.pointer (some ⟨b5, 0, none⟩)] g 0 cap sr.toArray w (enters_of Try.func71 (by kernel_rfl) rfl) hcmp hH hgl (by simpa [hslen] using hlen) (totR cn)
    rw [show sr.toArray.size = ss.length from by simp [hslen]] at hcon
    refine Calls.mono hcon fun e w' ⟨he, n, os, hw⟩ => ⟨he, ?_⟩
    subst hw
    obtain ⟨tr, htr⟩ : ∃ tr, tr = sr.mergeSort (fun x y => !(ltOf (cfR cn)) y x) := ⟨_, rfl⟩
    have hperm : tr.Perm sr := by rw [htr]; exact List.mergeSort_perm _ _
    have hpw : tr.Pairwise (fun x y => (!(ltOf (cfR cn)) y x) = true) := by
      rw [htr]
      refine List.pairwise_mergeSort (fun a b c h1 h2 => ?_) (fun a b => ?_) _
      · simp only [Bool.not_eq_true'] at *
        exact (swoR cn).ntrans c b a h2 h1
      · cases h1 : ltOf (cfR cn) b a with
        | false => simp
        | true =>
          have : ltOf (cfR cn) a b = false := lt_false.2 (by have := lt_iff.1 h1; unfold ltI at *; omega)
          simp [this]
    have htl : tr.length = ss.length := by rw [hperm.length_eq, hslen]
    have e1 : (sr.toArray.toList.mergeSort fun x y => !(ltOf (cfR cn)) y x) = tr := by rw [htr]
    rw [e1]
    refine ⟨tr.map Subtype.val, by rw [← hsr]; exact hperm.map _, List.pairwise_map.2 (hpw.imp fun {a b} h => by simpa using lt_false.1 (by simpa using h)), ?_⟩
    have hgr := grownBy_sw (enc := ivR) (w := w) (g := g) (n := n) (os := os) tr.toArray
    have hnew : (sortWorld ivR w g 0 n tr.toArray os).ownsRow w0.heap.size 3 1 (.slice (some ⟨g, 0, none⟩) ss.length cap) (tr.map Subtype.val).length ((tr.map Subtype.val).map iv) := by
      have el : (tr.map Subtype.val).length = ss.length := by rw [List.length_map, htl]
      rw [el]
      refine ⟨by simp [htl], .inr ⟨g, cap, _, rfl, hbg, heap_sw _ hg, hnc, hcm, by simp [putCells, hcs], ?_⟩⟩
      rw [Nat.mul_one, ← htl, take_put tr (by omega), List.map_map]
      rfl
    exact H.upd 0 rfl (y := Ent.row w0.heap.size 3 1 (.slice (some ⟨g, 0, none⟩) ss.length cap) (tr.map Subtype.val).length ((tr.map Subtype.val).map iv)) (fun b hb hne => hgr.block b hb (fun e => hne (by simp [Ent.row, Value.ownBlock]; simpa using e))) hgr.size hgr.os hgr.tape hgr.output hnew (by simp [Ent.row, Value.ownBlock]) (fun b hb => by
      have : b = g := by simpa [Ent.row, Value.ownBlock, eq_comm] using hb
      subst this
      exact ⟨.inl (by simp [Ent.row, Value.ownBlock]), Nat.lt_of_lt_of_le hgl hgr.size⟩)
end
end Go.Pf
