/-
  An argument that is a profile: what the row's reading says of its memory.
-/
import Derived.Test.YtjfifehofflaeaaHot0
import Derived.Test.YtjfifehofflaeaaCmp1
import Derived.Test.YtjfifehofflaeaaClose
import Derived.Deep.Slices
import Derived.ChangeSame
import Derived.Test.YtjfifehofflaeaaChecked
namespace Go.Pf
open Go.RowKit Go.Eng Go.Proofs Go.ChangeShapes Go.WideShapes Go.Deep
set_option linter.unusedSimpArgs false
set_option linter.unusedVariables false
theorem cellsProfile : Try.prog.cellsOf 45 = 1 := by kernel_rfl
theorem cellsLL : Try.prog.cellsOf 43 = 1 := by kernel_rfl
theorem cellsL : Try.prog.cellsOf 107 = 1 := by kernel_rfl
theorem cellsSpot : Try.prog.cellsOf 105 = 4 := by kernel_rfl
theorem cellsI64 : Try.prog.cellsOf 2 = 1 := by kernel_rfl
theorem cellsU16 : Try.prog.cellsOf 103 = 1 := by kernel_rfl
theorem cellsInt : Try.prog.cellsOf 3 = 1 := by kernel_rfl
theorem bytesL : Try.prog.bytesOf 107 = 24 := by kernel_rfl
theorem bytesSpot : Try.prog.bytesOf 105 = 24 := by kernel_rfl
/-- the numbers of a spot are in their ranges -/
structure SpR (s : Sp) : Prop where
  c : inR s.c
  a : 0 ≤ s.a ∧ s.a ≤ 65535
  b : 0 ≤ s.b ∧ s.b ≤ 65535
  k : inR s.k
theorem spR0 : SpR sp0 := ⟨by unfold inR sp0; simp, by decide, by decide, by unfold inR sp0; simp⟩
theorem wf_i64 {x : Int} (h : (Lit.int .i64 x).wf = true) : inR x := by
  unfold inR; simpa [Lit.wf, IntKind.min, IntKind.max, IntKind.signed, IntKind.bits] using h
theorem wf_u16 {x : Int} (h : (Lit.int .u16 x).wf = true) : 0 ≤ x ∧ x ≤ 65535 := by
  simpa [Lit.wf, IntKind.min, IntKind.max, IntKind.signed, IntKind.bits] using h
section
variable {H : Type} {enc : TypeId × Value → H} {W : World} {base : Nat} {sp : Nat → Bool} {held : Bool}
theorem weights_all_mem {P : Program} {e : TypeId} {d : DataW H} {n : Nat} : ∀ {ds : List (DataW H)}, d ∈ ds → n ∈ d.weights P e → n ∈ DataW.weightsAll P e ds
  | [], h, _ => by cases h
  | x :: ds, h, hn => by
    simp only [DataW.weightsAll, List.mem_append]
    rcases List.mem_cons.1 h with rfl | h
    · exact .inl hn
    · exact .inr (weights_all_mem h hn)
set_option maxRecDepth 100000 in
/-- a spot's cells -/
theorem open_spot {fuel : Nat} {cs : List Value} {x : DataW H × List MemPlace} (h : DataW.trod enc Try.prog W base sp held fuel 105 cs = some x) : ∃ s, SpR s ∧ cs = spV s := by
  obtain ⟨xs, n, _, _, hl, hlen, hf⟩ := DataW.trod_struct Try.underlying105 h
  rw [cellsSpot] at hl
  match cs, hl with
  | [v0, v1, v2, v3], _ =>
    have h0 := hf 0 _ rfl
    have h1 := hf 1 _ rfl
    have h2 := hf 2 _ rfl
    have h3 := hf 3 _ rfl
    have hx : xs.length = 4 := hlen
    match xs, hx with
    | [y0, y1, y2, y3], _ =>
      simp only [cellsI64, cellsU16, cellsInt, List.drop_zero, List.take_succ_cons, List.take_zero, List.drop_succ_cons, List.getElem?_cons_zero, List.getElem?_cons_succ] at h0 h1 h2 h3
      obtain ⟨c, e0, _, w0⟩ := DataW.trod_int Try.underlying2 h0
      obtain ⟨a, e1, _, w1⟩ := DataW.trod_int Try.underlying103 h1
      obtain ⟨b, e2, _, w2⟩ := DataW.trod_int Try.underlying103 h2
      obtain ⟨k, e3, _, w3⟩ := DataW.trod_int Try.underlying3 h3
      have e0' : v0 = .int .i64 c := by simpa [cellsI64] using e0
      have e1' : v1 = .int .u16 a := by simpa [cellsU16] using e1
      have e2' : v2 = .int .u16 b := by simpa [cellsU16] using e2
      have e3' : v3 = .int .i64 k := by simpa [cellsInt] using e3
      exact ⟨⟨c, a, b, k⟩, ⟨wf_i64 w0, wf_u16 w1, wf_u16 w2, wf_i64 w3⟩, by rw [e0', e1', e2', e3']; rfl⟩
set_option maxRecDepth 100000 in
/-- a list of spots -/
theorem open_spots {fuel : Nat} {v : Value} {x : DataW H × List MemPlace} (h : DataW.trod enc Try.prog W 0 (fun _ => true) true fuel 107 [v] = some x) (hw : ∀ n ∈ x.1.weights Try.prog 107, n ≤ reachBytes) :
    ∃ (B : Option Addr) (c : Nat) (l : List Sp), v = .slice B l.length c ∧ l.length ≤ c ∧ Rd W B (cellsV l) ∧ l.length ≤ 5864062014634 ∧ ∀ s ∈ l, SpR s := by
  rcases open_slice Try.underlying107 h with ⟨hcs, hx⟩ | ⟨a, len, cap, m, n, D, Pl, hcs, _, hl, hm, hme, hx, hel⟩
  · have hv : v = .slice none 0 0 := by simpa using hcs
    subst hv
    exact ⟨none, 0, [], rfl, Nat.le_refl _, Rd.nil _ _, Nat.zero_le _, by simp⟩
  · have hv : v = .slice (some a) len cap := by simpa using hcs
    subst hv
    simp only [if_true] at hme
    have hch : ∀ i, i < m → ∃ s : Sp, SpR s ∧ W.cells? 0 (a.add (i * 4)) 4 = some (spV s) := fun i hi => by
      obtain ⟨cs', h1, h2⟩ := hel i hi
      obtain ⟨s, hs, rfl⟩ := open_spot h2
      rw [cellsSpot] at h1
      exact ⟨s, hs, h1⟩
    obtain ⟨S, hS⟩ : ∃ S : Nat → Sp, ∀ i, i < m → SpR (S i) ∧ W.cells? 0 (a.add (i * 4)) 4 = some (spV (S i)) := by
      classical
      refine ⟨fun i => if hi : i < m then Classical.choose (hch i hi) else sp0, fun i hi => ?_⟩
      simp only [dif_pos hi]
      exact Classical.choose_spec (hch i hi)
    have hlen : ((List.range len).map S).length = len := by simp
    have hwt : (((List.range len).map D).length + ((List.range (m - len)).map fun j => D (len + j)).length) * 24 ≤ reachBytes := by
      refine hw _ ?_
      rw [hx]
      simp only [DataW.weights, Try.underlying107, bytesSpot]
      exact List.mem_cons_self ..
    simp only [List.length_map, List.length_range, reachBytes] at hwt
    refine ⟨some a, cap, (List.range len).map S, by rw [hlen], by rw [hlen]; exact hl, ⟨fun j y hy => ⟨a, rfl, ?_⟩⟩, by rw [hlen]; omega, fun s hs => ?_⟩
    · have hj : j < len * 4 := by have := (List.getElem?_eq_some_iff.1 hy).1; rw [cellsV_length, hlen] at this; exact this
      have e : j = j / 4 * 4 + j % 4 := by omega
      rw [e] at hy
      rw [cellsV_get _ _ _ (by rw [hlen]; omega) (by omega)] at hy
      have e2 : ((List.range len).map S).getD (j / 4) sp0 = S (j / 4) := by simp [List.getD_eq_getElem?_getD, show j / 4 < len by omega]
      rw [e2] at hy
      have hc := (World.cells?_some (hS (j / 4) (by omega)).2).2.2 (j % 4) (by omega)
      rw [hy, Addr.add_add] at hc
      rw [e]; exact hc
    · obtain ⟨i, hi, rfl⟩ := List.mem_map.1 hs
      exact (hS i (by have := List.mem_range.1 hi; omega)).1
set_option maxRecDepth 100000 in
/-- a profile -/
theorem open_profile {v : Value} {d : DataW H} {p : List MemPlace} {ts : List TypeId} {dsg : List (DataW H)} {j : Nat} {b0 : Nat} (hval : Value.okWide Try.prog W .any b0 45 v) (h : DataW.Trod enc Try.prog W 0 (fun _ => true) true 45 v d p)
    (hsz : (DataW.weightsEach Try.prog ts dsg).all (· ≤ reachBytes) = true) (hj : ts[j]? = some 45) (hd : dsg[j]? = some d) :
    ∃ (A : Option Addr) (cap : Nat) (fs : Fs) (B : Nat → Option Addr) (cc : Nat → Nat), v = .agg #[.slice A fs.length cap] ∧ PfRd W A fs B cc ∧ fs.length ≤ cap ∧ fs.length ≤ 5864062014634 ∧ (∀ i, i < fs.length → (fs.getD i []).length ≤ 5864062014634) ∧ (∀ i k, SpR (spotN fs i k)) := by
  simp only [Value.okWide, Try.underlying45] at hval
  obtain ⟨cs, rfl, hcs, _⟩ := hval
  rw [cellsProfile] at hcs
  obtain ⟨fuel, hf⟩ := h
  have hwt : ∀ n ∈ d.weights Try.prog 45, n ≤ reachBytes := fun n hn => by
    have := List.all_eq_true.1 hsz n (DataW.weights_mem_each hj hd n hn)
    simpa using this
  obtain ⟨y0, n, hx, hl, h0⟩ := trod_struct1 Try.underlying45 hf
  simp only [Prod.mk.injEq] at hx
  obtain ⟨rfl, rfl⟩ := hx
  have hc1 : (Value.agg cs).cells.toList = cs.toList := rfl
  rw [hc1] at h0 hl
  match hcl : cs.toList, (show cs.toList.length = 1 by simpa using hcs) with
  | [v0], _ =>
    rw [hcl] at h0
    have h0' : DataW.trod enc Try.prog W 0 (fun _ => true) true n 43 [v0] = some y0 := by
      have e : ((List.drop 0 [v0]).take (Try.prog.cellsOf 43)) = [v0] := by rw [cellsLL]; rfl
      rw [← e]; exact h0
    have hcs' : cs = #[v0] := by
      have : cs = cs.toList.toArray := by simp
      rw [this, hcl]
    subst hcs'
    have hwt2 : ∀ m ∈ y0.1.weights Try.prog 43, m ≤ reachBytes := fun m hm => hwt m (by
      simp only [DataW.weights, Try.underlying45, DataW.weightsEach, List.map_cons, List.map_nil, List.append_nil, Array.toList]
      exact hm)
    rcases open_slice1 Try.underlying43 cellsL h0' with ⟨hcs, hx⟩ | ⟨a, len, cap, m, n', V, D, Pl, hcs, _, hlc, hm, hme, hx, hel⟩
    · have hv : v0 = .slice none 0 0 := by simpa using hcs
      subst hv
      exact ⟨none, 0, [], fun _ => none, fun _ => 0, rfl, ⟨Rd.nil _ _, fun j hj => absurd hj (Nat.not_lt_zero _), fun j hj => absurd hj (Nat.not_lt_zero _)⟩, Nat.le_refl _, Nat.zero_le _, fun i hi => absurd hi (Nat.not_lt_zero _), fun i k => by rw [spot_out (fs := []) (by simp)]; exact spR0⟩
    · have hv : v0 = .slice (some a) len cap := by simpa using hcs
      subst hv
      simp only [if_true] at hme
      have hwo : ∀ q ∈ (DataW.slice ((List.range len).map D) ((List.range (m - len)).map fun j => D (len + j))).weights Try.prog 43, q ≤ reachBytes := by rw [hx] at hwt2; exact hwt2
      have hlen24 : len * 24 ≤ reachBytes := by
        have := hwo ((((List.range len).map D).length + ((List.range (m - len)).map fun j => D (len + j)).length) * 24) (by
          simp only [DataW.weights, Try.underlying43, bytesL]
          exact List.mem_cons_self ..)
        simp only [List.length_map, List.length_range] at this
        omega
      have hch : ∀ i, i < len → ∃ q : Option Addr × Nat × List Sp, V i = .slice q.1 q.2.2.length q.2.1 ∧ q.2.2.length ≤ q.2.1 ∧ Rd W q.1 (cellsV q.2.2) ∧ q.2.2.length ≤ 5864062014634 ∧ ∀ s ∈ q.2.2, SpR s := fun i hi => by
        obtain ⟨_, h2⟩ := hel i (by omega)
        obtain ⟨B, c, l, h3, h4, h5, h6, h7⟩ := open_spots h2 (fun q hq => hwo q (by
          simp only [DataW.weights, Try.underlying43]
          exact List.mem_cons_of_mem _ (List.mem_append_left _ (weights_all_mem (List.mem_map.2 ⟨i, List.mem_range.2 hi, rfl⟩) hq))))
        exact ⟨(B, c, l), h3, h4, h5, h6, h7⟩
      obtain ⟨S, hS⟩ : ∃ S : Nat → Option Addr × Nat × List Sp, ∀ i, i < len → V i = .slice (S i).1 (S i).2.2.length (S i).2.1 ∧ (S i).2.2.length ≤ (S i).2.1 ∧ Rd W (S i).1 (cellsV (S i).2.2) ∧ (S i).2.2.length ≤ 5864062014634 ∧ ∀ s ∈ (S i).2.2, SpR s := by
        classical
        refine ⟨fun i => if hi : i < len then Classical.choose (hch i hi) else (none, 0, []), fun i hi => ?_⟩
        simp only [dif_pos hi]
        exact Classical.choose_spec (hch i hi)
      obtain ⟨fs, hfs⟩ : ∃ fs : Fs, fs = (List.range len).map fun i => (S i).2.2 := ⟨_, rfl⟩
      have hfl : fs.length = len := by rw [hfs]; simp
      have hfg : ∀ i, i < len → fs.getD i [] = (S i).2.2 := fun i hi => by rw [hfs]; simp [List.getD_eq_getElem?_getD, hi]
      refine ⟨some a, cap, fs, fun i => (S i).1, fun i => (S i).2.1, by rw [hfl], ⟨⟨fun i y hy => ⟨a, rfl, ?_⟩⟩, fun i hi => ?_, fun i hi => ?_⟩, by rw [hfl]; exact hlc, ?_, fun i hi => ?_, fun i k => ?_⟩
      · have hi : i < len := by have := (List.getElem?_eq_some_iff.1 hy).1; simpa [hfl] using this
        obtain ⟨hc, _⟩ := hel i (by omega)
        rw [hc]
        rw [List.getElem?_map, List.getElem?_range (by rw [hfl]; exact hi)] at hy
        simp only [Option.map_some, Option.some.injEq] at hy
        rw [← hy, hfg i hi, (hS i hi).1]
      · rw [hfl] at hi; rw [hfg i hi]; exact (hS i hi).2.2.1
      · rw [hfl] at hi; rw [hfg i hi]; exact (hS i hi).2.1
      · rw [hfl]; simp only [reachBytes] at hlen24; omega
      · rw [hfl] at hi; rw [hfg i hi]; exact (hS i hi).2.2.2.1
      · by_cases hi : i < fs.length ∧ k < (fs.getD i []).length
        · have hil : i < len := by omega
          have hk := hi.2
          unfold spotN
          rw [hfg i hil] at hk ⊢
          rw [List.getD_eq_getElem?_getD, List.getElem?_eq_getElem hk]
          exact (hS i hil).2.2.2.2 _ (List.getElem_mem hk)
        · rw [spot_out hi]; exact spR0
end
end Go.Pf
