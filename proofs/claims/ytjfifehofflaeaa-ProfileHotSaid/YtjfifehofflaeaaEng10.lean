/-
  The engine, part 10: regions that draw, whose last step writes what the reads ahead of it read.
-/
import Derived.Test.YtjfifehofflaeaaEng9
namespace Go.Eng
open Go.RowKit
set_option linter.unusedSimpArgs false
set_option linter.unusedVariables false
section
variable {P : Program} {md : Region.Mode} {ops : Array Oper} {Q : Exit → Act → World → Prop} {C : World → Prop} {last : Nat}
/-- all orders; the class kept up to the last step -/
def wpAnyE (P : Program) (md : Region.Mode) (ops : Array Oper) (C : World → Prop) (last : Nat) (Q : Exit → Act → World → Prop) : Nat → Array Bool → Act → World → Prop
  | 0, listed, a, w => Region.ready md ops listed = [] ∧ Q .normal a w
  | fuel + 1, listed, a, w =>
    (Region.ready md ops listed = [] → Q .normal a w) ∧
    ∀ i ∈ Region.ready md ops listed, wpOp P ops Q i (fun a' w' => (i ≠ last → C w') ∧ wpAnyE P md ops C last Q fuel (listed.setIfInBounds i true) a' w') a w
theorem wpAny_of_E : ∀ (fuel : Nat) (listed : Array Bool) (a : Act) (w : World), wpAnyE P md ops C last Q fuel listed a w → wpAny P md ops Q fuel listed a w
  | 0, _, _, _, h => h
  | fuel + 1, listed, a, w, h => ⟨h.1, fun i hi => wpOp_mono (fun a' w' h' => wpAny_of_E fuel _ a' w' h'.2) (h.2 i hi)⟩
theorem wpAnyE_first {i : Nat} {oi : Oper} {v : Value} (hi : ops[i]? = some oi) (hsel : ∀ (j : Nat) (o : Oper) cs b, ops[j]? = some o → o.op ≠ .select cs b) (hQ : PanicOk Q)
    (hlast : ∀ ol, ops[last]? = some ol → ∃ e ∈ ol.after, Region.binds md e = true ∧ e.on = i) (hil : i ≠ last) :
    ∀ (fuel : Nat) (listed : Array Bool) (a : Act) (w : World),
      (∀ j oj, ops[j]? = some oj → j ≠ i → listed.getD j true = false → (∀ e ∈ oj.after, Region.binds md e = true → e.on ≠ i) → oi.apart ops oj = true) →
      i ∈ Region.ready md ops listed → C w → Yc P ops C oi v a →
      wpAnyE P md ops C last Q fuel (listed.setIfInBounds i true) (a.put oi.dst v) w → wpAnyE P md ops C last Q (fuel + 1) listed a w := by
  intro fuel
  induction fuel with
  | zero =>
    intro listed a w _ hr hC hy H
    refine ⟨fun h => (by rw [h] at hr; cases hr), fun j hj => ?_⟩
    by_cases hji : j = i
    · subst hji; exact hy.step hi hC ⟨fun _ => hC, H⟩
    · have := ready_mono hj hji
      rw [H.1] at this
      cases this
  | succ fuel ih =>
    intro listed a w hfree hr hC hy H
    refine ⟨fun h => (by rw [h] at hr; cases hr), fun j hj => ?_⟩
    by_cases hji : j = i
    · subst hji; exact hy.step hi hC ⟨fun _ => hC, H⟩
    · have h1 := H.2 j (ready_mono hj hji)
      obtain ⟨hjun, oj, hoj, hall⟩ := mem_ready.1 hj
      have hnot : ∀ e ∈ oj.after, Region.binds md e = true → e.on ≠ i := fun e he hb heq => by
        have h1 := hall e he hb
        have h0 := (mem_ready.1 hr).1
        rw [heq] at h1
        rcases Nat.lt_or_ge i listed.size with h' | h'
        · simp [h'] at h0 h1; rw [h0] at h1; cases h1
        · simp [Array.getElem?_eq_none h'] at h1
      have hjl : j ≠ last := fun h => by
        subst h
        obtain ⟨e, he, hb, heq⟩ := hlast oj hoj
        exact hnot e he hb heq
      have h2 := wpOp_behind hoj (hfree j oj hoj hji hjun hnot) (fun cs b => hsel i oi cs b hi) (fun cs b => hsel j oj cs b hoj) hQ hy h1
      have hfree' : ∀ k ok, ops[k]? = some ok → k ≠ i → (listed.setIfInBounds j true).getD k true = false →
          (∀ e ∈ ok.after, Region.binds md e = true → e.on ≠ i) → oi.apart ops ok = true := fun k ok hk hki hun hno => by
        refine hfree k ok hk hki ?_ hno
        by_cases hjk : j = k
        · subst hjk; exact hjun
        · rw [getD_set_ne true hjk] at hun; exact hun
      refine wpOp_mono (fun a' w' h3 => ⟨h3.2.1, ih (listed.setIfInBounds j true) a' w' hfree' (ready_mono hr (Ne.symm hji)) (h3.2.1 hjl) h3.1 ?_⟩) h2
      rw [Array.setIfInBounds_comm _ _ hji]
      exact h3.2.2
def wpMixE (P : Program) (ops : Array Oper) (C : World → Prop) (Q : Exit → Act → World → Prop) : List Bool → List Oper → Act → World → Prop
  | _, [], a, w => Q .normal a w
  | [], _ :: _, _, _ => False
  | true :: ks, o :: rest, a, w => ∃ v, Yc P ops C o v a ∧ wpMixE P ops C Q ks rest (a.put o.dst v) w
  | false :: ks, o :: rest, a, w => wpList P ops (Exit.then (fun a' w' => (rest ≠ [] → C w') ∧ wpMixE P ops C Q ks rest a' w') Q) [o] a w
def afterB (md : Region.Mode) (ops : Array Oper) (last k : Nat) : Bool := match ops[last]? with
  | some o => o.after.any (fun e => Region.binds md e && Nat.beq e.on k)
  | none => true
def mixFromE (md : Region.Mode) (ops : Array Oper) (last : Nat) : List Bool → Nat → Array Bool → Bool
  | [], _, listed => (Region.ready md ops listed).isEmpty
  | true :: ks, k, listed => (Region.ready md ops listed).contains k && Region.free md ops listed k && (afterB md ops last k && !Nat.beq k last) && mixFromE md ops last ks (k + 1) (listed.setIfInBounds k true)
  | false :: ks, k, listed => decide (Region.ready md ops listed = [k]) && (!ks.isEmpty || Nat.beq k last) && mixFromE md ops last ks (k + 1) (listed.setIfInBounds k true)
def mixEB (md : Region.Mode) (ops : Array Oper) (ks : List Bool) : Bool := Region.noSelect ops && decide (ks.length = ops.size) && mixFromE md ops (ops.size - 1) ks 0 (Array.replicate ops.size false)
theorem afterB_spec {k : Nat} (h : afterB md ops last k = true) : ∀ ol, ops[last]? = some ol → ∃ e ∈ ol.after, Region.binds md e = true ∧ e.on = k := by
  intro ol ho
  unfold afterB at h
  rw [ho] at h
  simp only [List.any_eq_true, Array.any_eq_true', Bool.and_eq_true] at h
  obtain ⟨e, he, h1, h2⟩ := h
  exact ⟨e, he, h1, Nat.eq_of_beq_eq_true h2⟩
theorem wpAnyE_mix (hs : Region.noSelect ops = true) (hQ : PanicOk Q) : ∀ (ks : List Bool) (l : List Oper) (k : Nat) (listed : Array Bool) (a : Act) (w : World), (∀ j, l[j]? = ops[k + j]?) → ks.length = l.length →
    mixFromE md ops last ks k listed = true → (l ≠ [] → C w) → wpMixE P ops C Q ks l a w → wpAnyE P md ops C last Q l.length listed a w
  | [], [], k, listed, a, w, _, _, hB, _, h => ⟨by simpa [mixFromE] using hB, by simpa [wpMixE] using h⟩
  | [], _ :: _, _, _, _, _, _, hl, _, _, _ => by simp at hl
  | _ :: _, [], _, _, _, _, _, hl, _, _, _ => by simp at hl
  | true :: ks, o :: l, k, listed, a, w, hl, hlen, hB, hC, h => by
    have h0 : ops[k]? = some o := by simpa using (hl 0).symm
    simp only [mixFromE, Bool.and_eq_true, Bool.not_eq_true'] at hB
    obtain ⟨v, hy, hK⟩ := h
    exact wpAnyE_first h0 (Region.noSelect_spec hs) hQ (afterB_spec hB.1.2.1) (Nat.ne_of_beq_eq_false hB.1.2.2) l.length listed a w (Region.free_spec h0 hB.1.1.2) (by simpa using hB.1.1.1) (hC (by simp)) hy
      (wpAnyE_mix hs hQ ks l (k + 1) _ _ _ (fun j => by have := hl (j + 1); simpa [Nat.add_assoc, Nat.add_comm 1 j] using this) (by simpa using hlen) hB.2 (fun _ => hC (by simp)) hK)
  | false :: ks, o :: l, k, listed, a, w, hl, hlen, hB, hC, h => by
    have h0 : ops[k]? = some o := by simpa using (hl 0).symm
    simp only [mixFromE, Bool.and_eq_true, decide_eq_true_eq] at hB
    refine ⟨fun h1 => (by rw [hB.1.1] at h1; cases h1), fun i hi => ?_⟩
    rw [hB.1.1] at hi
    have hik : i = k := by simpa using hi
    subst hik
    refine wpOp_mono (fun a' w' h' => ⟨fun hne => h'.1 (fun hl0 => ?_), wpAnyE_mix hs hQ ks l (i + 1) _ a' w' (fun j => by have := hl (j + 1); simpa [Nat.add_assoc, Nat.add_comm 1 j] using this) (by simpa using hlen) hB.2 h'.1 h'.2⟩) (wpOp_of_list h0 h)
    subst hl0
    have hks : ks = [] := List.length_eq_zero_iff.1 (by simpa using hlen)
    subst hks
    exact hne (Nat.eq_of_beq_eq_true (by simpa using hB.1.2))

variable {w0 w : World} {L : List Ent} {n : Nat} {f : Nat → Value} {ds : List Deferred}
theorem c_mixE {id : Nat} {l : List Oper} (ks : List Bool) (C : World → Prop) (hm : P.follows .mixedOrders = true) (hB : mixEB .any l.toArray ks = true) (hQ : PanicOk Q) (H : Heap w0 L w)
    (h : ∀ w', Heap w0 L w' → C w' ∧ wpMixE P l.toArray C Q ks l (AA n f ds) w') : (Code.region id l.toArray true).wp P Q (AA n f ds) w := by
  simp only [mixEB, Bool.and_eq_true, decide_eq_true_eq] at hB
  obtain ⟨hC, hw⟩ := h _ (H.drawn (w.drawn + 1))
  refine wp_region_any hm (wpAny_of_E (C := C) (last := l.toArray.size - 1) _ _ _ _ ?_)
  have := wpAnyE_mix (md := .any) hB.1.1 hQ ks l 0 _ _ _ (by simp) (by simpa using hB.1.2) hB.2 (fun _ => hC) hw
  simpa using this
theorem N1 {o : Oper} {d : Nat} {v : Value} {rest : List Oper} {ks : List Bool} (hg : o.guard = none) (hd : o.dst = some d) (h : Gives P C o (ev n f) v) (k : wpMixE P ops C Q ks rest (AA n (up f d v) ds) w) : wpMixE P ops C Q (true :: ks) (o :: rest) (AA n f ds) w :=
  ⟨v, .inl ⟨by simp [Region.wanted, hg], fun w hw => by rw [eval_AA]; exact h w hw⟩, by rw [hd, put_AA]; exact k⟩
theorem N2 {o : Oper} {rest : List Oper} {ks : List Bool} (h : wpList P ops (Exit.then (fun a' w' => (rest ≠ [] → C w') ∧ wpMixE P ops C Q ks rest a' w') Q) [o] (AA n f ds) w) : wpMixE P ops C Q (false :: ks) (o :: rest) (AA n f ds) w := h
theorem Nend {a : Act} (h : Q .normal a w) : wpMixE P ops C Q [] [] a w := h
end
end Go.Eng
