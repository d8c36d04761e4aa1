/-
  The engine, part 5: a region that draws its order and turns memory in between: what is quiet in a class of worlds may be read first.
-/
import Derived.Test.YtjfifehofflaeaaEng4
namespace Go.Eng
open Go.RowKit
set_option linter.unusedSimpArgs false
set_option linter.unusedVariables false

section
variable {P : Program} {md : Region.Mode} {ops : Array Oper} {Q : Exit → Act → World → Prop} {C : World → Prop}

/-- in every world of the class the operation gives v -/
def Yc (P : Program) (ops : Array Oper) (C : World → Prop) (o : Oper) (v : Value) (a : Act) : Prop :=
  (Region.wanted o (yielded ops a.tmps) = true ∧ ∀ w, C w → (execOp a.eval o).run P w = .ok (.value v) w) ∨ (Region.wanted o (yielded ops a.tmps) = false ∧ v = undef)
theorem Yc.same {o : Oper} {v : Value} {a a' : Act} (h : Yc P ops C o v a) (he : execOp a'.eval o = execOp a.eval o) (hw : Region.wanted o (yielded ops a'.tmps) = Region.wanted o (yielded ops a.tmps)) : Yc P ops C o v a' := by
  unfold Yc at *; rw [he, hw]; exact h
theorem Yc.step {i : Nat} {o : Oper} {v : Value} {a : Act} {w : World} (hi : ops[i]? = some o) (hy : Yc P ops C o v a) (hC : C w) {K : Act → World → Prop} (h : K (a.put o.dst v) w) : wpOp P ops Q i K a w := by
  unfold wpOp
  simp only [hi]
  rcases hy with ⟨hw, hv⟩ | ⟨hw, rfl⟩
  · simp only [hw, if_true, Oper.wp, hv w hC, Oper.upon]; exact .inl h
  · simp only [hw, Bool.false_eq_true, if_false]; exact h

/-- all orders, the class kept -/
def wpAnyC (P : Program) (md : Region.Mode) (ops : Array Oper) (C : World → Prop) (Q : Exit → Act → World → Prop) : Nat → Array Bool → Act → World → Prop
  | 0, listed, a, w => Region.ready md ops listed = [] ∧ Q .normal a w
  | fuel + 1, listed, a, w =>
    (Region.ready md ops listed = [] → Q .normal a w) ∧
    ∀ i ∈ Region.ready md ops listed, wpOp P ops Q i (fun a' w' => C w' ∧ wpAnyC P md ops C Q fuel (listed.setIfInBounds i true) a' w') a w
theorem wpAny_of_C : ∀ (fuel : Nat) (listed : Array Bool) (a : Act) (w : World), wpAnyC P md ops C Q fuel listed a w → wpAny P md ops Q fuel listed a w
  | 0, _, _, _, h => h
  | fuel + 1, listed, a, w, h => ⟨h.1, fun i hi => wpOp_mono (fun a' w' h' => wpAny_of_C fuel _ a' w' h'.2) (h.2 i hi)⟩

/-- what a panic leaves does not hang on the slots -/
def PanicOk (Q : Exit → Act → World → Prop) : Prop := ∀ ch a d v w, Q (.panic ch) (Act.put a d v) w → Q (.panic ch) a w
theorem pk_body {fn : Func} {R : Ending → World → Prop} : PanicOk (bodyPost P fn R) := fun ch a d v w h => ⟨by have := h.1; cases d <;> exact this, h.2⟩
theorem pk_then {next : Act → World → Prop} (h : PanicOk Q) : PanicOk (Exit.then next Q) := fun ch a d v w => h ch a d v w
theorem pk_block {i : Nat} (h : PanicOk Q) : PanicOk (Exit.inBlock i Q) := fun ch a d v w => h ch a d v w

theorem wpOp_behind {j : Nat} {oi oj : Oper} {v : Value} (hj : ops[j]? = some oj) (hap : oi.apart ops oj = true) (hsi : ∀ cs b, oi.op ≠ .select cs b) (hsj : ∀ cs b, oj.op ≠ .select cs b)
    (hQ : PanicOk Q) {K : Act → World → Prop} {a : Act} {w : World} (hy : Yc P ops C oi v a) (h : wpOp P ops Q j K (a.put oi.dst v) w) :
    wpOp P ops Q j (fun a' w' => Yc P ops C oi v a' ∧ K (a'.put oi.dst v) w') a w := by
  obtain ⟨h1, h2, h3⟩ := Oper.apart_spec hap
  have keep : ∀ a : Act, Yc P ops C oi v a → ∀ u, Yc P ops C oi v (a.put oj.dst u) := fun a hy u =>
    hy.same (execOp_put oi hsi a oj.dst u h3) (wanted_put oi a oj.dst u h3)
  unfold wpOp at *
  simp only [hj] at *
  rw [wanted_put oj a oi.dst v h1] at h
  split
  · rename_i hw
    simp only [hw, if_true] at h
    rcases h with h | ⟨hasks, hlets⟩
    case inr => exact .inr ⟨by unfold Oper.asks at *; rw [execOp_put oj hsj a oi.dst v h1] at hasks; exact hasks, hlets⟩
    refine .inl ?_
    unfold Oper.wp at *
    rw [execOp_put oj hsj a oi.dst v h1] at h
    generalize (execOp a.eval oj).run P w = r at *
    cases r with
    | ok n w' =>
      cases n <;> simp only [Oper.upon] at h ⊢
      case value u => exact ⟨keep a hy u, by rw [← Act.put_comm a v u h2]; exact h⟩
      case skip => exact ⟨keep a hy _, by rw [← Act.put_comm a v undef h2]; exact h⟩
      case defer d =>
        have hd : Yc P ops C oi v { a with defers := d :: a.defers } := hy.same rfl rfl
        exact ⟨keep _ hd _, by rw [← Act.put_comm _ v undef h2, ← Act.put_defers]; exact h⟩
      case enter f args =>
        refine Calls.mono h fun e w'' he => ?_
        cases e with
        | returned u => exact ⟨keep a hy u, by rw [← Act.put_comm a v u h2]; exact he⟩
        | panicked c => exact hQ _ _ _ _ _ he
        | outgrown => exact he
      case row row args => exact Rows.mono h fun u w'' he => ⟨keep a hy u, by rw [← Act.put_comm a v u h2]; exact he⟩
    | halt x w' =>
      cases x <;> simp only [Oper.upon] at h ⊢
      case panic u => exact hQ _ _ _ _ _ h
  · rename_i hw
    simp only [hw] at h
    exact ⟨keep a hy _, by rw [← Act.put_comm a v undef h2]; exact h⟩

theorem wpAnyC_first {i : Nat} {oi : Oper} {v : Value} (hi : ops[i]? = some oi) (hsel : ∀ (j : Nat) (o : Oper) cs b, ops[j]? = some o → o.op ≠ .select cs b) (hQ : PanicOk Q) :
    ∀ (fuel : Nat) (listed : Array Bool) (a : Act) (w : World),
      (∀ j oj, ops[j]? = some oj → j ≠ i → listed.getD j true = false → (∀ e ∈ oj.after, Region.binds md e = true → e.on ≠ i) → oi.apart ops oj = true) →
      i ∈ Region.ready md ops listed → C w → Yc P ops C oi v a →
      wpAnyC P md ops C Q fuel (listed.setIfInBounds i true) (a.put oi.dst v) w → wpAnyC P md ops C Q (fuel + 1) listed a w := by
  intro fuel
  induction fuel with
  | zero =>
    intro listed a w _ hr hC hy H
    refine ⟨fun h => (by rw [h] at hr; cases hr), fun j hj => ?_⟩
    by_cases hji : j = i
    · subst hji; exact hy.step hi hC ⟨hC, H⟩
    · have := ready_mono hj hji
      rw [H.1] at this
      cases this
  | succ fuel ih =>
    intro listed a w hfree hr hC hy H
    refine ⟨fun h => (by rw [h] at hr; cases hr), fun j hj => ?_⟩
    by_cases hji : j = i
    · subst hji; exact hy.step hi hC ⟨hC, H⟩
    · have h1 := H.2 j (ready_mono hj hji)
      obtain ⟨hjun, oj, hoj, hall⟩ := mem_ready.1 hj
      have hnot : ∀ e ∈ oj.after, Region.binds md e = true → e.on ≠ i := fun e he hb heq => by
        have h1 := hall e he hb
        have h0 := (mem_ready.1 hr).1
        rw [heq] at h1
        rcases Nat.lt_or_ge i listed.size with h' | h'
        · simp [h'] at h0 h1; rw [h0] at h1; cases h1
        · simp [Array.getElem?_eq_none h'] at h1
      have h2 := wpOp_behind hoj (hfree j oj hoj hji hjun hnot) (fun cs b => hsel i oi cs b hi) (fun cs b => hsel j oj cs b hoj) hQ hy h1
      have hfree' : ∀ k ok, ops[k]? = some ok → k ≠ i → (listed.setIfInBounds j true).getD k true = false →
          (∀ e ∈ ok.after, Region.binds md e = true → e.on ≠ i) → oi.apart ops ok = true := fun k ok hk hki hun hno => by
        refine hfree k ok hk hki ?_ hno
        by_cases hjk : j = k
        · subst hjk; exact hjun
        · rw [getD_set_ne true hjk] at hun; exact hun
      refine wpOp_mono (fun a' w' h3 => ⟨h3.2.1, ih (listed.setIfInBounds j true) a' w' hfree' (ready_mono hr (Ne.symm hji)) h3.2.1 h3.1 ?_⟩) h2
      rw [Array.setIfInBounds_comm _ _ hji]
      exact h3.2.2

/-- the walk in the text's order: true: quiet in the class; false: carried out where it stands. -/
def wpMix (P : Program) (ops : Array Oper) (C : World → Prop) (Q : Exit → Act → World → Prop) : List Bool → List Oper → Act → World → Prop
  | _, [], a, w => Q .normal a w
  | [], _ :: _, _, _ => False
  | true :: ks, o :: rest, a, w => ∃ v, Yc P ops C o v a ∧ wpMix P ops C Q ks rest (a.put o.dst v) w
  | false :: ks, o :: rest, a, w => wpList P ops (Exit.then (fun a' w' => C w' ∧ wpMix P ops C Q ks rest a' w') Q) [o] a w
def mixFrom (md : Region.Mode) (ops : Array Oper) : List Bool → Nat → Array Bool → Bool
  | [], _, listed => (Region.ready md ops listed).isEmpty
  | true :: ks, k, listed => (Region.ready md ops listed).contains k && Region.free md ops listed k && mixFrom md ops ks (k + 1) (listed.setIfInBounds k true)
  | false :: ks, k, listed => decide (Region.ready md ops listed = [k]) && mixFrom md ops ks (k + 1) (listed.setIfInBounds k true)
def mixB (md : Region.Mode) (ops : Array Oper) (ks : List Bool) : Bool := Region.noSelect ops && decide (ks.length = ops.size) && mixFrom md ops ks 0 (Array.replicate ops.size false)

theorem wp_then {o : Oper} {a : Act} {w : World} {K K' : Act → World → Prop} (h : o.wp P a w K (Exit.then K' Q)) : o.wp P a w K Q := by
  unfold Oper.wp at *
  generalize (execOp a.eval o).run P w = r at *
  cases r with
  | ok n w' =>
    cases n <;> simp only [Oper.upon] at h ⊢ <;> try exact h
  | halt x w' =>
    cases x <;> simp only [Oper.upon] at h ⊢ <;> exact h
theorem wpOp_of_list {i : Nat} {o : Oper} {a : Act} {w : World} {K : Act → World → Prop} (hi : ops[i]? = some o) (h : wpList P ops (Exit.then K Q) [o] a w) : wpOp P ops Q i K a w := by
  unfold wpOp
  simp only [hi]
  simp only [wpList] at h
  split at h
  · rename_i hw
    rw [if_pos hw]
    rcases h with h | ⟨h1, a', w', h2⟩
    · exact .inl (wp_then h)
    · exact .inr ⟨h1, a', w', h2⟩
  · rename_i hw
    rw [if_neg hw]
    exact h

theorem wpAnyC_mix (hs : Region.noSelect ops = true) (hQ : PanicOk Q) : ∀ (ks : List Bool) (l : List Oper) (k : Nat) (listed : Array Bool) (a : Act) (w : World), (∀ j, l[j]? = ops[k + j]?) → ks.length = l.length →
    mixFrom md ops ks k listed = true → C w → wpMix P ops C Q ks l a w → wpAnyC P md ops C Q l.length listed a w
  | [], [], k, listed, a, w, _, _, hB, _, h => ⟨by simpa [mixFrom] using hB, by simpa [wpMix] using h⟩
  | [], _ :: _, _, _, _, _, _, hl, _, _, _ => by simp at hl
  | _ :: _, [], _, _, _, _, _, hl, _, _, _ => by simp at hl
  | true :: ks, o :: l, k, listed, a, w, hl, hlen, hB, hC, h => by
    have h0 : ops[k]? = some o := by simpa using (hl 0).symm
    simp only [mixFrom, Bool.and_eq_true] at hB
    obtain ⟨v, hy, hK⟩ := h
    exact wpAnyC_first h0 (Region.noSelect_spec hs) hQ l.length listed a w (Region.free_spec h0 hB.1.2) (by simpa using hB.1.1) hC hy
      (wpAnyC_mix hs hQ ks l (k + 1) _ _ _ (fun j => by have := hl (j + 1); simpa [Nat.add_assoc, Nat.add_comm 1 j] using this) (by simpa using hlen) hB.2 hC hK)
  | false :: ks, o :: l, k, listed, a, w, hl, hlen, hB, hC, h => by
    have h0 : ops[k]? = some o := by simpa using (hl 0).symm
    simp only [mixFrom, Bool.and_eq_true, decide_eq_true_eq] at hB
    refine ⟨fun h1 => (by rw [hB.1] at h1; cases h1), fun i hi => ?_⟩
    rw [hB.1] at hi
    have hik : i = k := by simpa using hi
    subst hik
    refine wpOp_mono (fun a' w' h' => ⟨h'.1, wpAnyC_mix hs hQ ks l (i + 1) _ a' w' (fun j => by have := hl (j + 1); simpa [Nat.add_assoc, Nat.add_comm 1 j] using this) (by simpa using hlen) hB.2 h'.1 h'.2⟩) (wpOp_of_list h0 h)

variable {w0 w : World} {L : List Ent} {n : Nat} {f : Nat → Value} {ds : List Deferred}
/-- a region that draws: reads that hold in the whole class, and steps whose order is fixed. -/
theorem c_mix {id : Nat} {l : List Oper} (ks : List Bool) (C : World → Prop) (hm : P.follows .mixedOrders = true) (hB : mixB .any l.toArray ks = true) (hQ : PanicOk Q) (H : Heap w0 L w)
    (h : ∀ w', Heap w0 L w' → C w' ∧ wpMix P l.toArray C Q ks l (AA n f ds) w') : (Code.region id l.toArray true).wp P Q (AA n f ds) w := by
  simp only [mixB, Bool.and_eq_true, decide_eq_true_eq] at hB
  obtain ⟨hC, hw⟩ := h _ (H.drawn (w.drawn + 1))
  refine wp_region_any hm (wpAny_of_C (C := C) _ _ _ _ ?_)
  have := wpAnyC_mix (md := .any) hB.1.1 hQ ks l 0 _ _ _ (by simp) (by simpa using hB.1.2) hB.2 hC hw
  simpa using this
theorem M1 {o : Oper} {d : Nat} {v : Value} {rest : List Oper} {ks : List Bool} (hg : o.guard = none) (hd : o.dst = some d) (h : Gives P C o (ev n f) v) (k : wpMix P ops C Q ks rest (AA n (up f d v) ds) w) : wpMix P ops C Q (true :: ks) (o :: rest) (AA n f ds) w :=
  ⟨v, .inl ⟨by simp [Region.wanted, hg], fun w hw => by rw [eval_AA]; exact h w hw⟩, by rw [hd, put_AA]; exact k⟩
theorem M2 {o : Oper} {rest : List Oper} {ks : List Bool} (h : wpList P ops (Exit.then (fun a' w' => C w' ∧ wpMix P ops C Q ks rest a' w') Q) [o] (AA n f ds) w) : wpMix P ops C Q (false :: ks) (o :: rest) (AA n f ds) w := h
theorem Mend {a : Act} (h : Q .normal a w) : wpMix P ops C Q [] [] a w := h
end
end Go.Eng
