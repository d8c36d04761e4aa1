/-
  The engine, part 1: frames as functions, memory as a list of owned parts (entries), and one rule for each operation.
-/
import Derived.Tactics
import Derived.Deep.Quiet
import Derived.StillTail
import Derived.Laws.AppendOwn
import Derived.Below
import Derived.WalkKit
import Derived.Deep.QuietTactic
namespace Go.Eng
open Go.RowKit
set_option linter.unusedSimpArgs false
set_option linter.unusedVariables false

/-! ### frames -/
def up (f : Nat → Value) (d : Nat) (v : Value) : Nat → Value := fun t => cond (Nat.beq t d) v (f t)
def fr (n : Nat) (f : Nat → Value) : Array Value := Array.ofFn (n := n) fun i => f i.val
def AA (n : Nat) (f : Nat → Value) (ds : List Deferred) : Act := ⟨fr n f, ds⟩
def ev (n : Nat) (f : Nat → Value) : Operand → Value
  | .tmp t => cond (Nat.blt t n) (f t) undef
  | .const v => v
  | .global g => .pointer (some ⟨g, 0, none⟩)
  | .func k => .func (.func k) #[] #[]
def ini (args : List Value) : Nat → Value := fun t => match args, t with
  | [], _ => undef
  | v :: _, 0 => v
  | _ :: l, t + 1 => ini l t

theorem size_fr (n : Nat) (f : Nat → Value) : (fr n f).size = n := by simp [fr]
theorem getD_fr (n : Nat) (f : Nat → Value) (t : Nat) : (fr n f).getD t undef = cond (Nat.blt t n) (f t) undef := by
  by_cases h : t < n
  · have : Nat.blt t n = true := by simpa [Nat.blt_eq] using h
    simp [fr, h, this]
  · have : Nat.blt t n = false := by
      cases hb : Nat.blt t n with
      | false => rfl
      | true => exact absurd (by simpa [Nat.blt_eq] using hb) h
    simp [fr, this, Array.getD, h]
theorem eval_AA (n : Nat) (f : Nat → Value) (ds : List Deferred) : (AA n f ds).eval = ev n f := by
  funext x
  cases x with
  | tmp t => exact getD_fr n f t
  | const v => rfl
  | global g => rfl
  | func k => rfl
theorem put_AA (n : Nat) (f : Nat → Value) (ds : List Deferred) (d : Nat) (v : Value) : (AA n f ds).put (some d) v = AA n (up f d v) ds := by
  simp only [Act.put, AA, Act.mk.injEq, and_true]
  apply Array.ext
  · simp [fr]
  · intro i h1 h2
    have hi : i < n := by simpa [fr] using h2
    have h3 : (fr n f).setIfInBounds d v = (Array.ofFn (n := n) fun i => f i.val).setIfInBounds d v := rfl
    simp only [fr, Array.getElem_ofFn, up]
    by_cases h : d = i
    · subst h
      have : Nat.beq d d = true := by simp
      simp [this]
    · have : Nat.beq i d = false := by
        cases hb : Nat.beq i d with
        | false => rfl
        | true => exact absurd (Nat.eq_of_beq_eq_true hb).symm h
      rw [this, Array.getElem_setIfInBounds (by simpa using hi)]
      simp [h]
theorem put_AA_none (n : Nat) (f : Nat → Value) (ds : List Deferred) (v : Value) : (AA n f ds).put none v = AA n f ds := rfl
theorem ini_getD : ∀ (args : List Value) (t : Nat), ini args t = args.getD t undef
  | [], t => by simp [ini]
  | v :: l, 0 => by simp [ini]
  | v :: l, t + 1 => by simp [ini, ini_getD l t]
theorem fr_ini (n : Nat) (args : List Value) (h : args.length ≤ n) : fr n (ini args) = args.toArray ++ Array.replicate (n - args.length) undef := by
  apply Array.ext
  · simp [fr]; omega
  · intro i h1 h2
    have hi : i < n := by simpa [fr] using h1
    simp only [fr, Array.getElem_ofFn, ini_getD]
    by_cases h : i < args.length
    · simp [Array.getElem_append, h]
    · simp [Array.getElem_append, h]

/-- an overlay of known slots over a frame of which nothing is known. -/
def ov : List (Nat × Value) → (Nat → Value) → Nat → Value
  | [], g => g
  | (s, v) :: l, g => up (ov l g) s v
def Slots (f : Nat → Value) : List (Nat × Value) → Prop
  | [] => True
  | (s, v) :: l => f s = v ∧ Slots f l
theorem ov_of_slots {f : Nat → Value} : ∀ {l : List (Nat × Value)}, Slots f l → ov l f = f
  | [], _ => rfl
  | (s, v) :: l, h => by
    funext t
    simp only [ov, up]
    by_cases ht : t = s
    · subst ht; have : Nat.beq t t = true := by simp
      rw [this]; exact h.1.symm
    · have : Nat.beq t s = false := by
        cases hb : Nat.beq t s with
        | false => rfl
        | true => exact absurd (Nat.eq_of_beq_eq_true hb) ht
      rw [this]; exact congrFun (ov_of_slots h.2) t
theorem ov_ex {f : Nat → Value} (l : List (Nat × Value)) (h : Slots f l) : ∃ g, f = ov l g := ⟨f, (ov_of_slots h).symm⟩

/-! ### memory -/
structure Ent where
  foot : List Nat
  ok : World → Prop
  loc : ∀ w w' : World, (∀ b ∈ foot, w'.heap[b]? = w.heap[b]?) → ok w → ok w'

/-- a block of any kind -/
def Ent.obj (b : Nat) (o : Obj) : Ent := ⟨[b], fun w => w.heap[b]? = some o, fun _ _ h h1 => (h b (by simp)).trans h1⟩
/-- a block of cells -/
abbrev Ent.blk (b : Nat) (e : TypeId) (cs : List Value) : Ent := Ent.obj b (.cells cs.toArray e (0, 0))
theorem ownsRow_loc {w w' : World} {B e sz : Nat} {v : Value} {n : Nat} {xs : List Value} (h : ∀ b ∈ v.ownBlock.toList, w'.heap[b]? = w.heap[b]?) (ho : w.ownsRow B e sz v n xs) : w'.ownsRow B e sz v n xs := by
  refine ⟨ho.1, ?_⟩
  rcases ho.2 with hn | ⟨g, cap, cur, rfl, hb, hg, rest⟩
  · exact .inl hn
  · exact .inr ⟨g, cap, cur, rfl, hb, (h g (by simp [Value.ownBlock])).trans hg, rest⟩
/-- a slice of the run's own, growable: nil, or the head of a block -/
def Ent.row (B e sz : Nat) (v : Value) (n : Nat) (xs : List Value) : Ent :=
  ⟨v.ownBlock.toList, fun w => w.ownsRow B e sz v n xs, fun _ _ h h1 => ownsRow_loc h h1⟩

def feet (L : List Ent) : List Nat := L.flatMap Ent.foot

structure Heap (w0 : World) (L : List Ent) (w : World) : Prop where
  nodup : (feet L).Nodup
  new : ∀ b ∈ feet L, w0.heap.size ≤ b ∧ b < w.heap.size
  oks : ∀ x ∈ L, x.ok w
  base : Below w0.heap.size w0 w

theorem Heap.init (w : World) : Heap w [] w := ⟨by simp [feet], by simp [feet], by simp, Below.refl _ _⟩
theorem Heap.get {w0 w : World} {L : List Ent} {x : Ent} (H : Heap w0 L w) (k : Nat) (h : L[k]? = some x) : x.ok w := H.oks x (List.mem_of_getElem? h)
theorem mem_feet {L : List Ent} {x : Ent} {k : Nat} (h : L[k]? = some x) {b : Nat} (hb : b ∈ x.foot) : b ∈ feet L :=
  List.mem_flatMap.2 ⟨x, List.mem_of_getElem? h, hb⟩

/-- a world in which nothing has turned but draws. -/
theorem Heap.same {w0 w w' : World} {L : List Ent} (H : Heap w0 L w) (hh : w'.heap = w.heap) (ho : w'.os = w.os) (ht : w'.tape = w.tape) (hu : w'.output = w.output) : Heap w0 L w' :=
  ⟨H.nodup, by rw [hh]; exact H.new, fun x hx => x.loc w w' (fun b _ => by rw [hh]) (H.oks x hx),
    ⟨ho.trans H.base.os, ht.trans H.base.tape, hu.trans H.base.output, by rw [hh]; exact H.base.size, fun k hk => by rw [hh]; exact H.base.block k hk⟩⟩
theorem Heap.drawn {w0 w : World} {L : List Ent} (H : Heap w0 L w) (n : Nat) : Heap w0 L { w with drawn := n } := H.same rfl rfl rfl rfl

theorem feet_perm {L L' : List Ent} (h : L.Perm L') : (feet L).Perm (feet L') := h.flatMap_right _
theorem Heap.perm {w0 w : World} {L L' : List Ent} (H : Heap w0 L w) (h : L.Perm L') : Heap w0 L' w :=
  ⟨(feet_perm h).nodup_iff.1 H.nodup, fun b hb => H.new b ((feet_perm h).mem_iff.2 hb), fun x hx => H.oks x (h.mem_iff.2 hx), H.base⟩
/-- entry k goes to the head -/
theorem Heap.pick {w0 w : World} {L : List Ent} {x : Ent} (H : Heap w0 L w) (k : Nat) (h : L[k]? = some x) : Heap w0 (x :: L.eraseIdx k) w := by
  obtain ⟨hk, hx⟩ := List.getElem?_eq_some_iff.1 h
  refine H.perm ?_
  rw [← hx, List.eraseIdx_eq_take_drop_succ]
  conv => lhs; rw [show L = L.take k ++ L[k] :: L.drop (k + 1) from by simp]
  exact List.perm_middle

theorem Heap.app {w0 w w' : World} {L M : List Ent} (H : Heap w0 L w) (K : Heap w M w') : Heap w0 (M ++ L) w' := by
  have hs := H.base.size
  refine ⟨?_, ?_, ?_, ⟨K.base.os.trans H.base.os, K.base.tape.trans H.base.tape, K.base.output.trans H.base.output, Nat.le_trans hs K.base.size, fun k hk => (K.base.block k (by omega)).trans (H.base.block k hk)⟩⟩
  · simp only [feet, List.flatMap_append]
    refine List.nodup_append.2 ⟨K.nodup, H.nodup, fun a ha b hb e => ?_⟩
    subst e
    have h1 := (H.new a hb).2
    have h2 := (K.new a ha).1
    omega
  · intro b hb
    simp only [feet, List.flatMap_append, List.mem_append] at hb
    rcases hb with hb | hb
    · have := K.new b hb; omega
    · have := H.new b hb; have := K.base.size; omega
  · intro x hx
    rcases List.mem_append.1 hx with hx | hx
    · exact K.oks x hx
    · refine x.loc w w' (fun b hb => ?_) (H.oks x hx)
      exact K.base.block b (H.new b (List.mem_flatMap.2 ⟨x, hx, hb⟩)).2
theorem Heap.app0 {w0 w w' : World} {L : List Ent} (H : Heap w0 L w) (K : Heap w [] w') : Heap w0 L w' := H.app K
theorem Heap.app1 {w0 w w' : World} {L : List Ent} {x : Ent} (H : Heap w0 L w) (K : Heap w [x] w') : Heap w0 (x :: L) w' := H.app K
theorem Heap.app2 {w0 w w' : World} {L : List Ent} {x y : Ent} (H : Heap w0 L w) (K : Heap w [x, y] w') : Heap w0 (x :: y :: L) w' := H.app K

theorem feet_sub {L L' : List Ent} (h : L'.Sublist L) : (feet L').Sublist (feet L) := by
  unfold feet
  induction h with
  | slnil => simp
  | cons a _ ih => simp only [List.flatMap_cons]; exact ih.trans (List.sublist_append_right _ _)
  | cons_cons a _ ih => simp only [List.flatMap_cons]; exact List.Sublist.append (List.Sublist.refl _) ih
theorem Heap.sub {w0 w : World} {L L' : List Ent} (H : Heap w0 L w) (h : L'.Sublist L) : Heap w0 L' w := by
  have hf : (feet L').Sublist (feet L) := feet_sub h
  exact ⟨H.nodup.sublist hf, fun b hb => H.new b (hf.subset hb), fun x hx => H.oks x (h.subset hx), H.base⟩
theorem Heap.drop {w0 w : World} {L : List Ent} (H : Heap w0 L w) (n : Nat) : Heap w0 (L.drop n) w := H.sub (List.drop_sublist n L)
theorem Heap.tail {w0 w : World} {x : Ent} {L : List Ent} (H : Heap w0 (x :: L) w) : Heap w0 L w := H.sub (List.sublist_cons_self x L)
theorem Heap.del {w0 w : World} {L : List Ent} (H : Heap w0 L w) (k : Nat) : Heap w0 (L.eraseIdx k) w := H.sub (List.eraseIdx_sublist L k)
theorem Heap.clear {w0 w : World} {L : List Ent} (H : Heap w0 L w) : Heap w0 [] w := H.sub (List.nil_sublist L)

/-- a new block -/
theorem Heap.alloc {w0 w : World} {L : List Ent} (H : Heap w0 L w) (o : Obj) : Heap w0 (Ent.obj w.heap.size o :: L) (w.alloc o) := by
  refine H.app1 ⟨by simp [feet, Ent.obj], by simp [feet, Ent.obj], ?_, (Below.refl _ _).alloc (Nat.le_refl _) o⟩
  intro x hx
  have : x = Ent.obj w.heap.size o := by simpa using hx
  subst this
  exact heap_alloc_new w o

/-- what one entry holds is replaced: by a step that turns no other old block. -/
theorem Heap.upd {w0 w w' : World} {L : List Ent} {x y : Ent} (H : Heap w0 L w) (k : Nat) (hk : L[k]? = some x) (hg : ∀ b, b < w.heap.size → b ∉ x.foot → w'.heap[b]? = w.heap[b]?)
    (hs : w.heap.size ≤ w'.heap.size) (ho : w'.os = w.os) (ht : w'.tape = w.tape) (hu : w'.output = w.output)
    (hy : y.ok w') (hyn : y.foot.Nodup) (hyf : ∀ b ∈ y.foot, (b ∈ x.foot ∨ w.heap.size ≤ b) ∧ b < w'.heap.size) : Heap w0 (L.set k y) w' := by
  obtain ⟨hkl, hx⟩ := List.getElem?_eq_some_iff.1 hk
  have hL : L = L.take k ++ x :: L.drop (k + 1) := by rw [← hx]; simp
  have hS : L.set k y = L.take k ++ y :: L.drop (k + 1) := by rw [List.set_eq_take_append_cons_drop, if_pos hkl]
  generalize L.take k = A at hL hS
  generalize L.drop (k + 1) = B at hL hS
  rw [hS]
  subst hL
  clear hS hk hkl hx
  have hn := H.nodup
  have hw := H.new
  simp only [feet, List.flatMap_append, List.flatMap_cons] at hn hw
  have hAB : ∀ b, b ∈ A.flatMap Ent.foot ∨ b ∈ B.flatMap Ent.foot → b ∉ x.foot ∧ b < w.heap.size := by
    intro b hb
    have hd := List.nodup_append.1 hn
    have hd2 := List.nodup_append.1 hd.2.1
    rcases hb with hb | hb
    · exact ⟨fun hx => hd.2.2 b hb b (by simp [hx]) rfl, (hw b (by simp [hb])).2⟩
    · exact ⟨fun hx => hd2.2.2 b hx b hb rfl, (hw b (by simp [hb])).2⟩
  refine ⟨?_, ?_, ?_, ⟨ho.trans H.base.os, ht.trans H.base.tape, hu.trans H.base.output, Nat.le_trans H.base.size hs, fun b hb => ?_⟩⟩
  · simp only [feet, List.flatMap_append, List.flatMap_cons]
    have hd := List.nodup_append.1 hn
    have hd2 := List.nodup_append.1 hd.2.1
    have far : ∀ b ∈ y.foot, ∀ c, c ∈ A.flatMap Ent.foot ∨ c ∈ B.flatMap Ent.foot → b ≠ c := by
      intro b hb c hc e
      subst e
      have h1 := hAB b hc
      rcases (hyf b hb).1 with h2 | h2
      · exact h1.1 h2
      · omega
    refine List.nodup_append.2 ⟨hd.1, List.nodup_append.2 ⟨hyn, hd2.2.1, fun a ha b hb => far a ha b (.inr hb)⟩, fun a ha b hb e => ?_⟩
    rcases List.mem_append.1 hb with hb | hb
    · exact far b hb a (.inl ha) e.symm
    · exact hd.2.2 a ha b (by simp [hb]) e
  · intro b hb
    simp only [feet, List.flatMap_append, List.flatMap_cons, List.mem_append] at hb
    have hsz := H.base.size
    rcases hb with hb | hb | hb
    · have := hw b (by simp [hb]); omega
    · have h2 := hyf b hb
      rcases h2.1 with h1 | h1
      · have := hw b (by simp [h1]); omega
      · omega
    · have := hw b (by simp [hb]); omega
  · intro z hz
    rcases List.mem_append.1 hz with hz' | hz'
    · exact z.loc w w' (fun b hb => hg b (hAB b (.inl (List.mem_flatMap.2 ⟨z, hz', hb⟩))).2 (hAB b (.inl (List.mem_flatMap.2 ⟨z, hz', hb⟩))).1) (H.oks z (by simp [hz']))
    · rcases List.mem_cons.1 hz' with rfl | hz'
      · exact hy
      · exact z.loc w w' (fun b hb => hg b (hAB b (.inr (List.mem_flatMap.2 ⟨z, hz', hb⟩))).2 (hAB b (.inr (List.mem_flatMap.2 ⟨z, hz', hb⟩))).1) (H.oks z (by simp [hz']))
  · have hb2 : b ∉ x.foot := fun hx => by have := hw b (by simp [hx]); omega
    exact (hg b (Nat.lt_of_lt_of_le hb H.base.size) hb2).trans (H.base.block b hb)
end Go.Eng
