/-
  The engine, part 3: operations that turn memory, calls, regions that draw, the control, the way in and the way out.
-/
import Derived.Test.YtjfifehofflaeaaEng2
import Derived.Deep.AppendSrc
import Derived.Laws.OwnMore
import Derived.Laws.MakeOwn
namespace Go.Eng
open Go.RowKit
set_option linter.unusedSimpArgs false
set_option linter.unusedVariables false

/-! ### operations that turn memory -/
section
variable {P : Program} {w0 w : World} {L : List Ent} {ops : Array Oper} {Q : Exit → Act → World → Prop} {rest : List Oper} {n : Nat} {f : Nat → Value} {ds : List Deferred}

theorem Lnew {o : Oper} {d : Nat} {v : Value} {ob : Obj} (hg : o.guard = none) (hd : o.dst = some d) (H : Heap w0 L w)
    (hr : (execOp (ev n f) o).run P w = .ok (.value (v)) (w.alloc ob)) {vb : Nat → Value} (hv : v = vb w.heap.size)
    (k : ∀ b w', Heap w0 (Ent.obj b ob :: L) w' → wpList P ops Q rest (AA n (up f d (vb b)) ds) w') : wpList P ops Q (o :: rest) (AA n f ds) w :=
  Lw hg hd hr (by rw [hv]; exact k _ _ (H.alloc ob))

theorem run_newVar (t : TypeId) (v : Value) (w : World) : (newVar t v).run P w = .ok ⟨w.heap.size, 0, none⟩ (w.alloc (.cells v.cells t)) := by
  simp [newVar, newRow]

theorem Lalloc {o : Oper} {d : Nat} {t : TypeId} {z : Value} {cs : List Value} (hg : o.guard = none) (hd : o.dst = some d) (ho : o.op = .alloc t) (H : Heap w0 L w)
    (hz : ∀ w, (zeroValue t).run P w = .ok z w) (hcs : z.cells.toList = cs)
    (k : ∀ b w', Heap w0 (Ent.blk b t cs :: L) w' → wpList P ops Q rest (AA n (up f d (.pointer (some ⟨b, 0, none⟩))) ds) w') : wpList P ops Q (o :: rest) (AA n f ds) w := by
  refine Lnew (ob := .cells z.cells t) (vb := fun b => .pointer (some ⟨b, 0, none⟩)) hg hd H ?_ rfl (fun b w' H' => k b w' ?_)
  · simp [execOp, ho, Instr.alloc, hz w, run_newVar]
  · subst hcs; simpa [Ent.blk] using H'
theorem Lbox {o : Oper} {d : Nat} {t : TypeId} {x : Operand} {z : Value} {cs : List Value} (hg : o.guard = none) (hd : o.dst = some d) (ho : o.op = .box t x) (hx : ev n f x = z) (H : Heap w0 L w)
    (hcs : z.cells.toList = cs)
    (k : ∀ b w', Heap w0 (Ent.blk b t cs :: L) w' → wpList P ops Q rest (AA n (up f d (.pointer (some ⟨b, 0, none⟩))) ds) w') : wpList P ops Q (o :: rest) (AA n f ds) w := by
  refine Lnew (ob := .cells z.cells t) (vb := fun b => .pointer (some ⟨b, 0, none⟩)) hg hd H ?_ rfl (fun b w' H' => k b w' ?_)
  · simp [execOp, ho, Instr.box, hx, run_newVar]
  · subst hcs; simpa [Ent.blk] using H'

/-- a store into a block of cells. -/
theorem Lstore {o : Oper} {t : TypeId} {x y : Operand} {b off : Nat} {v : Value} {e : TypeId} {cs vs : List Value} (j : Nat) (hg : o.guard = none) (hd : o.dst = none) (ho : o.op = .store t x y)
    (hx : ev n f x = .pointer (some ⟨b, off, none⟩)) (hy : ev n f y = v) (H : Heap w0 L w) (hk : L[j]? = some (Ent.blk b e cs)) (hvs : v.cells.toList = vs) (hs : ∀ w, (sizeOf t).run P w = .ok vs.length w)
    (h1 : vs.all (·.oneCell') = true) (hfit0 : Nat.ble (off + vs.length) cs.length = true)
    (k : ∀ w', Heap w0 (L.set j (Ent.blk b e (cs.take off ++ vs ++ cs.drop (off + vs.length)))) w' → wpList P ops Q rest (AA n f ds) w') : wpList P ops Q (o :: rest) (AA n f ds) w := by
  have hfit := Nat.le_of_ble_eq_true hfit0
  have hb : w.heap[b]? = some (.cells cs.toArray e (0, 0)) := H.get j hk
  have hst := run_storeCells_at P b off e vs 0 cs.toArray w hb (by simpa using hfit) (by simpa using h1)
  simp only [Nat.add_zero] at hst
  have hvl : v.cells.size = vs.length := by rw [← hvs]; simp
  refine Lskip (w' := w.setRow b (cs.take off ++ vs ++ cs.drop (off + vs.length)).toArray) hg hd ?_ (k _ ?_)
  · simp [execOp, ho, hx, hy, Instr.storeAt, Instr.sureAddr, storeVar, hs w, hvl, hvs, hst]
  · refine H.upd j hk (fun c hc hne => setRow_other w b c _ (by simpa [Ent.obj] using hne)) (by simp) rfl rfl rfl ?_ (by simp [Ent.obj]) ?_
    · exact setRow_heap w b _ _ e _ hb
    · intro c hc
      have : c = b := by simpa [Ent.obj] using hc
      subst this
      exact ⟨.inl (by simp [Ent.obj]), by simpa using (Array.getElem?_eq_some_iff.1 hb).1⟩

/-- append, whatever the source: the row is the run's own. -/
theorem run_append_src (B : Nat) (t tx ty e : TypeId) (i : TypeInfo) (z : Value) (ht : P.underlying t = some (.slice e)) (hi : P.info? e = some i) (hz : i.zero = some z) (hzs : z.cells.size = i.size) 
    (v : Value) (n : Nat) (xs : List Value) (hown : w.ownsRow B e i.size v n xs) (x : Value) (m : Nat) (news : List Value) (hs : Src P i.size tx x m news w)
    (h63 : n + m ≤ maxLen) (hbytes : (n + m) * i.bytes ≤ 140737488355328) (hbase : B ≤ w.heap.size) :
    ∃ v' w', (Builtin.append_ #[t, tx] ty #[v, x]).run P w = .ok v' w' ∧ w'.ownsRow B e i.size v' (n + m) (xs ++ news) ∧ w.grownBy w' v.ownBlock ∧
      (∀ b, v'.ownBlock = some b → (v.ownBlock = some b ∨ w.heap.size ≤ b) ∧ b < w'.heap.size) ∧ (v' = .slice none 0 0 ∨ ∃ b c, v' = .slice (some ⟨b, 0, none⟩) (n + m) c) ∧
      (∀ b, v.ownBlock = some b → v'.ownBlock ≠ some b → w'.heap[b]? = w.heap[b]?) := by
  have hsmall : ((n + m : Nat) : Int) ≤ 9223372036854775807 := by simp only [maxLen] at h63; omega
  have hl := hs.newsLen
  have hlen : (xs ++ news).length = (n + m) * i.size := by rw [List.length_append, hown.1, hl, Nat.add_mul]
  have grown : ∀ (old : Nat), old < n + m → ∀ (row : Option Nat),
      (w.drew.alloc (.cells ((xs ++ news).toArray ++ Builtin.zeroCells z.cells (grownCap w (n + m) old e - (n + m))) e)).ownsRow B e i.size
        (.slice (some ⟨w.heap.size, 0, none⟩) (n + m) (grownCap w (n + m) old e)) (n + m) (xs ++ news) ∧
      w.grownBy (w.drew.alloc (.cells ((xs ++ news).toArray ++ Builtin.zeroCells z.cells (grownCap w (n + m) old e - (n + m))) e)) row := by
    intro old ho row
    have hge := grownCap_ge w (n + m) old e
    have hcm : grownCap w (n + m) old e ≤ maxLen := grownCap_le_maxLen w (n + m) old e h63
    refine ⟨⟨hlen, .inr ⟨w.heap.size, _, _, rfl, hbase, heap_alloc_new w.drew _, hge, hcm, ?_, ?_⟩⟩, ⟨rfl, rfl, rfl, by simp, fun k hk _ => Below.heap_alloc w.drew _ k hk⟩⟩
    · simp only [Array.size_append, List.size_toArray, size_zeroCells, hzs, hlen, ← Nat.add_mul]
      congr 1
      omega
    · simp only [Array.toList_append]
      rw [← hlen]
      exact List.take_left
  rcases hown.2 with ⟨rfl, rfl⟩ | ⟨g, cap, cur, rfl, hbg, hg, hnc, hcm, hcs, htake⟩
  · have hx : xs = [] := List.eq_nil_of_length_eq_zero (by simpa using hown.1)
    subst hx
    by_cases hm : m = 0
    · subst hm
      have hn : news = [] := List.eq_nil_of_length_eq_zero (by simpa using hl)
      subst hn
      refine ⟨.slice none 0 0, w, ?_, World.ownsRow_nil w B e i.size, ⟨rfl, rfl, rfl, Nat.le_refl _, fun _ _ _ => rfl⟩, by simp [Value.ownBlock], .inl rfl, fun b hb => by simp [Value.ownBlock] at hb⟩
      have hc := hs.cells
      have hln := hs.len w
      rcases hs.kind with ⟨e', hk⟩ | hk <;> simp [Builtin.append_, run_underlying ht, run_underlying hk, sizeOf, typeInfo, hi, hln, hc]
    · have hr := run_append_grow_src (P := P) w t tx ty e i z ht hi hz none 0 0 [] (run_firstCells_none w.drew i.size 0 0 0) x m news hs (by omega) hsmall (growslice_fits (by omega) hbytes)
      have hgr := grown 0 (by omega) (Value.ownBlock (.slice none 0 0))
      simp only [Nat.zero_add, List.nil_append] at hgr hr ⊢
      refine ⟨_, _, hr, hgr.1, hgr.2, ?_, .inr ⟨_, _, rfl⟩, fun b hb => by simp [Value.ownBlock] at hb⟩
      intro b hb
      have : w.heap.size = b := by simpa [Value.ownBlock] using hb
      subst this
      exact ⟨.inr (Nat.le_refl _), by simp⟩
  · by_cases hroom : n + m ≤ cap
    · have hfit : n * i.size + news.length ≤ cur.size := by rw [hl, hcs, ← Nat.add_mul]; exact Nat.mul_le_mul_right _ hroom
      have hst := run_storeCells_at P g (n * i.size) e news 0 cur w hg (by simpa using hfit) hs.one
      simp only [Nat.add_zero] at hst
      have hln := hs.len w
      have hc := hs.cells
      refine ⟨.slice (some ⟨g, 0, none⟩) (n + m) cap, w.setRow g (cur.toList.take (n * i.size) ++ news ++ cur.toList.drop (n * i.size + news.length)).toArray, ?_, ⟨hlen, .inr ⟨g, cap, _, rfl, hbg, setRow_heap w g cur _ e _ hg, hroom, hcm, ?_, ?_⟩⟩,
        ⟨rfl, rfl, rfl, by simp, fun k _ hk => setRow_other w g k _ (fun e => hk (by simp [Value.ownBlock, e]))⟩, ?_, .inr ⟨_, _, rfl⟩, fun b hb hne => absurd hb hne⟩
      · rcases hs.kind with ⟨e', hk⟩ | hk <;> simp [Builtin.append_, run_underlying ht, run_underlying hk, sizeOf, typeInfo, hi, hln, hc, hroom, Addr.add_lit, hst]
      · simp only [List.size_toArray, List.length_append, List.length_take, List.length_drop, Array.length_toList]
        omega
      · rw [htake, ← hlen]
        exact List.take_left
      · intro b hb
        have : g = b := by simpa [Value.ownBlock] using hb
        subst this
        exact ⟨.inl rfl, by simpa using (Array.getElem?_eq_some_iff.1 hg).1⟩
    · have holds : ∀ j u, xs[j]? = some u → w.cell? ((⟨g, 0, none⟩ : Addr).add j) = some u := hown.cells (g := g) rfl
      have hr := run_append_grow_src (P := P) w t tx ty e i z ht hi hz (some ⟨g, 0, none⟩) n cap xs (run_firstCells_some w.drew i.size n _ n cap xs hown.1 (by simpa using holds)) x m news hs (by omega) hsmall (growslice_fits (by omega) hbytes)
      have hgr := grown cap (by omega) (Value.ownBlock (.slice (some ⟨g, 0, none⟩) n cap))
      refine ⟨_, _, hr, hgr.1, hgr.2, ?_, .inr ⟨_, _, rfl⟩, fun b hb _ => by
        have : g = b := by simpa [Value.ownBlock] using hb
        subst this
        exact Below.heap_alloc w.drew _ g (Array.getElem?_eq_some_iff.1 hg).1⟩
      intro b hb
      have : w.heap.size = b := by simpa [Value.ownBlock] using hb
      subst this
      exact ⟨.inr (Nat.le_refl _), by simp⟩

theorem Lappend {o : Oper} {d : Nat} {s x : Operand} {t tx e : TypeId} {i : TypeInfo} {z : Value} {v u : Value} {c m sz : Nat} {xs news : List Value} (j : Nat) (hg : o.guard = none) (hd : o.dst = some d)
    (ho : o.op = .call { callee := .builtin .append, args := #[s, x], argTypes := #[t, tx] }) (hs : ev n f s = v) (hx : ev n f x = u) (H : Heap w0 L w) (hk : L[j]? = some (Ent.row w0.heap.size e sz v c xs))
    (ht : P.underlying t = some (.slice e)) (hi : P.info? e = some i) (hz : i.zero = some z) (hzs : z.cells.size = i.size) (hsz : i.size = sz)
    (hsrc : Src P sz tx u m news w) (hbytes : (c + m) * i.bytes ≤ 140737488355328) (h63 : c + m ≤ maxLen)
    (k : ∀ v' w', Heap w0 (L.set j (Ent.row w0.heap.size e sz v' (c + m) (xs ++ news))) w' → (v' = .slice none 0 0 ∨ ∃ b cap, v' = .slice (some ⟨b, 0, none⟩) (c + m) cap) → wpList P ops Q rest (AA n (up f d v') ds) w') : wpList P ops Q (o :: rest) (AA n f ds) w := by
  subst hsz
  obtain ⟨v', w', hr, h2, h3, h4, h5, _⟩ := run_append_src (P := P) w0.heap.size t tx o.type e i z ht hi hz hzs v c xs (H.get j hk) u m news hsrc h63 hbytes H.base.size
  refine Lw (v := v') (w' := w') hg hd ?_ (k v' w' ?_ h5)
  · unfold execOp
    simp only [ho, resolve, invoke, builtin, Sem.run_bind, Sem.run_pure, Result.andThen_ok, List.map_toArray, List.map_cons, List.map_nil, hs, hx, hr]
  · refine H.upd j hk (fun b hb hne => h3.block b hb (by simpa [Ent.row, eq_comm] using hne)) h3.size h3.os h3.tape h3.output h2 ?_ ?_
    · cases hv : v'.ownBlock <;> simp [Ent.row, hv]
    · intro b hb
      have := h4 b (by simpa [Ent.row] using hb)
      refine ⟨this.1.imp (fun h => by simp [Ent.row, h]) id, this.2⟩

/-- a new row of a known length. -/
theorem LbuildSlice {o : Oper} {d : Nat} {t e : TypeId} {len : Nat} {ps : Array (Nat × Operand)} {cs : List Value} (hg : o.guard = none) (hd : o.dst = some d) (ho : o.op = .buildSlice t len ps) (H : Heap w0 L w)
    (hr : ∀ w, (Instr.buildSlice t len (ps.map fun (i, x) => (i, ev n f x))).run P w = .ok (.slice (some ⟨w.heap.size, 0, none⟩) len len) (w.alloc (.cells cs.toArray e)))
    (k : ∀ b w', Heap w0 (Ent.blk b e cs :: L) w' → wpList P ops Q rest (AA n (up f d (.slice (some ⟨b, 0, none⟩) len len)) ds) w') : wpList P ops Q (o :: rest) (AA n f ds) w :=
  Lnew (ob := .cells cs.toArray e) (vb := fun b => .slice (some ⟨b, 0, none⟩) len len) hg hd H (by simp [execOp, ho, hr w]) rfl (fun b w' H' => k b w' H')
/-- one element of one cell. -/
theorem LbuildSlice1 {o : Oper} {d : Nat} {t e : TypeId} {x : Operand} {z v : Value} (hg : o.guard = none) (hd : o.dst = some d) (ho : o.op = .buildSlice t 1 #[(0, x)]) (hx : ev n f x = v) (H : Heap w0 L w)
    (ht : P.underlying t = some (.slice e)) (hs : ∀ w, (sizeOf e).run P w = .ok 1 w) (hz : ∀ w, (zeroValue e).run P w = .ok z w) (hz1 : z.cells.size = 1) (hv : v.cells = #[v])
    (k : ∀ b w', Heap w0 (Ent.blk b e [v] :: L) w' → wpList P ops Q rest (AA n (up f d (.slice (some ⟨b, 0, none⟩) 1 1)) ds) w') : wpList P ops Q (o :: rest) (AA n f ds) w := by
  refine LbuildSlice hg hd ho H (cs := [v]) (e := e) (fun w => ?_) k
  have hr : (Array.range 1) = #[0] := rfl
  simp [Instr.buildSlice, run_underlying ht, hs w, hz w, Instr.fill, hx, hv, hr, newRow]
end

/-! ### calls -/
section
variable {P : Program} {w0 w : World} {L : List Ent} {ops : Array Oper} {Q : Exit → Act → World → Prop} {rest : List Oper} {n : Nat} {f : Nat → Value} {ds : List Deferred}

/-- a call of a function by its name: it hands back. -/
theorem Lfn {o : Oper} {d : Nat} {g : FuncId} {xs : List Operand} {ts : Array TypeId} {xa : List Value} (hg : o.guard = none) (hd : o.dst = some d) (ho : o.op = .call { callee := .value (.func g), args := xs.toArray, argTypes := ts })
    (has : xs.map (ev n f) = xa) (he : ∀ args w, (callFunc g args).run P w = .ok (.enter g args) w)
    (h : Calls P g xa.toArray w fun e w' => ∃ v, e = .returned v ∧ wpList P ops Q rest (AA n (up f d v) ds) w') : wpList P ops Q (o :: rest) (AA n f ds) w := by
  refine Lcall (args := xa.toArray) (g := g) hg ho ?_ (he _) (h.mono fun e w' ⟨v, he', hk⟩ => ?_)
  · subst has
    simp [resolve, ev, Deferred.ofValue, invoke]
  · subst he'; simpa only [hd, put_AA] using hk
/-- the same, guarded. -/
theorem Lfng {o : Oper} {d j s : Nat} {b : Bool} {g : FuncId} {xs : List Operand} {ts : Array TypeId} {xa : List Value} (hg : o.guard = some (j, b)) (hj : (ops[j]?).bind (·.dst) = some s) (hs : ev n f (.tmp s) = .bool b) (hd : o.dst = some d) (ho : o.op = .call { callee := .value (.func g), args := xs.toArray, argTypes := ts })
    (has : xs.map (ev n f) = xa) (he : ∀ args w, (callFunc g args).run P w = .ok (.enter g args) w)
    (h : Calls P g xa.toArray w fun e w' => ∃ v, e = .returned v ∧ wpList P ops Q rest (AA n (up f d v) ds) w') : wpList P ops Q (o :: rest) (AA n f ds) w :=
  wpList_step fun K hK => by
    have hw : Region.wanted o (yielded ops (AA n f ds).tmps) = true := by
      simp [Region.wanted, hg, AA, yielded_AA hj hs]
    rw [if_pos hw]
    show o.upon P _ K Q ((execOp (AA n f ds).eval o).run P w)
    have : execOp (AA n f ds).eval o = callFunc g xa.toArray := by
      rw [eval_AA]; subst has; simp [execOp, ho, resolve, ev, Deferred.ofValue, invoke]
    rw [this, he _ w, Oper.upon_enter]
    refine h.mono fun e w' ⟨v, he', hk⟩ => ?_
    subst he'
    show K ((AA n f ds).put o.dst v) w'
    rw [hd, put_AA]
    exact hK _ _ hk
/-- a call that hands back or panics. -/
theorem LfnP {o : Oper} {d : Nat} {g : FuncId} {xs : List Operand} {ts : Array TypeId} {xa : List Value} (hg : o.guard = none) (hd : o.dst = some d) (ho : o.op = .call { callee := .value (.func g), args := xs.toArray, argTypes := ts })
    (has : xs.map (ev n f) = xa) (he : ∀ args w, (callFunc g args).run P w = .ok (.enter g args) w)
    (h : Calls P g xa.toArray w fun e w' => (∃ v, e = .returned v ∧ wpList P ops Q rest (AA n (up f d v) ds) w') ∨ (∃ ch, e = .panicked ch ∧ Q (.panic ch) (AA n f ds) w')) : wpList P ops Q (o :: rest) (AA n f ds) w := by
  refine Lcall (args := xa.toArray) (g := g) hg ho ?_ (he _) (h.mono fun e w' h' => ?_)
  · subst has
    simp [resolve, ev, Deferred.ofValue, invoke]
  · rcases h' with ⟨v, rfl, hk⟩ | ⟨ch, rfl, hk⟩
    · simpa only [hd, put_AA] using hk
    · exact hk
/-- the same of a function value. -/
theorem LcloP {o : Oper} {d : Nat} {g : FuncId} {x : Operand} {xs : List Operand} {ts : Array TypeId} {fi ca xa : List Value} (hg : o.guard = none) (hd : o.dst = some d) (ho : o.op = .call { callee := .value x, args := xs.toArray, argTypes := ts })
    (hx : ev n f x = .func (.func g) fi.toArray ca.toArray) (has : fi ++ (xs.map (ev n f)) ++ ca = xa) (he : ∀ args w, (callFunc g args).run P w = .ok (.enter g args) w)
    (h : Calls P g xa.toArray w fun e w' => (∃ v, e = .returned v ∧ wpList P ops Q rest (AA n (up f d v) ds) w') ∨ (∃ ch, e = .panicked ch ∧ Q (.panic ch) (AA n f ds) w')) : wpList P ops Q (o :: rest) (AA n f ds) w := by
  refine Lcall (args := xa.toArray) (g := g) hg ho ?_ (he _) (h.mono fun e w' h' => ?_)
  · subst has
    simp [resolve, hx, Deferred.ofValue, invoke]
  · rcases h' with ⟨v, rfl, hk⟩ | ⟨ch, rfl, hk⟩
    · simpa only [hd, put_AA] using hk
    · exact hk
/-- a call of a function that hands nothing back into a slot, or may panic. -/
theorem LfnE {o : Oper} {g : FuncId} {xs : List Operand} {ts : Array TypeId} {xa : List Value} (hg : o.guard = none) (ho : o.op = .call { callee := .value (.func g), args := xs.toArray, argTypes := ts })
    (has : xs.map (ev n f) = xa) (he : ∀ args w, (callFunc g args).run P w = .ok (.enter g args) w)
    (h : Calls P g xa.toArray w fun e w' => match e with
      | .returned v => wpList P ops Q rest ((AA n f ds).put o.dst v) w'
      | .panicked ch => Q (.panic ch) (AA n f ds) w'
      | .outgrown => LetsOut Q) : wpList P ops Q (o :: rest) (AA n f ds) w := by
  refine Lcall (args := xa.toArray) (g := g) hg ho ?_ (he _) h
  subst has
  simp [resolve, ev, Deferred.ofValue, invoke]
/-- a call of a function value. -/
theorem LcloE {o : Oper} {g : FuncId} {x : Operand} {xs : List Operand} {ts : Array TypeId} {fi ca xa : List Value} (hg : o.guard = none) (ho : o.op = .call { callee := .value x, args := xs.toArray, argTypes := ts })
    (hx : ev n f x = .func (.func g) fi.toArray ca.toArray) (has : fi ++ (xs.map (ev n f)) ++ ca = xa) (he : ∀ args w, (callFunc g args).run P w = .ok (.enter g args) w)
    (h : Calls P g xa.toArray w fun e w' => match e with
      | .returned v => wpList P ops Q rest ((AA n f ds).put o.dst v) w'
      | .panicked ch => Q (.panic ch) (AA n f ds) w'
      | .outgrown => LetsOut Q) : wpList P ops Q (o :: rest) (AA n f ds) w := by
  refine Lcall (args := xa.toArray) (g := g) hg ho ?_ (he _) h
  subst has
  simp [resolve, hx, Deferred.ofValue, invoke]
theorem Lpanic {o : Oper} {t : TypeId} {x : Operand} {v : Value} (hg : o.guard = none) (ho : o.op = .panic x) (hx : ev n f x = .iface t v) (k : Q (.panic [{ v := .iface t v, recovered := false }]) (AA n f ds) w) : wpList P ops Q (o :: rest) (AA n f ds) w :=
  wpList_plain hg fun K hK => by
    show o.upon P _ K Q ((execOp (AA n f ds).eval o).run P w)
    have : (execOp (AA n f ds).eval o).run P w = .halt (.panic (.iface t v)) w := by
      rw [eval_AA]; simp [execOp, ho, hx]; rfl
    rw [this, Oper.upon_panic]
    exact k
theorem Ldefer {o : Oper} {x : Operand} {fn : Fn} {xs : List Operand} {ts : Array TypeId} {fi ca xa : List Value} (hg : o.guard = none) (hd : o.dst = none) (ho : o.op = .defer { callee := .value x, args := xs.toArray, argTypes := ts })
    (hx : ev n f x = .func fn fi.toArray ca.toArray) (has : fi ++ xs.map (ev n f) = xa)
    (k : wpList P ops Q rest (AA n f ({ target := .fn fn ca.toArray, args := xa.toArray } :: ds)) w) : wpList P ops Q (o :: rest) (AA n f ds) w :=
  wpList_plain hg fun K hK => by
    show o.upon P _ K Q ((execOp (AA n f ds).eval o).run P w)
    have : (execOp (AA n f ds).eval o).run P w = .ok (.defer { target := .fn fn ca.toArray, args := xa.toArray }) w := by
      rw [eval_AA]; subst has; simp [execOp, ho, resolve, hx, Deferred.ofValue]
    rw [this, Oper.upon_defer, hd, Act.put]
    exact hK _ _ k
end

/-! ### a region that draws its order -/
section
variable {P : Program} {w0 w : World} {L : List Ent} {C : World → Prop} {ops : Array Oper} {Q : Act → Prop} {rest : List Oper} {n : Nat} {f : Nat → Value} {ds : List Deferred}

theorem Q1 {o : Oper} {d : Nat} {v : Value} (hg : o.guard = none) (hd : o.dst = some d) (h : Gives P C o (ev n f) v) (k : wpQuiet P ops C Q rest (AA n (up f d v) ds)) : wpQuiet P ops C Q (o :: rest) (AA n f ds) := by
  refine wpQuiet_step fun K hK => ?_
  rw [if_pos (by simp [Region.wanted, hg])]
  refine ⟨v, fun w hw => ?_, ?_⟩
  · unfold Oper.quietAt
    rw [eval_AA, h w hw]
    exact ⟨rfl, rfl⟩
  · rw [hd, put_AA]; exact hK _ k
theorem Q1g {o : Oper} {d j s : Nat} {b : Bool} {v : Value} (hg : o.guard = some (j, b)) (hj : (ops[j]?).bind (·.dst) = some s) (hs : ev n f (.tmp s) = .bool b) (hd : o.dst = some d) (h : Gives P C o (ev n f) v) (k : wpQuiet P ops C Q rest (AA n (up f d v) ds)) : wpQuiet P ops C Q (o :: rest) (AA n f ds) := by
  refine wpQuiet_step fun K hK => ?_
  rw [if_pos (by simp [Region.wanted, hg, AA, yielded_AA hj hs])]
  refine ⟨v, fun w hw => ?_, ?_⟩
  · unfold Oper.quietAt
    rw [eval_AA, h w hw]
    exact ⟨rfl, rfl⟩
  · rw [hd, put_AA]; exact hK _ k
theorem Qno {o : Oper} {d j s : Nat} {b b' : Bool} (hg : o.guard = some (j, b)) (hj : (ops[j]?).bind (·.dst) = some s) (hs : ev n f (.tmp s) = .bool b') (hb : b' = !b) (hd : o.dst = some d)
    (k : wpQuiet P ops C Q rest (AA n (up f d undef) ds)) : wpQuiet P ops C Q (o :: rest) (AA n f ds) := by
  refine wpQuiet_step fun K hK => ?_
  subst hb
  rw [if_neg (by simp [Region.wanted, hg, AA, yielded_AA hj hs]), hd, put_AA]
  exact hK _ k
theorem Qno' {o : Oper} {d j s : Nat} {b : Bool} (hg : o.guard = some (j, b)) (hj : (ops[j]?).bind (·.dst) = some s) (hs : f s = undef) (hd : o.dst = some d)
    (k : wpQuiet P ops C Q rest (AA n (up f d undef) ds)) : wpQuiet P ops C Q (o :: rest) (AA n f ds) := by
  refine wpQuiet_step fun K hK => ?_
  have hw : Region.wanted o (yielded ops (AA n f ds).tmps) = false := by
    have : yielded ops (fr n f) j = none := by
      unfold yielded
      rw [hj]
      simp only [Option.bind_some]
      by_cases h : s < n
      · simp [fr, h, hs, undef]
      · simp [fr, h]
    simp [Region.wanted, hg, AA, this]
  rw [if_neg (by rw [hw]; simp), hd, put_AA]
  exact hK _ k
/-- a call that hands back one value whatever world of the class it meets, and stays in the class. -/
theorem Qfn {o : Oper} {d : Nat} {g : FuncId} {xs : List Operand} {ts : Array TypeId} {xa : List Value} {v : Value} (hg : o.guard = none) (hd : o.dst = some d) (ho : o.op = .call { callee := .value (.func g), args := xs.toArray, argTypes := ts })
    (has : xs.map (ev n f) = xa) (he : ∀ args w, (callFunc g args).run P w = .ok (.enter g args) w)
    (h : ∀ w, C w → Calls P g xa.toArray w fun e w' => e = .returned v ∧ C w') (k : wpQuiet P ops C Q rest (AA n (up f d v) ds)) : wpQuiet P ops C Q (o :: rest) (AA n f ds) := by
  refine wpQuiet_step fun K hK => ?_
  rw [if_pos (by simp [Region.wanted, hg])]
  refine ⟨v, fun w hw => ?_, ?_⟩
  · have : execOp (AA n f ds).eval o = callFunc g xa.toArray := by
      rw [eval_AA]; subst has; simp [execOp, ho, resolve, ev, Deferred.ofValue, invoke]
    unfold Oper.quietAt
    rw [this, he _ w]
    exact ⟨rfl, h w hw⟩
  · rw [hd, put_AA]; exact hK _ k
theorem Qend {a : Act} (h : Q a) : wpQuiet P ops C Q [] a := h

/-- a region that draws, in which all is quiet. -/
theorem c_draw {id : Nat} {l : List Oper} {Q : Exit → Act → World → Prop} (H : Heap w0 L w) (hm : P.follows .mixedOrders = true) (hB : Region.lexB .any l.toArray = true)
    (h : wpQuiet P l.toArray (Heap w0 L) (fun a' => ∀ w', Heap w0 L w' → Q .normal a' w') l (AA n f ds)) : (Code.region id l.toArray true).wp P Q (AA n f ds) w :=
  wp_region_quiet (C := Heap w0 L) hm hB (H.drawn _) (by simpa using h)

theorem S1 {o : Oper} {d : Nat} {v : Value} (hg : o.guard = none) (hd : o.dst = some d) (H : Heap w0 L w) (h : Gives P (Heap w0 L) o (ev n f) v) (k : wpStill P ops w Q rest (AA n (up f d v) ds)) : wpStill P ops w Q (o :: rest) (AA n f ds) := by
  refine wpStill_step fun K hK => ?_
  rw [if_pos (by simp [Region.wanted, hg])]
  unfold Oper.still
  rw [eval_AA, h w H, Oper.stillUpon_value, hd, put_AA]
  exact hK _ k
theorem Send {a : Act} (h : Q a) : wpStill P ops w Q [] a := h
/-- a region that draws: up to operation m all is quiet, from there on the order is fixed. -/
theorem c_tail {id : Nat} {l : List Oper} {Q : Exit → Act → World → Prop} (m : Nat) (H : Heap w0 L w) (hm : P.follows .mixedOrders = true) (hB : Region.lexTailB .any l.toArray m = true)
    (h : ∀ w', Heap w0 L w' → wpStill P l.toArray w' (fun a' => wpList P l.toArray Q (l.drop m) a' w') (l.take m) (AA n f ds)) : (Code.region id l.toArray true).wp P Q (AA n f ds) w :=
  wp_region_still_tail m hm hB (h _ (H.drawn _))
end

/-! ### control -/
section
variable {P : Program} {w0 w : World} {L : List Ent} {Q : Exit → Act → World → Prop} {n : Nat} {f : Nat → Value} {ds : List Deferred} {a : Act}

theorem c_region {id : Nat} {l : List Oper} (h : wpList P l.toArray Q l (AA n f ds) w) : (Code.region id l.toArray false).wp P Q (AA n f ds) w := wp_region_lit h
theorem c_if {c : Operand} {x y : Code} {p : Prop} [Decidable p] (hc : ev n f c = .bool (decide p)) (ht : p → x.wp P Q (AA n f ds) w) (hf : ¬ p → y.wp P Q (AA n f ds) w) : (Code.cond c x y).wp P Q (AA n f ds) w :=
  wp_cond_split (t := decide p) (by rw [eval_AA]; exact hc) (fun h => ht (of_decide_eq_true h)) (fun h => hf (of_decide_eq_false h))
theorem c_ifb {c : Operand} {x y : Code} {b : Bool} (hc : ev n f c = .bool b) (ht : b = true → x.wp P Q (AA n f ds) w) (hf : b = false → y.wp P Q (AA n f ds) w) : (Code.cond c x y).wp P Q (AA n f ds) w :=
  wp_cond_split (t := b) (by rw [eval_AA]; exact hc) ht hf
theorem c_t {c : Operand} {x y : Code} (hc : ev n f c = .bool true) (ht : x.wp P Q (AA n f ds) w) : (Code.cond c x y).wp P Q (AA n f ds) w := wp_cond_true (by rw [eval_AA]; exact hc) ht
theorem c_f {c : Operand} {x y : Code} (hc : ev n f c = .bool false) (hf : y.wp P Q (AA n f ds) w) : (Code.cond c x y).wp P Q (AA n f ds) w := wp_cond_false (by rw [eval_AA]; exact hc) hf

theorem e_list {ops : Array Oper} (h : Q .normal a w) : wpList P ops Q [] a w := h
theorem e_then {next : Act → World → Prop} (h : next a w) : Exit.then next Q .normal a w := h
theorem e_then_exit {next : Act → World → Prop} {i : Nat} (h : Q (.exit i) a w) : Exit.then next Q (.exit i) a w := h
theorem e_then_ret {next : Act → World → Prop} (h : Q .ret a w) : Exit.then next Q .ret a w := h
theorem e_then_panic {next : Act → World → Prop} {ch : List PanicEntry} (h : Q (.panic ch) a w) : Exit.then next Q (.panic ch) a w := h
theorem e_block {i : Nat} (h : Q .normal a w) : Exit.inBlock i Q .normal a w := h
theorem e_block_ret {i : Nat} (h : Q .ret a w) : Exit.inBlock i Q .ret a w := h
theorem e_block_panic {i : Nat} {ch : List PanicEntry} (h : Q (.panic ch) a w) : Exit.inBlock i Q (.panic ch) a w := h
theorem e_block_here {i : Nat} (h : Q .normal a w) : Exit.inBlock i Q (.exit i) a w := by simpa [Exit.inBlock] using h
theorem e_block_on {i j : Nat} (hij : Nat.beq j i = false) (h : Q (.exit j) a w) : Exit.inBlock i Q (.exit j) a w := by
  have : ¬ j = i := fun e => by subst e; simp at hij
  simpa [Exit.inBlock, this] using h

/-- the ways meet again: what holds there is stated first. -/
theorem c_cut {x y : Code} (J : (Nat → Value) → World → Prop) (hy : ∀ f w, J f w → y.wp P Q (AA n f ds) w) (hx : x.wp P (Exit.then (fun a w => ∃ f', a = AA n f' ds ∧ J f' w) Q) (AA n f ds) w) : (Code.seq x y).wp P Q (AA n f ds) w := by
  refine wp_seq (wp_mono hx fun e a w h => ?_)
  cases e with
  | normal => obtain ⟨f', rfl, h⟩ := h; exact hy _ _ h
  | exit => exact h
  | goto => exact h
  | ret => exact h
  | panic => exact h
  | outgrown => exact h

theorem least_ex {I : Nat → Prop} : ∀ m, I m → ∃ k, I k ∧ ∀ j, I j → k ≤ j := by
  intro m
  induction m using Nat.strongRecOn with
  | _ m ih =>
    intro hm
    by_cases h : ∃ j, j < m ∧ I j
    · obtain ⟨j, hj, hI⟩ := h; exact ih j hj hI
    · exact ⟨m, hm, fun j hj => Nat.le_of_not_lt fun hlt => h ⟨j, hlt, hj⟩⟩
open Classical in
noncomputable def leastOf (I : Nat → Prop) : Nat := if h : ∃ k, I k ∧ ∀ j, I j → k ≤ j then Classical.choose h else 0
theorem leastOf_spec {I : Nat → Prop} {m : Nat} (h : I m) : I (leastOf I) ∧ leastOf I ≤ m := by
  have hx := least_ex m h
  unfold leastOf
  rw [dif_pos hx]
  have := Classical.choose_spec hx
  exact ⟨this.1, this.2 m h⟩
/-- a loop: J is what holds at each round's head, of a state of any kind; μ falls. -/
theorem c_loop {ι : Type} {c : Code} (J : ι → (Nat → Value) → World → Prop) (μ : ι → Nat) (i0 : ι) (h0 : J i0 f w)
    (round : ∀ i f w, J i f w → c.wp P (Exit.then (fun a w => ∃ i' f', a = AA n f' ds ∧ J i' f' w ∧ μ i' < μ i) Q) (AA n f ds) w) : (Code.loop c).wp P Q (AA n f ds) w := by
  refine wp_loop (fun a w => ∃ i f, a = AA n f ds ∧ J i f w) (fun a w => leastOf fun m => ∃ i f, a = AA n f ds ∧ J i f w ∧ μ i = m) ⟨i0, f, rfl, h0⟩ ?_
  rintro a w ⟨i, f, ha, hJ⟩
  obtain ⟨⟨i1, f1, ha1, hJ1, hm⟩, _⟩ := leastOf_spec (I := fun m => ∃ i f, a = AA n f ds ∧ J i f w ∧ μ i = m) ⟨i, f, ha, hJ, rfl⟩
  have := round i1 f1 w hJ1
  rw [← ha1] at this
  refine wp_mono this fun e a' w' h => ?_
  cases e with
  | normal =>
    obtain ⟨i', f', ha', hJ', hlt⟩ := h
    refine ⟨⟨i', f', ha', hJ'⟩, ?_⟩
    have := (leastOf_spec (I := fun m => ∃ i f, a' = AA n f ds ∧ J i f w' ∧ μ i = m) ⟨i', f', ha', hJ', rfl⟩).2
    omega
  | exit => exact h
  | goto => exact h
  | ret => exact h
  | panic => exact h
  | outgrown => exact h

/-! ### the way in, the way out -/
theorem c_enter {k : FuncId} {fn : Func} {c : Code} {xa : List Value} {R : Ending → World → Prop} (n : Nat) (hf : P.funcs[k]? = some fn) (hb : fn.body = some c) (hn : fn.ntmps = n) (hl : Nat.ble xa.length n = true)
    (h : c.wp P (bodyPost P fn R) (AA n (ini xa) []) w) : Calls P k xa.toArray w R := by
  refine calls_of_wp hf hb ?_
  have := fr_ini n xa (Nat.le_of_ble_eq_true hl)
  rw [hn, List.size_toArray, ← this]
  exact h
theorem get_AA (t : Nat) : (AA n f ds).tmps[t]?.getD undef = ev n f (.tmp t) := by
  have := getD_fr n f t
  simp only [Array.getD_eq_getD_getElem?] at this
  exact this
theorem r_0 {fn : Func} {R : Ending → World → Prop} (hr : fn.results = #[]) (h : R (.returned (.tuple #[])) w) : bodyPost P fn R .ret (AA n f []) w :=
  ⟨rfl, .tuple #[], by simp [results, hr], h⟩
theorem r_0n {fn : Func} {R : Ending → World → Prop} (hr : fn.results = #[]) (h : R (.returned (.tuple #[])) w) : bodyPost P fn R .normal (AA n f []) w :=
  ⟨rfl, .tuple #[], by simp [results, hr], h⟩
theorem r_1 {fn : Func} {R : Ending → World → Prop} {t : Nat} {v : Value} (hr : fn.results = #[.tmp t]) (hv : ev n f (.tmp t) = v) (h : R (.returned v) w) : bodyPost P fn R .ret (AA n f []) w := by
  refine ⟨rfl, v, ?_, h⟩
  have : (AA n f []).tmps[t]?.getD undef = v := by rw [← hv]; exact get_AA t
  simp [results, hr, this]
theorem r_2 {fn : Func} {R : Ending → World → Prop} {t1 t2 : Nat} {v1 v2 : Value} (hr : fn.results = #[.tmp t1, .tmp t2]) (h1 : ev n f (.tmp t1) = v1) (h2 : ev n f (.tmp t2) = v2) (h : R (.returned (.tuple #[v1, v2])) w) : bodyPost P fn R .ret (AA n f []) w := by
  refine ⟨rfl, .tuple #[v1, v2], ?_, h⟩
  have e1 : (AA n f []).tmps[t1]?.getD undef = v1 := by rw [← h1]; exact get_AA t1
  have e2 : (AA n f []).tmps[t2]?.getD undef = v2 := by rw [← h2]; exact get_AA t2
  simp [results, hr, e1, e2]
theorem r_3 {fn : Func} {R : Ending → World → Prop} {t1 t2 t3 : Nat} {v1 v2 v3 : Value} (hr : fn.results = #[.tmp t1, .tmp t2, .tmp t3]) (h1 : ev n f (.tmp t1) = v1) (h2 : ev n f (.tmp t2) = v2) (h3 : ev n f (.tmp t3) = v3) (h : R (.returned (.tuple #[v1, v2, v3])) w) : bodyPost P fn R .ret (AA n f []) w := by
  refine ⟨rfl, .tuple #[v1, v2, v3], ?_, h⟩
  have e1 : (AA n f []).tmps[t1]?.getD undef = v1 := by rw [← h1]; exact get_AA t1
  have e2 : (AA n f []).tmps[t2]?.getD undef = v2 := by rw [← h2]; exact get_AA t2
  have e3 : (AA n f []).tmps[t3]?.getD undef = v3 := by rw [← h3]; exact get_AA t3
  simp [results, hr, e1, e2, e3]
/-- a result that lies in memory. -/
theorem r_c {fn : Func} {R : Ending → World → Prop} {s : Nat} {t : TypeId} {p : Addr} {v : Value} (hr : fn.results = #[.cell s t]) (hp : ev n f (.tmp s) = .pointer (some p)) (hv : (loadVar t p).run P w = .ok v w) (h : R (.returned v) w) : bodyPost P fn R .ret (AA n f []) w := by
  refine ⟨rfl, v, ?_, h⟩
  have e1 : (AA n f []).tmps[s]?.getD undef = .pointer (some p) := by rw [← hp]; exact get_AA s
  simp [results, hr, e1, asAddr, hv]
theorem run_loadAgg {t : TypeId} {p : Addr} {vs : List Value} (ha : ∀ w, (isAgg t).run P w = .ok true w) (hs : ∀ w, (sizeOf t).run P w = .ok vs.length w) (hc : ∀ j u, vs[j]? = some u → w.cell? (p.add j) = some u) : (loadVar t p).run P w = .ok (.agg vs.toArray) w := by
  have := run_loadCells_list (P := P) w p vs hc
  simp [loadVar, ha w, hs w, this]
theorem r_panic {fn : Func} {R : Ending → World → Prop} {ch : List PanicEntry} (h : R (.panicked ch) w) : bodyPost P fn R (.panic ch) (AA n f []) w := ⟨rfl, h⟩
end
end Go.Eng
namespace Go.Eng
/-! ### a test of several parts: its ways meet again behind the region -/
def memb : Nat → List Nat → Bool
  | _, [] => false
  | t, s :: l => cond (Nat.beq t s) true (memb t l)
def sel (live : List Nat) (f g : Nat → Value) : Nat → Value := fun t => cond (memb t live) (f t) (g t)
def AllEq (F f : Nat → Value) : List Nat → Prop
  | [] => True
  | s :: l => F s = f s ∧ AllEq F f l
theorem AllEq.sel {F f : Nat → Value} : ∀ {l : List Nat}, AllEq F f l → F = Go.Eng.sel l f F := by
  intro l h
  funext t
  unfold Go.Eng.sel
  cases hm : memb t l with
  | false => rfl
  | true =>
    show F t = f t
    induction l with
    | nil => cases hm
    | cons s l ih =>
      by_cases hs : t = s
      · subst hs; exact h.1
      · have hb : Nat.beq t s = false := by
          cases hb : Nat.beq t s with
          | false => rfl
          | true => exact absurd (Nat.eq_of_beq_eq_true hb) hs
        simp only [memb, hb, cond_false] at hm
        exact ih h.2 hm
theorem up_self (f : Nat → Value) (d : Nat) (v : Value) (h : f d = v) : f = up f d v := by
  funext t
  unfold up
  by_cases hs : t = d
  · subst hs; have : Nat.beq t t = true := by simp
    rw [this]; exact h
  · have hb : Nat.beq t d = false := by
      cases hb : Nat.beq t d with
      | false => rfl
      | true => exact absurd (Nat.eq_of_beq_eq_true hb) hs
    rw [hb]; rfl
section
variable {P : Program} {w0 w : World} {L : List Ent} {Q : Exit → Act → World → Prop} {n : Nat} {f : Nat → Value} {ds : List Deferred} {ops : Array Oper} {rest : List Oper}
theorem c_cutR {x y : Code} (live : List Nat) (d : Nat) (B : Prop) [Decidable B] (L' : List Ent) (_H : Heap w0 L w)
    (hx : x.wp P (Exit.then (fun a w => ∃ f', a = AA n f' ds ∧ f' d = .bool (decide B) ∧ AllEq f' f live ∧ Heap w0 L' w) Q) (AA n f ds) w)
    (hy : ∀ g w, Heap w0 L' w → y.wp P Q (AA n (up (sel live f g) d (.bool (decide B))) ds) w) : (Code.seq x y).wp P Q (AA n f ds) w := by
  refine wp_seq (wp_mono hx fun e a w h => ?_)
  cases e with
  | normal =>
    obtain ⟨f', rfl, h1, h2, h3⟩ := h
    have := hy f' w h3
    have e1 : f' = up (sel live f f') d (.bool (decide B)) := by rw [← h2.sel]; exact up_self f' d _ h1
    rw [← e1] at this
    exact this
  | exit => exact h
  | goto => exact h
  | ret => exact h
  | panic => exact h
  | outgrown => exact h
/-- the two ways of a guard. -/
theorem L_split {o : Oper} {d : Nat} {x : Operand} {p : Prop} [Decidable p] (hg : o.guard = none) (hd : o.dst = some d) (ho : o.op = .move x) (hx : ev n f x = .bool (decide p))
    (ht : p → wpList P ops Q rest (AA n (up f d (.bool true)) ds) w) (hf : ¬ p → wpList P ops Q rest (AA n (up f d (.bool false)) ds) w) : wpList P ops Q (o :: rest) (AA n f ds) w := by
  by_cases hp : p
  · exact L1 hg hd (Heap.init w) (y_move (v := .bool true) ho (by rw [hx]; simp [hp])) (ht hp)
  · exact L1 hg hd (Heap.init w) (y_move (v := .bool false) ho (by rw [hx]; simp [hp])) (hf hp)
theorem L_splitb {o : Oper} {d : Nat} {x : Operand} {b : Bool} (hg : o.guard = none) (hd : o.dst = some d) (ho : o.op = .move x) (hx : ev n f x = .bool b)
    (ht : b = true → wpList P ops Q rest (AA n (up f d (.bool true)) ds) w) (hf : b = false → wpList P ops Q rest (AA n (up f d (.bool false)) ds) w) : wpList P ops Q (o :: rest) (AA n f ds) w := by
  cases b with
  | true => exact L1 hg hd (Heap.init w) (y_move (v := .bool true) ho hx) (ht rfl)
  | false => exact L1 hg hd (Heap.init w) (y_move (v := .bool false) ho hx) (hf rfl)
/-- the same where the source stands under a guard of its own. -/
theorem L_splitg {o : Oper} {d j s : Nat} {b : Bool} {x : Operand} {p : Prop} [Decidable p] (hg : o.guard = some (j, b)) (hj : (ops[j]?).bind (·.dst) = some s) (hs : ev n f (.tmp s) = .bool b) (hd : o.dst = some d) (ho : o.op = .move x) (hx : ev n f x = .bool (decide p))
    (ht : p → wpList P ops Q rest (AA n (up f d (.bool true)) ds) w) (hf : ¬ p → wpList P ops Q rest (AA n (up f d (.bool false)) ds) w) : wpList P ops Q (o :: rest) (AA n f ds) w := by
  by_cases hp : p
  · exact L1g hg hj hs hd (Heap.init w) (y_move (v := .bool true) ho (by rw [hx]; simp [hp])) (ht hp)
  · exact L1g hg hj hs hd (Heap.init w) (y_move (v := .bool false) ho (by rw [hx]; simp [hp])) (hf hp)
end
section
variable {P : Program} {C : World → Prop} {Q : Act → Prop} {n : Nat} {f : Nat → Value} {ds : List Deferred} {ops : Array Oper} {rest : List Oper}
theorem Q_split {o : Oper} {d : Nat} {x : Operand} {p : Prop} [Decidable p] (hg : o.guard = none) (hd : o.dst = some d) (ho : o.op = .move x) (hx : ev n f x = .bool (decide p))
    (ht : p → wpQuiet P ops C Q rest (AA n (up f d (.bool true)) ds)) (hf : ¬ p → wpQuiet P ops C Q rest (AA n (up f d (.bool false)) ds)) : wpQuiet P ops C Q (o :: rest) (AA n f ds) := by
  by_cases hp : p
  · exact Q1 hg hd (y_move (v := .bool true) ho (by rw [hx]; simp [hp])) (ht hp)
  · exact Q1 hg hd (y_move (v := .bool false) ho (by rw [hx]; simp [hp])) (hf hp)
theorem Q_splitg {o : Oper} {d j s : Nat} {b : Bool} {x : Operand} {p : Prop} [Decidable p] (hg : o.guard = some (j, b)) (hj : (ops[j]?).bind (·.dst) = some s) (hs : ev n f (.tmp s) = .bool b) (hd : o.dst = some d) (ho : o.op = .move x) (hx : ev n f x = .bool (decide p))
    (ht : p → wpQuiet P ops C Q rest (AA n (up f d (.bool true)) ds)) (hf : ¬ p → wpQuiet P ops C Q rest (AA n (up f d (.bool false)) ds)) : wpQuiet P ops C Q (o :: rest) (AA n f ds) := by
  by_cases hp : p
  · exact Q1g hg hj hs hd (y_move (v := .bool true) ho (by rw [hx]; simp [hp])) (ht hp)
  · exact Q1g hg hj hs hd (y_move (v := .bool false) ho (by rw [hx]; simp [hp])) (hf hp)
end
end Go.Eng
