/-
  The engine, part 7: deferred calls, recover.
-/
import Derived.Test.YtjfifehofflaeaaEng6
import Derived.Defers
import Derived.Recover
namespace Go.Eng
open Go.RowKit
set_option linter.unusedSimpArgs false
set_option linter.unusedVariables false
section
variable {P : Program} {w : World} {n : Nat}

theorem c_enterD {k : FuncId} {fn : Func} {c : Code} {xa : List Value} {R : Ending → World → Prop} (n : Nat) (hf : P.funcs[k]? = some fn) (hb : fn.body = some c) (hn : fn.ntmps = n) (hl : Nat.ble xa.length n = true)
    (h : c.wp P (bodyPostD P fn R) (AA n (ini xa) []) w) : Calls P k xa.toArray w R := by
  refine calls_of_wp_defers hf hb ?_
  have := fr_ini n xa (Nat.le_of_ble_eq_true hl)
  rw [hn, List.size_toArray, ← this]
  exact h
/-- a return ahead of any defer -/
theorem rD_1 {fn : Func} {R : Ending → World → Prop} {f : Nat → Value} {t : Nat} {v : Value} (hr : fn.results = #[.tmp t]) (hv : ev n f (.tmp t) = v) (h : R (.returned v) w) : bodyPostD P fn R .ret (AA n f []) w := by
  have : (AA n f []).tmps[t]?.getD undef = v := by rw [← hv]; exact get_AA t
  show Leaves P fn _ R [] .returning w
  refine ⟨v, ?_, h⟩
  simp [results, hr, this]
theorem leaves_one {fn : Func} {tmps : Array Value} {R : Ending → World → Prop} {u : FrameMode} {f : FuncId} {xa ca : List Value} (hu : u ≠ .run) (he : ∀ args w, (callFunc f args).run P w = .ok (.enter f args) w)
    (h : CallsD P f (xa ++ ca).toArray u w fun e u' w' => ∃ v r, e = .returned v ∧ settle u' = .returning ∧ (results fn tmps).run P w' = .ok r w' ∧ R (.returned r) w') :
    Leaves P fn tmps R [{ target := .fn (.func f) ca.toArray, args := xa.toArray }] u w := by
  refine ⟨hu, .func f, ca.toArray, f, (xa ++ ca).toArray, rfl, by simp [invoke, he], ?_⟩
  intro c cs hc
  obtain ⟨e, u', w', fr, ⟨v, r, rfl, hs, hr, hR⟩, rest⟩ := h c cs hc
  refine ⟨_, u', w', fr, ?_, rest⟩
  show Leaves P fn tmps R [] (settle u') w'
  rw [hs]
  exact ⟨r, hr, hR⟩
theorem rD_ret {fn : Func} {R : Ending → World → Prop} {f : Nat → Value} {g : FuncId} {xa ca : List Value} {t : Nat} {v : Value} (hr : fn.results = #[.tmp t]) (hv : ev n f (.tmp t) = v) (he : ∀ args w, (callFunc g args).run P w = .ok (.enter g args) w)
    (h : CallsD P g (xa ++ ca).toArray .returning w fun e u' w' => (∃ v, e = .returned v) ∧ settle u' = .returning ∧ R (.returned v) w') :
    bodyPostD P fn R .ret (AA n f [{ target := .fn (.func g) ca.toArray, args := xa.toArray }]) w := by
  have hq : (AA n f []).tmps[t]?.getD undef = v := by rw [← hv]; exact get_AA t
  refine leaves_one (by simp) he ?_
  intro c cs hc
  obtain ⟨e, u', w', fr, ⟨⟨v', rfl⟩, hs, hR⟩, rest⟩ := h c cs hc
  exact ⟨_, u', w', fr, ⟨v', v, rfl, hs, by simp only [AA] at hq ⊢; simp [results, hr, hq], hR⟩, rest⟩
theorem rD_panic {fn : Func} {R : Ending → World → Prop} {f : Nat → Value} {g : FuncId} {xa ca : List Value} {t : Nat} {v : Value} {ch : List PanicEntry} (hr : fn.results = #[.tmp t]) (hv : ev n f (.tmp t) = v) (he : ∀ args w, (callFunc g args).run P w = .ok (.enter g args) w)
    (h : CallsD P g (xa ++ ca).toArray (.panicking ch) w fun e u' w' => (∃ v, e = .returned v) ∧ settle u' = .returning ∧ R (.returned v) w') :
    bodyPostD P fn R (.panic ch) (AA n f [{ target := .fn (.func g) ca.toArray, args := xa.toArray }]) w := by
  have hq : (AA n f []).tmps[t]?.getD undef = v := by rw [← hv]; exact get_AA t
  refine leaves_one (by simp) he ?_
  intro c cs hc
  obtain ⟨e, u', w', fr, ⟨⟨v', rfl⟩, hs, hR⟩, rest⟩ := h c cs hc
  exact ⟨_, u', w', fr, ⟨v', v, rfl, hs, by simp only [AA] at hq ⊢; simp [results, hr, hq], hR⟩, rest⟩

theorem run_recover {o : Oper} {ρ : Operand → Value} {c : Call} (ho : o.op = .call c) (hc : c.callee = .builtin .recover) : (execOp ρ o).run P w = .ok .recover w := by
  simp [execOp, ho, resolve, hc, invoke, builtin]
/-- the way into a deferred function that begins with a recover: what it recovers is v; the frame below is left in the mode U. -/
theorem d_enter {k : FuncId} {fn : Func} {rest : Code} {id : Nat} {o0 o1 : Oper} {c : Call} {d0 d1 : Nat} {xa : List Value} {u U : FrameMode} {v : Value} {R : Ending → FrameMode → World → Prop} (n : Nat)
    (hf : P.funcs[k]? = some fn) (hb : fn.body = some (.seq (.region id #[o0, o1] false) rest)) (hn : fn.ntmps = n) (hl : Nat.ble xa.length n = true)
    (h0 : o0.op = .call c) (hc : c.callee = .builtin .recover) (hg0 : o0.guard = none) (hd0 : o0.dst = some d0) (h1 : o1.op = .assign (.tmp d0)) (hg1 : o1.guard = none) (hd1 : o1.dst = some d1) (hdn : Nat.blt d0 n = true)
    (hrec : ∀ (c₀ : Frame) (cs : List Frame), c₀.mode = u → (recoverD (c₀ :: cs) = some (v, { c₀ with mode := U } :: cs) ∨ (recoverD (c₀ :: cs) = none ∧ v = .nilIface ∧ U = u)))
    (h : rest.wp P (bodyPost P fn fun e w => R e U w) (AA n (up (up (ini xa) d0 v) d1 v) []) w) : CallsD P k xa.toArray u w R := by
  refine callsD_of_wpS hf hb fun c₀ cs hu => ?_
  have hini := fr_ini n xa (Nat.le_of_ble_eq_true hl)
  rw [hn, List.size_toArray, ← hini]
  show Code.wpS P _ _ (AA n (ini xa) []) _ _
  have hfin : ∀ cs', cs' = { c₀ with mode := U } :: cs → rest.wpS P (bodyPostS P fn c₀ cs R) (AA n (up (up (ini xa) d0 v) d1 v) []) cs' w := by
    intro cs' hcs
    refine wpS_of_wp (wp_mono h fun e a w' hq => ?_)
    cases e with
    | normal => exact ⟨hq.1, U, hcs, hq.2⟩
    | ret => exact ⟨hq.1, U, hcs, hq.2⟩
    | panic ch => exact ⟨hq.1, U, hcs, hq.2⟩
    | exit => exact hq
    | goto => exact hq
    | outgrown => exact ⟨U, hq⟩
  refine wpS_seq (wpS_region ?_)
  have hr2 : List.range (#[o0, o1] : Array Oper).size = [0, 1] := rfl
  rw [hr2]
  have e0 : (#[o0, o1] : Array Oper)[0]? = some o0 := rfl
  have e1 : (#[o0, o1] : Array Oper)[1]? = some o1 := rfl
  have hst : ∀ cs', cs' = { c₀ with mode := U } :: cs → wpOpsS P #[o0, o1] (Exit.thenS (rest.wpS P (bodyPostS P fn c₀ cs R)) (bodyPostS P fn c₀ cs R)) [1] (AA n (up (ini xa) d0 v) []) cs' w := by
    intro cs' hcs
    have hrun : (execOp (AA n (up (ini xa) d0 v) []).eval o1).run P w = .ok (.value v) w := by
      rw [eval_AA]
      have : ev n (up (ini xa) d0 v) (.tmp d0) = v := by
        simp only [ev, hdn, cond_true, up]
        have : Nat.beq d0 d0 = true := by simp
        rw [this]; rfl
      simp [execOp, h1, this]
    simp only [wpOpsS, e1, Region.wanted, hg1, if_true, hrun, Oper.upon, hd1, put_AA]
    exact hfin cs' hcs
  have hrun0 := run_recover (P := P) (w := w) (ρ := (AA n (ini xa) []).eval) h0 hc
  rw [wpOpsS]
  simp only [e0, Region.wanted, hg0, if_true, hrun0, hd0, put_AA]
  rcases hrec c₀ cs hu with hr | ⟨hr, hv, hU⟩
  · rw [hr]; exact hst _ rfl
  · rw [hr]
    simp only
    rw [← hv]
    refine hst _ ?_
    rw [hU, ← hu]
end
end Go.Eng
