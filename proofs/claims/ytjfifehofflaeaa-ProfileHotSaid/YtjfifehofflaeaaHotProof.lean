/-
  ProfileHot holds: for every profile and every number that the form lets in, the program's list of the functions that ran most is the document's, asked twice and again; what was handed in is left as it was, answers are new memory; the law answers true; the arguments read as they did. No condition beyond the row's own.
-/
import Derived.Test.YtjfifehofflaeaaLawHot
import Derived.Test.YtjfifehofflaeaaOpenP
import Derived.Test.YtjfifehofflaeaaRows
namespace Go.Proofs.Ytjfifehofflaeaa
open Go.RowKit Go.Eng Go.ChangeShapes
set_option linter.unusedVariables false

theorem own : ownKnob Try.prog.godebug = Option.none := by kernel_rfl
theorem laidOut : laidOutB Try.prog = true := by kernel_rfl

theorem hot_reads : Try.f6.params.toList.all (fun t => Try.prog.readableRec t && decide (t < Try.prog.types.size)) = true := by kernel_rfl

set_option maxRecDepth 100000 in
theorem hot_contract (H : Type) (enc : TypeId × Value → H) (W : World) (base : Nat) (args : Array Value) (ds gs : List (DataW H)) (before : List MemPlace)
    (hval : ∀ (j : Nat) t v, Try.f6.params[j]? = some t → args[j]? = some v → Value.okWide Try.prog W .any base t v)
    (hW : DataW.Whole enc Try.prog Try.f6.params.toList Rows.profileHotSpec.vars false W args.toList ds gs before)
    (hsz0 : (DataW.weightsEach Try.prog (Try.f6.params.toList ++ Rows.profileHotSpec.plain.varTypes Try.prog) (ds ++ gs)).all (· ≤ reachBytes) = true) :
    Calls Try.prog 6 args W fun e W' => ∃ v, e = .returned v ∧ Rows.profileHotSpec.post enc Try.prog Try.f6 false true false false W args v W' := by
  have hW' := hW
  obtain ⟨p, q, hA0, hV, rfl, hfz, hnd⟩ := hW
  have hA : DataW.TrodAll enc Try.prog W 0 (fun _ => true) true Try.f6.params.toList args.toList ds p := hA0
  have hsz := hsz0
  rw [Try.params6] at hA hval hsz
  obtain ⟨v0, vs0, d0, ds0, p0, q0, hargs, rfl, rfl, h0, r0⟩ := trodAll_cons hA
  obtain ⟨v1, vs1, d1, ds1, p1, q1, rfl, rfl, rfl, h1, r1⟩ := trodAll_cons r0
  obtain ⟨rfl, rfl, rfl⟩ := trodAll_nil r1
  obtain rfl : args = #[v0, v1] := by cases args; simp_all
  obtain ⟨rfl, rfl⟩ := trodVars_none hV
  obtain ⟨k, rfl, -, -, -⟩ := open_int Try.underlying2 (hval 1 2 v1 rfl rfl) h1
  have hv0 : Value.okWide Try.prog W .any base 45 v0 := hval 0 45 v0 rfl rfl
  obtain ⟨A, cap, fs, B, cc, rfl, hP, hcap, hb, hn, hR⟩ := Go.Pf.open_profile (j := 0) hv0 h0 hsz rfl rfl
  refine (Go.Pf.profileHot_calls (w0 := W) hP hb hn (fun j => (hR j 0).c)).mono fun e W' ⟨he, K⟩ => ?_
  subst he
  exact ⟨_, rfl, law_post laidOut hot_reads rfl hW' rfl rfl Try.underlying4 K.base⟩

set_option maxRecDepth 100000 in
theorem hot_lifted (os : Os) (started : os.Started) (H : Type) (enc : TypeId × Value → H) :
    ReturnsInHanded {} Try.checked os 6 .any (Rows.profileHotSpec.pre6 enc Try.prog Try.f6 Rows.profileHotRow.domain false) (Rows.profileHotSpec.post enc Try.prog Try.f6 false true false false) := by
  refine returnsInHanded_of_change_sized (C := Try.checked) own started (by kernel_rfl) Try.func6
    (ChangeSpec.witness6 (enc := enc) (C := Try.checked) false ⟨#[], #[.agg #[.slice Option.none 0 0], .int .i64 0], []⟩ 8 (by kernel_rfl) (by kernel_rfl) (by kernel_rfl) (by kernel_rfl)) ?_
  intro W base args ds gs before hval hW _ hsz _
  exact hot_contract H enc W base args ds gs before hval hW hsz

theorem hot_holds : Rows.ProfileHotSaid :=
  OpenClaim.holds_of_wide 6 Try.f6 rfl rfl rfl rfl rfl rfl rfl ⟨rfl, rfl, rfl, rfl, rfl⟩ rfl rfl rfl rfl rfl (by kernel_rfl) Try.func6 (by kernel_rfl)
    (of_decide_eq_true (by kernel_rfl)) (by unfold Func.isWrapper; first | (rw [if_pos (by decide +kernel)]; kernel_rfl) | (rw [if_neg (by decide +kernel)]; exact ⟨rfl, rfl⟩))
    (fun os started H enc _ => hot_lifted os started H enc)
#print axioms hot_holds
end Go.Proofs.Ytjfifehofflaeaa
