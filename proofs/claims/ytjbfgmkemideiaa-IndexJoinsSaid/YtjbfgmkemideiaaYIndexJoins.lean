/- The law IndexJoins answers true, and its arguments read behind the call as they did before, whatever the input. -/
import Derived.Test.YtjbfgmkemideiaaRows
import Derived.Test.YtjbfgmkemideiaaKI6
namespace Go.Proofs.Ytjbfgmkemideiaa.indexJoins
open Go.ChangeShapes Go.WideShapes Go.ChangeAt Go.RowKit Go.ChangeMaps Go.Proofs.Eng
set_option linter.unusedVariables false
set_option maxRecDepth 10000
theorem own : ownKnob Try.prog.godebug = none := by kernel_rfl
theorem laidOut : laidOutB Try.prog = true := by kernel_rfl
theorem plain : plainTypes Try.prog Try.f19.params.toList = true := by kernel_rfl
theorem resT : Try.f19.resultTypes = #[4] := by kernel_rfl
theorem fnd {H : Type} (d0 d1 : DataW H) : (Rows.indexJoinsSpec.fn H ([d0, d1] ++ [])).results = [.lit (.bool true)] ∧ (Rows.indexJoinsSpec.fn H ([d0, d1] ++ [])).args = [d0, d1] ∧ (Rows.indexJoinsSpec.fn H ([d0, d1] ++ [])).vars = [] := ⟨rfl, rfl, rfl⟩
theorem contract (H : Type) (enc : TypeId × Value → H) (W : World) (base : Nat) (args : Array Value) (ds gs : List (DataW H)) (before : List MemPlace)
    (hval : ∀ (j : Nat) t v, Try.f19.params[j]? = some t → args[j]? = some v → Value.okWide Try.prog W .any base t v)
    (hW : DataW.Whole enc Try.prog Try.f19.params.toList Rows.indexJoinsSpec.vars false W args.toList ds gs before) :
    Calls Try.prog 19 args W fun e W' => ∃ v, e = .returned v ∧ Rows.indexJoinsSpec.post enc Try.prog Try.f19 false true false false W args v W' := by
  have hW' := hW
  obtain ⟨p, q, hA0, hV, rfl, hfz, hnd⟩ := hW
  have hA : DataW.TrodAll enc Try.prog W 0 (fun _ => true) true Try.f19.params.toList args.toList ds p := hA0
  rw [Try.params19] at hA hval
  obtain ⟨v0, vs0, d0, ds0, p0, q0, hargs, rfl, rfl, h0, r0⟩ := trodAll_cons hA
  obtain ⟨v1, vs1, d1, ds1, p1, q1, rfl, rfl, rfl, h1, r1⟩ := trodAll_cons r0
  obtain ⟨rfl, rfl, rfl⟩ := trodAll_nil r1
  obtain rfl : args = #[v0, v1] := by cases args; simp_all
  obtain ⟨rfl, rfl⟩ := trodVars_none hV
  obtain ⟨pp0, n0, c0, x0, rfl, hs0, hc0, hd0, hq0⟩ := arg_slW (k := kRecA) Try.underlying23 (by kernel_rfl) (opens_recA Try.underlying33 Try.underlying9 Try.underlying30 Try.underlying31 rfl rfl rfl (by kernel_rfl) (by kernel_rfl) (by kernel_rfl) (by kernel_rfl) (by kernel_rfl) (by kernel_rfl) (opens_brA Try.underlying81 Try.underlying9 Try.underlying31 rfl rfl (by kernel_rfl) (by kernel_rfl) (by kernel_rfl) (by kernel_rfl) (by kernel_rfl) (opens_hash Try.underlying35 Try.underlying5 (by kernel_rfl) (by kernel_rfl))) (opens_hash Try.underlying35 Try.underlying5 (by kernel_rfl) (by kernel_rfl))) (hval 0 23 v0 (by simp) (by simp)) h0
  obtain ⟨pp1, n1, c1, x1, rfl, hs1, hc1, hd1, hq1⟩ := arg_slW (k := kRecA) Try.underlying23 (by kernel_rfl) (opens_recA Try.underlying33 Try.underlying9 Try.underlying30 Try.underlying31 rfl rfl rfl (by kernel_rfl) (by kernel_rfl) (by kernel_rfl) (by kernel_rfl) (by kernel_rfl) (by kernel_rfl) (opens_brA Try.underlying81 Try.underlying9 Try.underlying31 rfl rfl (by kernel_rfl) (by kernel_rfl) (by kernel_rfl) (by kernel_rfl) (by kernel_rfl) (opens_hash Try.underlying35 Try.underlying5 (by kernel_rfl) (by kernel_rfl))) (opens_hash Try.underlying35 Try.underlying5 (by kernel_rfl) (by kernel_rfl))) (hval 1 23 v1 (by simp) (by simp)) h1
  clear hA0
  have hw : Ret Try.prog 19 _ W (fun v w' => v = .bool true ∧ Ext W w') := law_IndexJoins x0 x1 _ _ _ _ _ _ _ _ W hs0 hs1 (Nat.le_refl _) (Nat.le_refl _)
  refine Calls.mono hw.out ?_
  rintro e W' ⟨v, rfl, rfl, hx⟩
  exact ⟨_, rfl, post_ext laidOut plain rfl hW' hx resT Try.underlying4 (fun _ => fnd _ _)⟩
set_option maxRecDepth 100000 in
theorem lifted (os : Os) (started : os.Started) (H : Type) (enc : TypeId × Value → H) :
    ReturnsInHanded {} Try.checked os 19 .any (Rows.indexJoinsSpec.pre6 enc Try.prog Try.f19 Rows.indexJoinsRow.domain false) (Rows.indexJoinsSpec.post enc Try.prog Try.f19 false true false false) := by
  refine returnsInHanded_of_change (C := Try.checked) own started (by kernel_rfl) Try.func19
    (ChangeSpec.witness6 (enc := enc) (C := Try.checked) false ⟨#[], #[.slice none 0 0, .slice none 0 0], []⟩ 8 (by kernel_rfl) (by kernel_rfl) (by kernel_rfl) (by kernel_rfl)) ?_
  intro W base args ds gs before hval hW hcnd _
  exact contract H enc W base args ds gs before hval hW
theorem over : Rows.indexJoinsRow.holds Try.pinned (OpenSpec.ofChange Rows.indexJoinsSpec) :=
  OpenClaim.holds_of_wide 19 Try.f19 rfl rfl rfl rfl rfl rfl rfl ⟨rfl, rfl, rfl, rfl, rfl⟩ rfl rfl rfl rfl rfl (by kernel_rfl) Try.func19 (by kernel_rfl)
    (of_decide_eq_true (by kernel_rfl)) (by unfold Func.isWrapper; first | (rw [if_pos (by decide +kernel)]; kernel_rfl) | (rw [if_neg (by decide +kernel)]; exact ⟨rfl, rfl⟩))
    (fun os started H enc _ => lifted os started H enc)
theorem proved : Rows.IndexJoinsSaid := over
end Go.Proofs.Ytjbfgmkemideiaa.indexJoins
