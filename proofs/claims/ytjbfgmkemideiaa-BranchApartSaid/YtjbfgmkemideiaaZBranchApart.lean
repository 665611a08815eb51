/- The law BranchApart answers true, and its arguments read behind the call as they did before, where what it reads is of bulk at most 1048576. -/
import Derived.Test.YtjbfgmkemideiaaRows
import Derived.Test.YtjbfgmkemideiaaR1
import Derived.Test.YtjbfgmkemideiaaR2
import Derived.Test.YtjbfgmkemideiaaC9
namespace Go.Proofs.Ytjbfgmkemideiaa.branchApart
open Go.ChangeShapes Go.WideShapes Go.ChangeAt Go.RowKit Go.ChangeMaps Go.Proofs.Eng
set_option linter.unusedVariables false
set_option maxRecDepth 10000
theorem own : ownKnob Try.prog.godebug = none := by kernel_rfl
theorem laidOut : laidOutB Try.prog = true := by kernel_rfl
theorem plain : plainTypes Try.prog Try.f13.params.toList = true := by kernel_rfl
theorem resT : Try.f13.resultTypes = #[4] := by kernel_rfl
theorem fnd {H : Type} (d0 d1 d2 : DataW H) : (Rows.branchApartSpec.fn H ([d0, d1, d2] ++ [])).results = [.lit (.bool true)] ∧ (Rows.branchApartSpec.fn H ([d0, d1, d2] ++ [])).args = [d0, d1, d2] ∧ (Rows.branchApartSpec.fn H ([d0, d1, d2] ++ [])).vars = [] := ⟨rfl, rfl, rfl⟩
theorem ptypes : Try.f13.params.toList ++ Rows.branchApartSpec.plain.varTypes Try.prog = [68, 9, 31] := by kernel_rfl
theorem contract (H : Type) (enc : TypeId × Value → H) (W : World) (base : Nat) (args : Array Value) (ds gs : List (DataW H)) (before : List MemPlace)
    (hval : ∀ (j : Nat) t v, Try.f13.params[j]? = some t → args[j]? = some v → Value.okWide Try.prog W .any base t v)
    (hW : DataW.Whole enc Try.prog Try.f13.params.toList Rows.branchApartSpec.vars false W args.toList ds gs before) (hz : (DataW.weightsEach Try.prog (Try.f13.params.toList ++ Rows.branchApartSpec.plain.varTypes Try.prog) (ds ++ gs)).all (· ≤ reachBytes) = true) :
    Calls Try.prog 13 args W fun e W' => ∃ v, e = .returned v ∧ Rows.branchApartSpec.post enc Try.prog Try.f13 false true false false W args v W' := by
  have hW' := hW
  obtain ⟨p, q, hA0, hV, rfl, hfz, hnd⟩ := hW
  have hA : DataW.TrodAll enc Try.prog W 0 (fun _ => true) true Try.f13.params.toList args.toList ds p := hA0
  rw [Try.params13] at hA hval
  obtain ⟨v0, vs0, d0, ds0, p0, q0, hargs, rfl, rfl, h0, r0⟩ := trodAll_cons hA
  obtain ⟨v1, vs1, d1, ds1, p1, q1, rfl, rfl, rfl, h1, r1⟩ := trodAll_cons r0
  obtain ⟨v2, vs2, d2, ds2, p2, q2, rfl, rfl, rfl, h2, r2⟩ := trodAll_cons r1
  obtain ⟨rfl, rfl, rfl⟩ := trodAll_nil r2
  obtain rfl : args = #[v0, v1, v2] := by cases args; simp_all
  obtain ⟨rfl, rfl⟩ := trodVars_none hV
  obtain ⟨pp0, n0, c0, x0, rfl, hs0, hc0, hd0, hq0⟩ := arg_slW (k := kAct) Try.underlying68 (by kernel_rfl) (opens_act Try.underlying74 Try.underlying5 Try.underlying9 Try.underlying31 rfl rfl rfl (by kernel_rfl) (by kernel_rfl) (by kernel_rfl) (by kernel_rfl) (by kernel_rfl) (by kernel_rfl) (opens_hash Try.underlying35 Try.underlying5 (by kernel_rfl) (by kernel_rfl))) (hval 0 68 v0 (by simp) (by simp)) h0
  obtain ⟨s1, rfl, rfl, rfl, w1⟩ := open_string Try.underlying9 (hval 1 9 v1 (by simp) (by simp)) h1
  obtain ⟨pp2, n2, c2, x2, rfl, hs2, hc2, hd2⟩ := arg_sl (k := kHash) Try.underlying31 (by kernel_rfl) (opens_hash Try.underlying35 Try.underlying5 (by kernel_rfl) (by kernel_rfl)) (hval 2 31 v2 (by simp) (by simp)) h2
  rw [ptypes] at hz
  simp only [List.append_nil] at hz
  have hx0 := hq0 (weight_head hz)
  clear hA0
  have hw : Ret Try.prog 13 _ W (fun v w' => v = .bool true ∧ Ext W w') := law_BranchApart x0 s1 _ _ _ _ W hs0 (Nat.le_refl _) (fun y hy => by have := (hx0 y hy).1; unfold maxLen at this; omega) (fun y hy => by have := (hx0 y hy).2; omega) (by unfold maxLen at w1; omega) x2 _ _ _ _ hs2
  refine Calls.mono hw.out ?_
  rintro e W' ⟨v, rfl, rfl, hx⟩
  exact ⟨_, rfl, post_ext laidOut plain rfl hW' hx resT Try.underlying4 (fun _ => fnd _ _ _)⟩
set_option maxRecDepth 100000 in
theorem lifted (os : Os) (started : os.Started) (H : Type) (enc : TypeId × Value → H) :
    ReturnsInHanded {} Try.checked os 13 .any (Rows.branchApartSpec.pre6 enc Try.prog Try.f13 Rows.branchApartRow.domain false) (Rows.branchApartSpec.post enc Try.prog Try.f13 false true false false) := by
  refine returnsInHanded_of_change_sized (C := Try.checked) own started (by kernel_rfl) Try.func13
    (ChangeSpec.witness6 (enc := enc) (C := Try.checked) false ⟨#[], #[.slice none 0 0, .string ⟨#[]⟩, .slice none 0 0], []⟩ 8 (by kernel_rfl) (by kernel_rfl) (by kernel_rfl) (by kernel_rfl)) ?_
  intro W base args ds gs before hval hW hcnd hz _
  exact contract H enc W base args ds gs before hval hW hz
theorem over : Rows.branchApartRow.holds Try.pinned (OpenSpec.ofChange Rows.branchApartSpec) :=
  OpenClaim.holds_of_wide 13 Try.f13 rfl rfl rfl rfl rfl rfl rfl ⟨rfl, rfl, rfl, rfl, rfl⟩ rfl rfl rfl rfl rfl (by kernel_rfl) Try.func13 (by kernel_rfl)
    (of_decide_eq_true (by kernel_rfl)) (by unfold Func.isWrapper; first | (rw [if_pos (by decide +kernel)]; kernel_rfl) | (rw [if_neg (by decide +kernel)]; exact ⟨rfl, rfl⟩))
    (fun os started H enc _ => lifted os started H enc)
theorem proved : Rows.BranchApartSaid := over
end Go.Proofs.Ytjbfgmkemideiaa.branchApart
