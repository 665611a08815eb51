/- The law DiskClones answers true, and its arguments read behind the call as they did before, where what it reads is of bulk at most 1048576. -/
import Derived.Test.YtphmpibmogbafaaRows
import Derived.Test.YtphmpibmogbafaaKCC5
namespace Go.Proofs.Ytphmpibmogbafaa.diskClones
open Go.ChangeShapes Go.WideShapes Go.ChangeAt Go.RowKit Go.ChangeMaps Go.Proofs.Eng
set_option linter.unusedVariables false
set_option maxRecDepth 10000
theorem own : ownKnob Try.prog.godebug = none := by kernel_rfl
theorem laidOut : laidOutB Try.prog = true := by kernel_rfl
theorem plain : plainTypes Try.prog Try.f8.params.toList = true := by kernel_rfl
theorem resT : Try.f8.resultTypes = #[4] := by kernel_rfl
theorem fnd {H : Type} (d0 d1 d2 : DataW H) : (Rows.diskClonesSpec.fn H ([d0, d1, d2] ++ [])).results = [.lit (.bool true)] ∧ (Rows.diskClonesSpec.fn H ([d0, d1, d2] ++ [])).args = [d0, d1, d2] ∧ (Rows.diskClonesSpec.fn H ([d0, d1, d2] ++ [])).vars = [] := ⟨rfl, rfl, rfl⟩
theorem ptypes : Try.f8.params.toList ++ Rows.diskClonesSpec.plain.varTypes Try.prog = [22, 22, 31] := by kernel_rfl
theorem contract (H : Type) (enc : TypeId × Value → H) (W : World) (base : Nat) (args : Array Value) (ds gs : List (DataW H)) (before : List MemPlace)
    (hval : ∀ (j : Nat) t v, Try.f8.params[j]? = some t → args[j]? = some v → Value.okWide Try.prog W .any base t v)
    (hW : DataW.Whole enc Try.prog Try.f8.params.toList Rows.diskClonesSpec.vars false W args.toList ds gs before) (hz : (DataW.weightsEach Try.prog (Try.f8.params.toList ++ Rows.diskClonesSpec.plain.varTypes Try.prog) (ds ++ gs)).all (· ≤ reachBytes) = true) :
    Calls Try.prog 8 args W fun e W' => ∃ v, e = .returned v ∧ Rows.diskClonesSpec.post enc Try.prog Try.f8 false true false false W args v W' := by
  have hW' := hW
  obtain ⟨p, q, hA0, hV, rfl, hfz, hnd⟩ := hW
  have hA : DataW.TrodAll enc Try.prog W 0 (fun _ => true) true Try.f8.params.toList args.toList ds p := hA0
  rw [Try.params8] at hA hval
  obtain ⟨v0, vs0, d0, ds0, p0, q0, hargs, rfl, rfl, h0, r0⟩ := trodAll_cons hA
  obtain ⟨v1, vs1, d1, ds1, p1, q1, rfl, rfl, rfl, h1, r1⟩ := trodAll_cons r0
  obtain ⟨v2, vs2, d2, ds2, p2, q2, rfl, rfl, rfl, h2, r2⟩ := trodAll_cons r1
  obtain ⟨rfl, rfl, rfl⟩ := trodAll_nil r2
  obtain rfl : args = #[v0, v1, v2] := by cases args; simp_all
  obtain ⟨rfl, rfl⟩ := trodVars_none hV
  obtain ⟨pp0, n0, c0, x0, rfl, hs0, hc0, hd0, hq0⟩ := arg_slW (k := kDA) Try.underlying22 (by kernel_rfl) (opensW_da Try.underlying33 Try.underlying5 Try.underlying9 Try.underlying9 Try.underlying31 Try.underlying3 Try.underlying4 rfl rfl rfl rfl rfl rfl (by kernel_rfl) (by kernel_rfl) (by kernel_rfl) (by kernel_rfl) (by kernel_rfl) (by kernel_rfl) (by kernel_rfl) (by kernel_rfl) (by kernel_rfl) (opens_byte Try.underlying5)) (hval 0 22 v0 (by simp) (by simp)) h0
  obtain ⟨pp1, n1, c1, x1, rfl, hs1, hc1, hd1, hq1⟩ := arg_slW (k := kDA) Try.underlying22 (by kernel_rfl) (opensW_da Try.underlying33 Try.underlying5 Try.underlying9 Try.underlying9 Try.underlying31 Try.underlying3 Try.underlying4 rfl rfl rfl rfl rfl rfl (by kernel_rfl) (by kernel_rfl) (by kernel_rfl) (by kernel_rfl) (by kernel_rfl) (by kernel_rfl) (by kernel_rfl) (by kernel_rfl) (by kernel_rfl) (opens_byte Try.underlying5)) (hval 1 22 v1 (by simp) (by simp)) h1
  obtain ⟨pp2, n2, c2, x2, rfl, hs2, hc2, hd2⟩ := arg_sl (k := kByte) Try.underlying31 (by kernel_rfl) (opens_byte Try.underlying5) (hval 2 31 v2 (by simp) (by simp)) h2
  rw [ptypes] at hz
  simp only [List.append_nil] at hz
  have hz0 := weight_sl (bs := 80) Try.underlying22 (by kernel_rfl) hz hd0
  have hz1 := weight_sl (bs := 80) Try.underlying22 (by kernel_rfl) (weight_tail hz) hd1
  have hx0 := hq0 (weight_head hz)
  have hx1 := hq1 (weight_head (weight_tail hz))
  clear hA0
  have hw : Ret Try.prog 8 _ W (fun v w' => v = .bool true ∧ Ext W w') := law_DiskClones x0 _ _ pp0 n0 c0 x1 _ _ pp1 n1 c1 x2 _ pp2 n2 c2 W hs0 (Nat.le_refl _) (by omega) hx0 hs1 (Nat.le_refl _) (by omega) (by omega) (by omega) hx1 (Lo.ofSl hs2 (Nat.le_refl _)) (Nat.le_refl _)
  refine Calls.mono hw.out ?_
  rintro e W' ⟨v, rfl, rfl, hx⟩
  exact ⟨_, rfl, post_ext laidOut plain rfl hW' hx resT Try.underlying4 (fun _ => fnd _ _ _)⟩
set_option maxRecDepth 100000 in
theorem lifted (os : Os) (started : os.Started) (H : Type) (enc : TypeId × Value → H) :
    ReturnsInHanded {} Try.checked os 8 .any (Rows.diskClonesSpec.pre6 enc Try.prog Try.f8 Rows.diskClonesRow.domain false) (Rows.diskClonesSpec.post enc Try.prog Try.f8 false true false false) := by
  refine returnsInHanded_of_change_sized (C := Try.checked) own started (by kernel_rfl) Try.func8
    (ChangeSpec.witness6 (enc := enc) (C := Try.checked) false ⟨#[], #[.slice none 0 0, .slice none 0 0, .slice none 0 0], []⟩ 8 (by kernel_rfl) (by kernel_rfl) (by kernel_rfl) (by kernel_rfl)) ?_
  intro W base args ds gs before hval hW hcnd hz _
  exact contract H enc W base args ds gs before hval hW hz
theorem over : Rows.diskClonesRow.holds Try.pinned (OpenSpec.ofChange Rows.diskClonesSpec) :=
  OpenClaim.holds_of_wide 8 Try.f8 rfl rfl rfl rfl rfl rfl rfl ⟨rfl, rfl, rfl, rfl, rfl⟩ rfl rfl rfl rfl rfl (by kernel_rfl) Try.func8 (by kernel_rfl)
    (of_decide_eq_true (by kernel_rfl)) (by unfold Func.isWrapper; first | (rw [if_pos (by decide +kernel)]; kernel_rfl) | (rw [if_neg (by decide +kernel)]; exact ⟨rfl, rfl⟩))
    (fun os started H enc _ => lifted os started H enc)
theorem proved : Rows.DiskClonesSaid := over
end Go.Proofs.Ytphmpibmogbafaa.diskClones
