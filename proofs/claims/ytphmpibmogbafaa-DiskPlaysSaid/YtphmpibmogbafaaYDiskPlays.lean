/- The law DiskPlays answers true, and its arguments read behind the call as they did before, where what it reads is of bulk at most 1048576. -/
import Derived.Test.YtphmpibmogbafaaRows
import Derived.Test.YtphmpibmogbafaaKPP4
namespace Go.Proofs.Ytphmpibmogbafaa.diskPlays
open Go.ChangeShapes Go.WideShapes Go.ChangeAt Go.RowKit Go.ChangeMaps Go.Proofs.Eng
set_option linter.unusedVariables false
set_option maxRecDepth 10000
theorem own : ownKnob Try.prog.godebug = none := by kernel_rfl
theorem laidOut : laidOutB Try.prog = true := by kernel_rfl
theorem plain : plainTypes Try.prog Try.f7.params.toList = true := by kernel_rfl
theorem resT : Try.f7.resultTypes = #[4] := by kernel_rfl
theorem fnd {H : Type} (d0 d1 : DataW H) : (Rows.diskPlaysSpec.fn H ([d0, d1] ++ [])).results = [.lit (.bool true)] ∧ (Rows.diskPlaysSpec.fn H ([d0, d1] ++ [])).args = [d0, d1] ∧ (Rows.diskPlaysSpec.fn H ([d0, d1] ++ [])).vars = [] := ⟨rfl, rfl, rfl⟩
theorem ptypes : Try.f7.params.toList ++ Rows.diskPlaysSpec.plain.varTypes Try.prog = [3, 22] := by kernel_rfl
theorem contract (H : Type) (enc : TypeId × Value → H) (W : World) (base : Nat) (args : Array Value) (ds gs : List (DataW H)) (before : List MemPlace)
    (hval : ∀ (j : Nat) t v, Try.f7.params[j]? = some t → args[j]? = some v → Value.okWide Try.prog W .any base t v)
    (hW : DataW.Whole enc Try.prog Try.f7.params.toList Rows.diskPlaysSpec.vars false W args.toList ds gs before) (hz : (DataW.weightsEach Try.prog (Try.f7.params.toList ++ Rows.diskPlaysSpec.plain.varTypes Try.prog) (ds ++ gs)).all (· ≤ reachBytes) = true) :
    Calls Try.prog 7 args W fun e W' => ∃ v, e = .returned v ∧ Rows.diskPlaysSpec.post enc Try.prog Try.f7 false true false false W args v W' := by
  have hW' := hW
  obtain ⟨p, q, hA0, hV, rfl, hfz, hnd⟩ := hW
  have hA : DataW.TrodAll enc Try.prog W 0 (fun _ => true) true Try.f7.params.toList args.toList ds p := hA0
  rw [Try.params7] at hA hval
  obtain ⟨v0, vs0, d0, ds0, p0, q0, hargs, rfl, rfl, h0, r0⟩ := trodAll_cons hA
  obtain ⟨v1, vs1, d1, ds1, p1, q1, rfl, rfl, rfl, h1, r1⟩ := trodAll_cons r0
  obtain ⟨rfl, rfl, rfl⟩ := trodAll_nil r1
  obtain rfl : args = #[v0, v1] := by cases args; simp_all
  obtain ⟨rfl, rfl⟩ := trodVars_none hV
  obtain ⟨a0, rfl, rfl, rfl, w0⟩ := open_int Try.underlying3 (hval 0 3 v0 (by simp) (by simp)) h0
  obtain ⟨pp1, n1, c1, x1, rfl, hs1, hc1, hd1, hq1⟩ := arg_slW (k := kDA) Try.underlying22 (by kernel_rfl) (opensW_da Try.underlying33 Try.underlying5 Try.underlying9 Try.underlying9 Try.underlying31 Try.underlying3 Try.underlying4 rfl rfl rfl rfl rfl rfl (by kernel_rfl) (by kernel_rfl) (by kernel_rfl) (by kernel_rfl) (by kernel_rfl) (by kernel_rfl) (by kernel_rfl) (by kernel_rfl) (by kernel_rfl) (opens_byte Try.underlying5)) (hval 1 22 v1 (by simp) (by simp)) h1
  rw [ptypes] at hz
  simp only [List.append_nil] at hz
  have hz1 := weight_sl (bs := 80) Try.underlying22 (by kernel_rfl) (weight_tail hz) hd1
  have hx1 := hq1 (weight_head (weight_tail hz))
  clear hA0
  have hw : Ret Try.prog 7 _ W (fun v w' => v = .bool true ∧ Ext W w') := law_DiskPlays a0 x1 _ _ pp1 n1 c1 W hs1 (Nat.le_refl _) (by omega) hx1
  refine Calls.mono hw.out ?_
  rintro e W' ⟨v, rfl, rfl, hx⟩
  exact ⟨_, rfl, post_ext laidOut plain rfl hW' hx resT Try.underlying4 (fun _ => fnd _ _)⟩
set_option maxRecDepth 100000 in
theorem lifted (os : Os) (started : os.Started) (H : Type) (enc : TypeId × Value → H) :
    ReturnsInHanded {} Try.checked os 7 .any (Rows.diskPlaysSpec.pre6 enc Try.prog Try.f7 Rows.diskPlaysRow.domain false) (Rows.diskPlaysSpec.post enc Try.prog Try.f7 false true false false) := by
  refine returnsInHanded_of_change_sized (C := Try.checked) own started (by kernel_rfl) Try.func7
    (ChangeSpec.witness6 (enc := enc) (C := Try.checked) false ⟨#[], #[.int .i64 0, .slice none 0 0], []⟩ 8 (by kernel_rfl) (by kernel_rfl) (by kernel_rfl) (by kernel_rfl)) ?_
  intro W base args ds gs before hval hW hcnd hz _
  exact contract H enc W base args ds gs before hval hW hz
theorem over : Rows.diskPlaysRow.holds Try.pinned (OpenSpec.ofChange Rows.diskPlaysSpec) :=
  OpenClaim.holds_of_wide 7 Try.f7 rfl rfl rfl rfl rfl rfl rfl ⟨rfl, rfl, rfl, rfl, rfl⟩ rfl rfl rfl rfl rfl (by kernel_rfl) Try.func7 (by kernel_rfl)
    (of_decide_eq_true (by kernel_rfl)) (by unfold Func.isWrapper; first | (rw [if_pos (by decide +kernel)]; kernel_rfl) | (rw [if_neg (by decide +kernel)]; exact ⟨rfl, rfl⟩))
    (fun os started H enc _ => lifted os started H enc)
theorem proved : Rows.DiskPlaysSaid := over
end Go.Proofs.Ytphmpibmogbafaa.diskPlays
