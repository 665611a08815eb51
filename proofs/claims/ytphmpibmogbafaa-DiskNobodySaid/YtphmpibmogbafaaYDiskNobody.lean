/- The law DiskNobody answers true, and its arguments read behind the call as they did before, whatever the input. -/
import Derived.Test.YtphmpibmogbafaaRows
import Derived.Test.YtphmpibmogbafaaKN2
namespace Go.Proofs.Ytphmpibmogbafaa.diskNobody
open Go.ChangeShapes Go.WideShapes Go.ChangeAt Go.RowKit Go.ChangeMaps Go.Proofs.Eng
set_option linter.unusedVariables false
set_option maxRecDepth 10000
theorem own : ownKnob Try.prog.godebug = none := by kernel_rfl
theorem laidOut : laidOutB Try.prog = true := by kernel_rfl
theorem plain : plainTypes Try.prog Try.f10.params.toList = true := by kernel_rfl
theorem resT : Try.f10.resultTypes = #[4] := by kernel_rfl
theorem fnd {H : Type} (d0 d1 : DataW H) : (Rows.diskNobodySpec.fn H ([d0, d1] ++ [])).results = [.lit (.bool true)] ∧ (Rows.diskNobodySpec.fn H ([d0, d1] ++ [])).args = [d0, d1] ∧ (Rows.diskNobodySpec.fn H ([d0, d1] ++ [])).vars = [] := ⟨rfl, rfl, rfl⟩
theorem contract (H : Type) (enc : TypeId × Value → H) (W : World) (base : Nat) (args : Array Value) (ds gs : List (DataW H)) (before : List MemPlace)
    (hval : ∀ (j : Nat) t v, Try.f10.params[j]? = some t → args[j]? = some v → Value.okWide Try.prog W .any base t v)
    (hW : DataW.Whole enc Try.prog Try.f10.params.toList Rows.diskNobodySpec.vars false W args.toList ds gs before) :
    Calls Try.prog 10 args W fun e W' => ∃ v, e = .returned v ∧ Rows.diskNobodySpec.post enc Try.prog Try.f10 false true false false W args v W' := by
  have hW' := hW
  obtain ⟨p, q, hA0, hV, rfl, hfz, hnd⟩ := hW
  have hA : DataW.TrodAll enc Try.prog W 0 (fun _ => true) true Try.f10.params.toList args.toList ds p := hA0
  rw [Try.params10] at hA hval
  obtain ⟨v0, vs0, d0, ds0, p0, q0, hargs, rfl, rfl, h0, r0⟩ := trodAll_cons hA
  obtain ⟨v1, vs1, d1, ds1, p1, q1, rfl, rfl, rfl, h1, r1⟩ := trodAll_cons r0
  obtain ⟨rfl, rfl, rfl⟩ := trodAll_nil r1
  obtain rfl : args = #[v0, v1] := by cases args; simp_all
  obtain ⟨rfl, rfl⟩ := trodVars_none hV
  obtain ⟨s0, rfl, rfl, rfl, w0⟩ := open_string Try.underlying9 (hval 0 9 v0 (by simp) (by simp)) h0
  obtain ⟨pp1, n1, c1, x1, rfl, hs1, hc1, hd1⟩ := arg_sl (k := kByte) Try.underlying31 (by kernel_rfl) (opens_byte Try.underlying5) (hval 1 31 v1 (by simp) (by simp)) h1
  clear hA0
  have hw : Ret Try.prog 10 _ W (fun v w' => v = .bool true ∧ Ext W w') := law_DiskNobody s0 pp1 n1 c1 W
  refine Calls.mono hw.out ?_
  rintro e W' ⟨v, rfl, rfl, hx⟩
  exact ⟨_, rfl, post_ext laidOut plain rfl hW' hx resT Try.underlying4 (fun _ => fnd _ _)⟩
set_option maxRecDepth 100000 in
theorem lifted (os : Os) (started : os.Started) (H : Type) (enc : TypeId × Value → H) :
    ReturnsInHanded {} Try.checked os 10 .any (Rows.diskNobodySpec.pre6 enc Try.prog Try.f10 Rows.diskNobodyRow.domain false) (Rows.diskNobodySpec.post enc Try.prog Try.f10 false true false false) := by
  refine returnsInHanded_of_change (C := Try.checked) own started (by kernel_rfl) Try.func10
    (ChangeSpec.witness6 (enc := enc) (C := Try.checked) false ⟨#[], #[.string ⟨#[]⟩, .slice none 0 0], []⟩ 8 (by kernel_rfl) (by kernel_rfl) (by kernel_rfl) (by kernel_rfl)) ?_
  intro W base args ds gs before hval hW hcnd _
  exact contract H enc W base args ds gs before hval hW
theorem over : Rows.diskNobodyRow.holds Try.pinned (OpenSpec.ofChange Rows.diskNobodySpec) :=
  OpenClaim.holds_of_wide 10 Try.f10 rfl rfl rfl rfl rfl rfl rfl ⟨rfl, rfl, rfl, rfl, rfl⟩ rfl rfl rfl rfl rfl (by kernel_rfl) Try.func10 (by kernel_rfl)
    (of_decide_eq_true (by kernel_rfl)) (by unfold Func.isWrapper; first | (rw [if_pos (by decide +kernel)]; kernel_rfl) | (rw [if_neg (by decide +kernel)]; exact ⟨rfl, rfl⟩))
    (fun os started H enc _ => lifted os started H enc)
theorem proved : Rows.DiskNobodySaid := over
end Go.Proofs.Ytphmpibmogbafaa.diskNobody
