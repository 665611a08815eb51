/- The law ChunksOpens answers true, and its arguments read behind the call as they did before, where the listed package variables start as the program lays them. -/
import Derived.Test.YtlmfpocifkpggaaGreatDoorRows
import Derived.Test.YtlmfpocifkpggaaGreatDoorCards
import Derived.Test.YtlmfpocifkpggaaGreatDoorTie
import Derived.Test.YtlmfpocifkpggaaGreatDoorOp6
import Derived.Deep.DeepHandedRow
import Derived.Deep.DeepWitnessRowRef
import Derived.LaidMore
import Derived.SevenTiedAt
namespace Go.Proofs.YtlmfpocifkpggaaGreatDoor.chunksOpens
open Go.ChangeShapes Go.WideShapes Go.ChangeAt Go.RowKit Go.ChangeMaps Go.Proofs.Eng
set_option linter.unusedVariables false
set_option maxRecDepth 10000
theorem own : ownKnob Tryz.prog.godebug = none := by kernel_rfl
theorem Adi : laidOutB Tryz.prog = true := by kernel_rfl
theorem plain : Ij Tryz.prog Tryz.f4.params.toList = true := by kernel_rfl
theorem resT : Tryz.f4.resultTypes = #[4] := by kernel_rfl
theorem fnd {H : Type} (d0 d1 d2 : DataW H) : (Rows.chunksOpensSpec.fn H ([d0, d1, d2] ++ [])).results = [.lit (.bool true)] ∧ (Rows.chunksOpensSpec.fn H ([d0, d1, d2] ++ [])).args = [d0, d1, d2] ∧ (Rows.chunksOpensSpec.fn H ([d0, d1, d2] ++ [])).vars = [] := ⟨rfl, rfl, rfl⟩
theorem Ab3 (H : Type) (enc : TypeId × Value → H) (W : World) (base : Nat) (args : Array Value) (ds gs : List (DataW H)) (before : List MemPlace)
    (hval : ∀ (j : Nat) t v, Tryz.f4.params[j]? = some t → args[j]? = some v → Value.okWide Tryz.prog W .any base t v)
    (hW : DataW.Whole enc Tryz.prog Tryz.f4.params.toList Rows.chunksOpensSpec.vars false W args.toList ds gs before) (hL : laidMetH Tryz.prog Rows.chunksOpensRow.laid W) :
    Calls Tryz.prog 4 args W fun e W' => ∃ v, e = .returned v ∧ Rows.chunksOpensSpec.post enc Tryz.prog Tryz.f4 false true false false W args v W' := by
  have hW' := hW
  obtain ⟨p, q, hA0, hV, rfl, hfz, hnd⟩ := hW
  have hA : DataW.TrodAll enc Tryz.prog W 0 (fun _ => true) true Tryz.f4.params.toList args.toList ds p := hA0
  rw [Tryz.params4] at hA hval
  obtain ⟨v0, vs0, d0, ds0, p0, q0, hargs, rfl, rfl, h0, r0⟩ := trodAll_cons hA
  obtain ⟨v1, vs1, d1, ds1, p1, q1, rfl, rfl, rfl, h1, r1⟩ := trodAll_cons r0
  obtain ⟨v2, vs2, d2, ds2, p2, q2, rfl, rfl, rfl, h2, r2⟩ := trodAll_cons r1
  obtain ⟨rfl, rfl, rfl⟩ := trodAll_nil r2
  obtain rfl : args = #[v0, v1, v2] := by cases args; simp_all
  obtain ⟨rfl, rfl⟩ := trodVars_none hV
  obtain ⟨a0, rfl, rfl, rfl, w0⟩ := open_int Tryz.underlying3 (hval 0 3 v0 (by simp) (by simp)) h0
  obtain ⟨pp1, n1, c1, x1, rfl, hs1, hc1, hd1⟩ := Aez (k := kFi) Tryz.underlying40 (by kernel_rfl) (Aat Tryz.underlying42 Tryz.underlying9 Tryz.underlying23 rfl rfl (by kernel_rfl) (by kernel_rfl) (by kernel_rfl) (by kernel_rfl) (Wd Tryz.underlying5)) (hval 1 40 v1 (by simp) (by simp)) h1
  obtain ⟨a2, rfl, rfl, rfl, w2⟩ := open_int Tryz.underlying3 (hval 2 3 v2 (by simp) (by simp)) h2
  have w2 : -9223372036854775808 ≤ a2 ∧ a2 ≤ 9223372036854775807 := by simpa [Lit.wf, IntKind.min, IntKind.max, IntKind.signed, IntKind.bits] using w2
  clear hA0
  have hw : Ret Tryz.prog 4 _ W (fun v w' => v = .bool true ∧ Ext W w') := Nw a0 x1 pp1 n1 c1 a2 w2.1 w2.2 W hs1 (Pn hL)
  refine Calls.mono hw.out ?_
  rintro e W' ⟨v, rfl, rfl, hx⟩
  exact ⟨_, rfl, Aaq Adi plain rfl hW' hx resT Tryz.underlying4 (fun _ => fnd _ _ _)⟩
theorem Aa9 (os : Os) : laidMet Tryz.prog Rows.chunksOpensRow.laid ((World.doorLaid Tryz.prog 77 os).forCall (fun _ _ => 0) ⟨#[], #[.int .i64 0, .slice none 0 0, .int .i64 0], []⟩).memory :=
  laidMet_of_run' 8 (by kernel_rfl) (by kernel_rfl)
theorem reads (os : Os) {H : Type} (enc : TypeId × Value → H) : ∃ places, DataW.whole enc Tryz.prog ((World.doorLaid Tryz.prog 77 os).forCall (fun _ _ => 0) ⟨#[], #[.int .i64 0, .slice none 0 0, .int .i64 0], []⟩).memory Tryz.f4.params.toList Rows.chunksOpensSpec.vars false (#[.int .i64 0, .slice none 0 0, .int .i64 0] : Array Value).toList 8 = some ([.lit (.int .i64 0), .nil, .lit (.int .i64 0)], [], places) :=
  ⟨[], by kernel_rfl⟩
set_option maxRecDepth 100000 in
theorem Aen (os : Os) (started : os.Started) (H : Type) (enc : TypeId × Value → H) (F : Stop.Interp) :
    ReturnsInHanded {} Tryz.checked os 4 .any ((OpenSpec.ofChange Rows.chunksOpensSpec).preRow enc Tryz.prog Tryz.f4 Rows.chunksOpensRow.domain false Rows.chunksOpensRow.laid) (((OpenSpec.ofChange Rows.chunksOpensSpec).at F).post enc Tryz.prog Tryz.f4 false true false false) := by
  obtain ⟨places, hx⟩ := reads os enc
  refine returnsInHanded_of_row (C := Tryz.checked) (s := OpenSpec.ofChange Rows.chunksOpensSpec) own started (by kernel_rfl) Tryz.func4
    (witness_row_atRef (enc := enc) (C := Tryz.checked) false (World.doorLaid Tryz.prog 77 os) #[.int .i64 0, .slice none 0 0, .int .i64 0] rfl (by kernel_rfl) (by kernel_rfl) (by kernel_rfl)
      (OpenSpec.preRow_of_cond 8 hx (by kernel_rfl) (fun k hk => by cases hk) (by kernel_rfl) (Aa9 os))) ?_
  intro W base args ds gs before hval hW _ hcond _ hL _ _
  exact Ab3 H enc W base args ds gs before hval hW hL
theorem over : Rows.chunksOpensRow.holds Tryz.pinned (OpenSpec.ofChange Rows.chunksOpensSpec) :=
  OpenClaim.holds_of_cond 4 Tryz.f4 rfl rfl rfl rfl rfl rfl rfl ⟨rfl, rfl, rfl, rfl, rfl⟩ rfl rfl rfl rfl rfl (by kernel_rfl) Tryz.func4 (by kernel_rfl)
    (of_decide_eq_true (by kernel_rfl)) (by unfold Func.isWrapper; first | (rw [if_pos (by decide +kernel)]; kernel_rfl) | (rw [if_neg (by decide +kernel)]; exact ⟨rfl, rfl⟩))
    (fun os started H enc _ F => by rw [OpenClaim.pre_eq_preRow]; exact Aen os started H enc F)
theorem looks (f : FuncId) (fn : Func) (hf : Tryz.pinned.checked.prog.funcNamed "stemma/stemmalaw20.ChunksOpens" = some f) (hfn : Tryz.pinned.checked.prog.funcs[f]? = some fn) :
    true = Tryz.pinned.checked.prog.looks [] ∧ ∀ (j : Nat) t, fn.params[j]? = some t → Tryz.pinned.checked.prog.wantsStandIn t = false := by
  obtain rfl : f = 4 := Option.some.inj ((show Tryz.prog.funcNamed "stemma/stemmalaw20.ChunksOpens" = some 4 by kernel_rfl).symm.trans hf) |>.symm
  obtain rfl : fn = Tryz.f4 := (Option.some.inj (Tryz.func4.symm.trans hfn)).symm
  refine ⟨by kernel_rfl, fun j t ht => ?_⟩
  rw [Tryz.params4] at ht
  have hm : t ∈ [3, 40, 3] := by simpa using Array.mem_of_getElem? ht
  have hall : ([3, 40, 3].all fun u => !Tryz.prog.wantsStandIn u) = true := by kernel_rfl
  exact (show Tryz.prog.wantsStandIn t = false by simpa using List.all_eq_true.1 hall t hm)
theorem proved : Rows.ChunksOpensCardSaid :=
  Claim7.holds_tied_plain_at .later [] _ _ _ _ over (fun _ h => by cases h) (by kernel_rfl) (fun _ h => by cases h) chunksOpens_row_tie rfl ⟨rfl, rfl⟩ (by kernel_rfl) rfl looks (by kernel_rfl)
end Go.Proofs.YtlmfpocifkpggaaGreatDoor.chunksOpens
