/- The law ChunksCompacts answers true, and its arguments read behind the call as they did before, where the listed package variables start as the program lays them. -/
import Derived.Test.YtlmfpocifkpggaaGreatDoorRows
import Derived.Test.YtlmfpocifkpggaaGreatDoorCards
import Derived.Test.YtlmfpocifkpggaaGreatDoorTie
import Derived.Test.YtlmfpocifkpggaaGreatDoorCo6
import Derived.Deep.DeepHandedRow
import Derived.Deep.DeepWitnessRowRef
import Derived.LaidMore
import Derived.SevenTiedAt
namespace Go.Proofs.YtlmfpocifkpggaaGreatDoor.chunksCompacts
open Go.ChangeShapes Go.WideShapes Go.ChangeAt Go.RowKit Go.ChangeMaps Go.Proofs.Eng
set_option linter.unusedVariables false
set_option maxRecDepth 10000
theorem own : ownKnob Tryz.prog.godebug = none := by kernel_rfl
theorem Acp : laidOutB Tryz.prog = true := by kernel_rfl
theorem plain : Hu Tryz.prog Tryz.f6.params.toList = true := by kernel_rfl
theorem resT : Tryz.f6.resultTypes = #[4] := by kernel_rfl
theorem fnd {H : Type} (d0 d1 d2 : DataW H) : (Rows.chunksCompactsSpec.fn H ([d0, d1, d2] ++ [])).results = [.lit (.bool true)] ∧ (Rows.chunksCompactsSpec.fn H ([d0, d1, d2] ++ [])).args = [d0, d1, d2] ∧ (Rows.chunksCompactsSpec.fn H ([d0, d1, d2] ++ [])).vars = [] := ⟨rfl, rfl, rfl⟩
theorem Abb (H : Type) (enc : TypeId × Value → H) (W : World) (base : Nat) (args : Array Value) (ds gs : List (DataW H)) (before : List MemPlace)
    (hval : ∀ (j : Nat) t v, Tryz.f6.params[j]? = some t → args[j]? = some v → Value.okWide Tryz.prog W .any base t v)
    (hW : DataW.Whole enc Tryz.prog Tryz.f6.params.toList Rows.chunksCompactsSpec.vars false W args.toList ds gs before) (hL : laidMetH Tryz.prog Rows.chunksCompactsRow.laid W) :
    Calls Tryz.prog 6 args W fun e W' => ∃ v, e = .returned v ∧ Rows.chunksCompactsSpec.post enc Tryz.prog Tryz.f6 false true false false W args v W' := by
  have hW' := hW
  obtain ⟨p, q, hA0, hV, rfl, hfz, hnd⟩ := hW
  have hA : DataW.TrodAll enc Tryz.prog W 0 (fun _ => true) true Tryz.f6.params.toList args.toList ds p := hA0
  rw [Tryz.params6] at hA hval
  obtain ⟨v0, vs0, d0, ds0, p0, q0, hargs, rfl, rfl, h0, r0⟩ := trodAll_cons hA
  obtain ⟨v1, vs1, d1, ds1, p1, q1, rfl, rfl, rfl, h1, r1⟩ := trodAll_cons r0
  obtain ⟨v2, vs2, d2, ds2, p2, q2, rfl, rfl, rfl, h2, r2⟩ := trodAll_cons r1
  obtain ⟨rfl, rfl, rfl⟩ := trodAll_nil r2
  obtain rfl : args = #[v0, v1, v2] := by cases args; simp_all
  obtain ⟨rfl, rfl⟩ := trodVars_none hV
  obtain ⟨pp0, n0, c0, x0, rfl, hs0, hc0, hd0⟩ := Xn (k := kSl kByte 5) Tryz.underlying22 (by kernel_rfl) (Rv Tryz.underlying23 Tryz.underlying5 (by kernel_rfl)) (hval 0 22 v0 (by simp) (by simp)) h0
  obtain ⟨pp1, n1, c1, x1, rfl, hs1, hc1, hd1⟩ := Aen (k := kCA) Tryz.underlying27 (by kernel_rfl) (Z1 Tryz.underlying26 Tryz.underlying5 Tryz.underlying23 Tryz.underlying23 Tryz.underlying3 Tryz.underlying4 Tryz.underlying23 rfl rfl rfl rfl rfl rfl (by kernel_rfl) (by kernel_rfl) (by kernel_rfl) (by kernel_rfl) (by kernel_rfl) (by kernel_rfl) (by kernel_rfl) (by kernel_rfl) (by kernel_rfl) (by kernel_rfl) (Gh Tryz.underlying5) (Gh Tryz.underlying5) (Gh Tryz.underlying5)) (hval 1 27 v1 (by simp) (by simp)) h1
  obtain ⟨pp2, n2, c2, x2, rfl, hs2, hc2, hd2⟩ := Xn (k := kByte) Tryz.underlying23 (by kernel_rfl) (Ol (Gh Tryz.underlying5)) (hval 2 23 v2 (by simp) (by simp)) h2
  clear hA0
  have hw : Ret Tryz.prog 6 _ W (fun v w' => v = .bool true ∧ Ext W w') := Ka x0 pp0 pp1 pp2 n0 c0 n1 c1 n2 c2 W (Ad5 hs0) x1 hs1 x2 (R6 hs2) (K5 hL)
  refine Calls.mono hw.out ?_
  rintro e W' ⟨v, rfl, rfl, hx⟩
  exact ⟨_, rfl, Zz Acp plain rfl hW' hx resT Tryz.underlying4 (fun _ => fnd _ _ _)⟩
theorem Aak (os : Os) : laidMet Tryz.prog Rows.chunksCompactsRow.laid ((World.doorLaid Tryz.prog 77 os).forCall (fun _ _ => 0) ⟨#[], #[.slice none 0 0, .slice none 0 0, .slice none 0 0], []⟩).memory :=
  laidMet_of_run' 8 (by kernel_rfl) (by kernel_rfl)
theorem reads (os : Os) {H : Type} (enc : TypeId × Value → H) : ∃ places, DataW.whole enc Tryz.prog ((World.doorLaid Tryz.prog 77 os).forCall (fun _ _ => 0) ⟨#[], #[.slice none 0 0, .slice none 0 0, .slice none 0 0], []⟩).memory Tryz.f6.params.toList Rows.chunksCompactsSpec.vars false (#[.slice none 0 0, .slice none 0 0, .slice none 0 0] : Array Value).toList 8 = some ([.nil, .nil, .nil], [], places) :=
  ⟨[], by kernel_rfl⟩
set_option maxRecDepth 100000 in
theorem Ad6 (os : Os) (started : os.Started) (H : Type) (enc : TypeId × Value → H) (F : Stop.Interp) :
    ReturnsInHanded {} Tryz.checked os 6 .any ((OpenSpec.ofChange Rows.chunksCompactsSpec).preRow enc Tryz.prog Tryz.f6 Rows.chunksCompactsRow.domain false Rows.chunksCompactsRow.laid) (((OpenSpec.ofChange Rows.chunksCompactsSpec).at F).post enc Tryz.prog Tryz.f6 false true false false) := by
  obtain ⟨places, hx⟩ := reads os enc
  refine returnsInHanded_of_row (C := Tryz.checked) (s := OpenSpec.ofChange Rows.chunksCompactsSpec) own started (by kernel_rfl) Tryz.func6
    (witness_row_atRef (enc := enc) (C := Tryz.checked) false (World.doorLaid Tryz.prog 77 os) #[.slice none 0 0, .slice none 0 0, .slice none 0 0] rfl (by kernel_rfl) (by kernel_rfl) (by kernel_rfl)
      (OpenSpec.preRow_of_cond 8 hx (by kernel_rfl) (fun k hk => by cases hk) (by kernel_rfl) (Aak os))) ?_
  intro W base args ds gs before hval hW _ hcond _ hL _ _
  exact Abb H enc W base args ds gs before hval hW hL
theorem over : Rows.chunksCompactsRow.holds Tryz.pinned (OpenSpec.ofChange Rows.chunksCompactsSpec) :=
  OpenClaim.holds_of_cond 6 Tryz.f6 rfl rfl rfl rfl rfl rfl rfl ⟨rfl, rfl, rfl, rfl, rfl⟩ rfl rfl rfl rfl rfl (by kernel_rfl) Tryz.func6 (by kernel_rfl)
    (of_decide_eq_true (by kernel_rfl)) (by unfold Func.isWrapper; first | (rw [if_pos (by decide +kernel)]; kernel_rfl) | (rw [if_neg (by decide +kernel)]; exact ⟨rfl, rfl⟩))
    (fun os started H enc _ F => by rw [OpenClaim.pre_eq_preRow]; exact Ad6 os started H enc F)
theorem looks (f : FuncId) (fn : Func) (hf : Tryz.pinned.checked.prog.funcNamed "stemma/stemmalaw20.ChunksCompacts" = some f) (hfn : Tryz.pinned.checked.prog.funcs[f]? = some fn) :
    true = Tryz.pinned.checked.prog.looks [] ∧ ∀ (j : Nat) t, fn.params[j]? = some t → Tryz.pinned.checked.prog.wantsStandIn t = false := by
  obtain rfl : f = 6 := Option.some.inj ((show Tryz.prog.funcNamed "stemma/stemmalaw20.ChunksCompacts" = some 6 by kernel_rfl).symm.trans hf) |>.symm
  obtain rfl : fn = Tryz.f6 := (Option.some.inj (Tryz.func6.symm.trans hfn)).symm
  refine ⟨by kernel_rfl, fun j t ht => ?_⟩
  rw [Tryz.params6] at ht
  have hm : t ∈ [22, 27, 23] := by simpa using Array.mem_of_getElem? ht
  have hall : ([22, 27, 23].all fun u => !Tryz.prog.wantsStandIn u) = true := by kernel_rfl
  exact (show Tryz.prog.wantsStandIn t = false by simpa using List.all_eq_true.1 hall t hm)
theorem proved : Rows.ChunksCompactsCardSaid :=
  Claim7.holds_tied_plain_at .later [] _ _ _ _ over (fun _ h => by cases h) (by kernel_rfl) (fun _ h => by cases h) chunksCompacts_row_tie rfl ⟨rfl, rfl⟩ (by kernel_rfl) rfl looks (by kernel_rfl)
end Go.Proofs.YtlmfpocifkpggaaGreatDoor.chunksCompacts
