/- The law ChunksCrash answers true, and its arguments read behind the call as they did before, where the listed package variables start as the program lays them. -/
import Derived.Test.YtlmfpocifkpggaaGreatDoorRows
import Derived.Test.YtlmfpocifkpggaaGreatDoorCards
import Derived.Test.YtlmfpocifkpggaaGreatDoorTie
import Derived.Test.YtlmfpocifkpggaaGreatDoorCr6
import Derived.Deep.DeepHandedRow
import Derived.Deep.DeepWitnessRowRef
import Derived.LaidMore
import Derived.SevenTiedAt
namespace Go.Proofs.YtlmfpocifkpggaaGreatDoor.chunksCrash
open Go.ChangeShapes Go.WideShapes Go.ChangeAt Go.RowKit Go.ChangeMaps Go.Proofs.Eng
set_option linter.unusedVariables false
set_option maxRecDepth 10000
theorem own : ownKnob Tryz.prog.godebug = none := by kernel_rfl
theorem Adz : laidOutB Tryz.prog = true := by kernel_rfl
theorem plain : H0 Tryz.prog Tryz.f8.params.toList = true := by kernel_rfl
theorem resT : Tryz.f8.resultTypes = #[4] := by kernel_rfl
theorem fnd {H : Type} (d0 d1 : DataW H) : (Rows.chunksCrashSpec.fn H ([d0, d1] ++ [])).results = [.lit (.bool true)] ∧ (Rows.chunksCrashSpec.fn H ([d0, d1] ++ [])).args = [d0, d1] ∧ (Rows.chunksCrashSpec.fn H ([d0, d1] ++ [])).vars = [] := ⟨rfl, rfl, rfl⟩
theorem Acl (H : Type) (enc : TypeId × Value → H) (W : World) (base : Nat) (args : Array Value) (ds gs : List (DataW H)) (before : List MemPlace)
    (hval : ∀ (j : Nat) t v, Tryz.f8.params[j]? = some t → args[j]? = some v → Value.okWide Tryz.prog W .any base t v)
    (hW : DataW.Whole enc Tryz.prog Tryz.f8.params.toList Rows.chunksCrashSpec.vars false W args.toList ds gs before) (hL : laidMetH Tryz.prog Rows.chunksCrashRow.laid W) :
    Calls Tryz.prog 8 args W fun e W' => ∃ v, e = .returned v ∧ Rows.chunksCrashSpec.post enc Tryz.prog Tryz.f8 false true false false W args v W' := by
  have hW' := hW
  obtain ⟨p, q, hA0, hV, rfl, hfz, hnd⟩ := hW
  have hA : DataW.TrodAll enc Tryz.prog W 0 (fun _ => true) true Tryz.f8.params.toList args.toList ds p := hA0
  rw [Tryz.params8] at hA hval
  obtain ⟨v0, vs0, d0, ds0, p0, q0, hargs, rfl, rfl, h0, r0⟩ := trodAll_cons hA
  obtain ⟨v1, vs1, d1, ds1, p1, q1, rfl, rfl, rfl, h1, r1⟩ := trodAll_cons r0
  obtain ⟨rfl, rfl, rfl⟩ := trodAll_nil r1
  obtain rfl : args = #[v0, v1] := by cases args; simp_all
  obtain ⟨rfl, rfl⟩ := trodVars_none hV
  obtain ⟨pp0, n0, c0, x0, rfl, hs0, hc0, hd0⟩ := Aek (k := kSl kByte 5) Tryz.underlying22 (by kernel_rfl) (Sx Tryz.underlying23 Tryz.underlying5 (by kernel_rfl)) (hval 0 22 v0 (by simp) (by simp)) h0
  obtain ⟨pp1, n1, c1, x1, rfl, hs1, hc1, hd1⟩ := Afw (k := kCA) Tryz.underlying27 (by kernel_rfl) (Aba Tryz.underlying26 Tryz.underlying5 Tryz.underlying23 Tryz.underlying23 Tryz.underlying3 Tryz.underlying4 Tryz.underlying23 rfl rfl rfl rfl rfl rfl (by kernel_rfl) (by kernel_rfl) (by kernel_rfl) (by kernel_rfl) (by kernel_rfl) (by kernel_rfl) (by kernel_rfl) (by kernel_rfl) (by kernel_rfl) (by kernel_rfl) (H1 Tryz.underlying5) (H1 Tryz.underlying5) (H1 Tryz.underlying5)) (hval 1 27 v1 (by simp) (by simp)) h1
  clear hA0
  have hw : Ret Tryz.prog 8 _ W (fun v w' => v = .bool true ∧ Ext W w') := Nh x0 pp0 pp1 n0 c0 n1 c1 W (Afd hs0) x1 hs1 (Pi hL)
  refine Calls.mono hw.out ?_
  rintro e W' ⟨v, rfl, rfl, hx⟩
  exact ⟨_, rfl, Aa7 Adz plain rfl hW' hx resT Tryz.underlying4 (fun _ => fnd _ _)⟩
theorem Abt (os : Os) : laidMet Tryz.prog Rows.chunksCrashRow.laid ((World.doorLaid Tryz.prog 77 os).forCall (fun _ _ => 0) ⟨#[], #[.slice none 0 0, .slice none 0 0], []⟩).memory :=
  laidMet_of_run' 8 (by kernel_rfl) (by kernel_rfl)
theorem reads (os : Os) {H : Type} (enc : TypeId × Value → H) : ∃ places, DataW.whole enc Tryz.prog ((World.doorLaid Tryz.prog 77 os).forCall (fun _ _ => 0) ⟨#[], #[.slice none 0 0, .slice none 0 0], []⟩).memory Tryz.f8.params.toList Rows.chunksCrashSpec.vars false (#[.slice none 0 0, .slice none 0 0] : Array Value).toList 8 = some ([.nil, .nil], [], places) :=
  ⟨[], by kernel_rfl⟩
set_option maxRecDepth 100000 in
theorem Afe (os : Os) (started : os.Started) (H : Type) (enc : TypeId × Value → H) (F : Stop.Interp) :
    ReturnsInHanded {} Tryz.checked os 8 .any ((OpenSpec.ofChange Rows.chunksCrashSpec).preRow enc Tryz.prog Tryz.f8 Rows.chunksCrashRow.domain false Rows.chunksCrashRow.laid) (((OpenSpec.ofChange Rows.chunksCrashSpec).at F).post enc Tryz.prog Tryz.f8 false true false false) := by
  obtain ⟨places, hx⟩ := reads os enc
  refine returnsInHanded_of_row (C := Tryz.checked) (s := OpenSpec.ofChange Rows.chunksCrashSpec) own started (by kernel_rfl) Tryz.func8
    (witness_row_atRef (enc := enc) (C := Tryz.checked) false (World.doorLaid Tryz.prog 77 os) #[.slice none 0 0, .slice none 0 0] rfl (by kernel_rfl) (by kernel_rfl) (by kernel_rfl)
      (OpenSpec.preRow_of_cond 8 hx (by kernel_rfl) (fun k hk => by cases hk) (by kernel_rfl) (Abt os))) ?_
  intro W base args ds gs before hval hW _ hcond _ hL _ _
  exact Acl H enc W base args ds gs before hval hW hL
theorem over : Rows.chunksCrashRow.holds Tryz.pinned (OpenSpec.ofChange Rows.chunksCrashSpec) :=
  OpenClaim.holds_of_cond 8 Tryz.f8 rfl rfl rfl rfl rfl rfl rfl ⟨rfl, rfl, rfl, rfl, rfl⟩ rfl rfl rfl rfl rfl (by kernel_rfl) Tryz.func8 (by kernel_rfl)
    (of_decide_eq_true (by kernel_rfl)) (by unfold Func.isWrapper; first | (rw [if_pos (by decide +kernel)]; kernel_rfl) | (rw [if_neg (by decide +kernel)]; exact ⟨rfl, rfl⟩))
    (fun os started H enc _ F => by rw [OpenClaim.pre_eq_preRow]; exact Afe os started H enc F)
theorem looks (f : FuncId) (fn : Func) (hf : Tryz.pinned.checked.prog.funcNamed "stemma/stemmalaw20.ChunksCrash" = some f) (hfn : Tryz.pinned.checked.prog.funcs[f]? = some fn) :
    true = Tryz.pinned.checked.prog.looks [] ∧ ∀ (j : Nat) t, fn.params[j]? = some t → Tryz.pinned.checked.prog.wantsStandIn t = false := by
  obtain rfl : f = 8 := Option.some.inj ((show Tryz.prog.funcNamed "stemma/stemmalaw20.ChunksCrash" = some 8 by kernel_rfl).symm.trans hf) |>.symm
  obtain rfl : fn = Tryz.f8 := (Option.some.inj (Tryz.func8.symm.trans hfn)).symm
  refine ⟨by kernel_rfl, fun j t ht => ?_⟩
  rw [Tryz.params8] at ht
  have hm : t ∈ [22, 27] := by simpa using Array.mem_of_getElem? ht
  have hall : ([22, 27].all fun u => !Tryz.prog.wantsStandIn u) = true := by kernel_rfl
  exact (show Tryz.prog.wantsStandIn t = false by simpa using List.all_eq_true.1 hall t hm)
theorem proved : Rows.ChunksCrashCardSaid :=
  Claim7.holds_tied_plain_at .later [] _ _ _ _ over (fun _ h => by cases h) (by kernel_rfl) (fun _ h => by cases h) chunksCrash_row_tie rfl ⟨rfl, rfl⟩ (by kernel_rfl) rfl looks (by kernel_rfl)
end Go.Proofs.YtlmfpocifkpggaaGreatDoor.chunksCrash
