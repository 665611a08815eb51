import Derived.Test.YtjbfgmkemideiaaT1
import Derived.Test.YtjbfgmkemideiaaE6
set_option linter.unusedVariables false
set_option linter.unusedSimpArgs false
set_option maxRecDepth 100000
set_option maxHeartbeats 4000000
namespace Go.Proofs.Eng
open Go.RowKit
open Extern.Stop (cell)
theorem fb101 : Try.f101.body.isNone = false := by kernel_rfl
theorem fb102 : Try.f102.body.isNone = false := by kernel_rfl
theorem fb111 : Try.f111.body.isNone = false := by kernel_rfl
theorem fb114 : Try.f114.body.isNone = false := by kernel_rfl
theorem fb115 : Try.f115.body.isNone = false := by kernel_rfl
theorem fb128 : Try.f128.body.isNone = false := by kernel_rfl
theorem fn101 : (Try.f101.name == "runtime.NumGoroutine") = false := by kernel_rfl
theorem fn102 : (Try.f102.name == "runtime.NumGoroutine") = false := by kernel_rfl
theorem fn111 : (Try.f111.name == "runtime.NumGoroutine") = false := by kernel_rfl
theorem fn114 : (Try.f114.name == "runtime.NumGoroutine") = false := by kernel_rfl
theorem fn115 : (Try.f115.name == "runtime.NumGoroutine") = false := by kernel_rfl
theorem fn128 : (Try.f128.name == "runtime.NumGoroutine") = false := by kernel_rfl
theorem fo124_0 : fieldOf Try.prog 124 0 = some (122, 0) := by kernel_rfl
theorem fo70_0 : fieldOf Try.prog 70 0 = some (30, 0) := by kernel_rfl
theorem fo81_0 : fieldOf Try.prog 81 0 = some (9, 0) := by kernel_rfl
theorem fo81_1 : fieldOf Try.prog 81 1 = some (31, 1) := by kernel_rfl
theorem inf81 : (Try.prog.info? 81).map (fun i => (i.zero, i.size, i.bytes)) = some (some (.agg #[.string ByteArray.empty, .slice none 0 0]), 2, 40) := by kernel_rfl
theorem pl124 : placed Try.prog 124 = some (.agg #[.map none], [(0, 1)]) := by kernel_rfl
theorem pl70 : placed Try.prog 70 = some (.agg #[.slice none 0 0], [(0, 1)]) := by kernel_rfl
theorem pl81 : placed Try.prog 81 = some (.agg #[.string ByteArray.empty, .slice none 0 0], [(0, 1), (1, 1)]) := by kernel_rfl
theorem sz122 : (Try.prog.info? 122).map (·.size) = some 1 := by kernel_rfl
theorem sz30 : (Try.prog.info? 30).map (·.size) = some 1 := by kernel_rfl
theorem sz70 : (Try.prog.info? 70).map (·.size) = some 1 := by kernel_rfl
theorem sz81 : (Try.prog.info? 81).map (·.size) = some 2 := by kernel_rfl
theorem sz9 : (Try.prog.info? 9).map (·.size) = some 1 := by kernel_rfl
theorem u122 : Try.prog.underlying 122 = some (.map 9 31) := by kernel_rfl
theorem u30 : Try.prog.underlying 30 = some (.slice 81) := by kernel_rfl
theorem u59 : Try.prog.underlying 59 = some (.pointer 124) := by kernel_rfl
theorem ua70 : (Try.prog.underlying 70).map TypeDesc.isRow = some true := by kernel_rfl
theorem un122 : (Try.prog.underlying 122).map TypeDesc.isRow = some false := by kernel_rfl
theorem un30 : (Try.prog.underlying 30).map TypeDesc.isRow = some false := by kernel_rfl
theorem un9 : (Try.prog.underlying 9).map TypeDesc.isRow = some false := by kernel_rfl
theorem zr31 : (Try.prog.info? 31).map (·.zero) = some (some (.slice none 0 0)) := by kernel_rfl
theorem zr70 : (Try.prog.info? 70).map (·.zero) = some (some (.agg #[.slice none 0 0])) := by kernel_rfl
end Go.Proofs.Eng
