import Derived.Test.YtjbfgmkemideiaaT0
set_option linter.unusedVariables false
set_option linter.unusedSimpArgs false
set_option maxRecDepth 100000
set_option maxHeartbeats 4000000
namespace Go.Proofs.Eng
open Go.RowKit
open Extern.Stop (cell)
theorem fb106 : Try.f106.body.isNone = false := by kernel_rfl
theorem fb107 : Try.f107.body.isNone = false := by kernel_rfl
theorem fb126 : Try.f126.body.isNone = false := by kernel_rfl
theorem fb127 : Try.f127.body.isNone = false := by kernel_rfl
theorem fb56 : Try.f56.body.isNone = false := by kernel_rfl
theorem fb57 : Try.f57.body.isNone = false := by kernel_rfl
theorem fb58 : Try.f58.body.isNone = false := by kernel_rfl
theorem fb59 : Try.f59.body.isNone = false := by kernel_rfl
theorem fb60 : Try.f60.body.isNone = false := by kernel_rfl
theorem fb61 : Try.f61.body.isNone = false := by kernel_rfl
theorem fn106 : (Try.f106.name == "runtime.NumGoroutine") = false := by kernel_rfl
theorem fn107 : (Try.f107.name == "runtime.NumGoroutine") = false := by kernel_rfl
theorem fn126 : (Try.f126.name == "runtime.NumGoroutine") = false := by kernel_rfl
theorem fn127 : (Try.f127.name == "runtime.NumGoroutine") = false := by kernel_rfl
theorem fn56 : (Try.f56.name == "runtime.NumGoroutine") = false := by kernel_rfl
theorem fn57 : (Try.f57.name == "runtime.NumGoroutine") = false := by kernel_rfl
theorem fn58 : (Try.f58.name == "runtime.NumGoroutine") = false := by kernel_rfl
theorem fn59 : (Try.f59.name == "runtime.NumGoroutine") = false := by kernel_rfl
theorem fn60 : (Try.f60.name == "runtime.NumGoroutine") = false := by kernel_rfl
theorem fn61 : (Try.f61.name == "runtime.NumGoroutine") = false := by kernel_rfl
theorem inf31 : (Try.prog.info? 31).map (fun i => (i.zero, i.size, i.bytes)) = some (some (.slice none 0 0), 1, 24) := by kernel_rfl
theorem sz31 : (Try.prog.info? 31).map (·.size) = some 1 := by kernel_rfl
theorem u151 : Try.prog.underlying 151 = some (.slice 31) := by kernel_rfl
theorem u153 : Try.prog.underlying 153 = some (.map 35 4) := by kernel_rfl
theorem un31 : (Try.prog.underlying 31).map TypeDesc.isRow = some false := by kernel_rfl
theorem zr4 : (Try.prog.info? 4).map (·.zero) = some (some (.bool false)) := by kernel_rfl
end Go.Proofs.Eng
