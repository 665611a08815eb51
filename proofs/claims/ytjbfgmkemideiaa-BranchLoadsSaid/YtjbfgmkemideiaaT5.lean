import Derived.Test.YtjbfgmkemideiaaT4
import Derived.Test.YtjbfgmkemideiaaE6
set_option linter.unusedVariables false
set_option linter.unusedSimpArgs false
set_option maxRecDepth 100000
set_option maxHeartbeats 4000000
namespace Go.Proofs.Eng
open Go.RowKit
open Extern.Stop (cell)
theorem fb49 : Try.f49.body.isNone = false := by kernel_rfl
theorem fb54 : Try.f54.body.isNone = false := by kernel_rfl
theorem fb55 : Try.f55.body.isNone = false := by kernel_rfl
theorem fb62 : Try.f62.body.isNone = false := by kernel_rfl
theorem fb63 : Try.f63.body.isNone = false := by kernel_rfl
theorem fb64 : Try.f64.body.isNone = false := by kernel_rfl
theorem fb65 : Try.f65.body.isNone = false := by kernel_rfl
theorem fn49 : (Try.f49.name == "runtime.NumGoroutine") = false := by kernel_rfl
theorem fn54 : (Try.f54.name == "runtime.NumGoroutine") = false := by kernel_rfl
theorem fn55 : (Try.f55.name == "runtime.NumGoroutine") = false := by kernel_rfl
theorem fn62 : (Try.f62.name == "runtime.NumGoroutine") = false := by kernel_rfl
theorem fn63 : (Try.f63.name == "runtime.NumGoroutine") = false := by kernel_rfl
theorem fn64 : (Try.f64.name == "runtime.NumGoroutine") = false := by kernel_rfl
theorem fn65 : (Try.f65.name == "runtime.NumGoroutine") = false := by kernel_rfl
theorem sz74 : (Try.prog.info? 74).map (·.size) = some 3 := by kernel_rfl
theorem u68 : Try.prog.underlying 68 = some (.slice 74) := by kernel_rfl
theorem ua74 : (Try.prog.underlying 74).map TypeDesc.isRow = some true := by kernel_rfl
end Go.Proofs.Eng
