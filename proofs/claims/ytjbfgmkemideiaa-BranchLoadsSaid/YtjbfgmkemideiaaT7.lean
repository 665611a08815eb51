import Derived.Test.YtjbfgmkemideiaaT6
import Derived.Test.YtjbfgmkemideiaaE6
set_option linter.unusedVariables false
set_option linter.unusedSimpArgs false
set_option maxRecDepth 100000
set_option maxHeartbeats 4000000
namespace Go.Proofs.Eng
open Go.RowKit
open Extern.Stop (cell)
theorem fb67 : Try.f67.body.isNone = false := by kernel_rfl
theorem fb68 : Try.f68.body.isNone = false := by kernel_rfl
theorem fb69 : Try.f69.body.isNone = false := by kernel_rfl
theorem fn67 : (Try.f67.name == "runtime.NumGoroutine") = false := by kernel_rfl
theorem fn68 : (Try.f68.name == "runtime.NumGoroutine") = false := by kernel_rfl
theorem fn69 : (Try.f69.name == "runtime.NumGoroutine") = false := by kernel_rfl
end Go.Proofs.Eng
