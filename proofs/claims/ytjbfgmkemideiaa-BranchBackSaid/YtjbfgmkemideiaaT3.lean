import Derived.Test.YtjbfgmkemideiaaT2
import Derived.Test.YtjbfgmkemideiaaE6
set_option linter.unusedVariables false
set_option linter.unusedSimpArgs false
set_option maxRecDepth 100000
set_option maxHeartbeats 4000000
namespace Go.Proofs.Eng
open Go.RowKit
open Extern.Stop (cell)
theorem fb103 : Try.f103.body.isNone = false := by kernel_rfl
theorem fb112 : Try.f112.body.isNone = false := by kernel_rfl
theorem fb113 : Try.f113.body.isNone = false := by kernel_rfl
theorem fn103 : (Try.f103.name == "runtime.NumGoroutine") = false := by kernel_rfl
theorem fn112 : (Try.f112.name == "runtime.NumGoroutine") = false := by kernel_rfl
theorem fn113 : (Try.f113.name == "runtime.NumGoroutine") = false := by kernel_rfl
theorem ua81 : (Try.prog.underlying 81).map TypeDesc.isRow = some true := by kernel_rfl
theorem zr81 : (Try.prog.info? 81).map (·.zero) = some (some (.agg #[.string ByteArray.empty, .slice none 0 0])) := by kernel_rfl
end Go.Proofs.Eng
