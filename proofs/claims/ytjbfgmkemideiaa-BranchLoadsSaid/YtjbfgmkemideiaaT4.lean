import Derived.Test.YtjbfgmkemideiaaT3
import Derived.Test.YtjbfgmkemideiaaE6
set_option linter.unusedVariables false
set_option linter.unusedSimpArgs false
set_option maxRecDepth 100000
set_option maxHeartbeats 4000000
namespace Go.Proofs.Eng
open Go.RowKit
open Extern.Stop (cell)
theorem fb108 : Try.f108.body.isNone = false := by kernel_rfl
theorem fb109 : Try.f109.body.isNone = false := by kernel_rfl
theorem fb110 : Try.f110.body.isNone = false := by kernel_rfl
theorem fb50 : Try.f50.body.isNone = false := by kernel_rfl
theorem fb51 : Try.f51.body.isNone = false := by kernel_rfl
theorem fb52 : Try.f52.body.isNone = false := by kernel_rfl
theorem fb53 : Try.f53.body.isNone = false := by kernel_rfl
theorem fb66 : Try.f66.body.isNone = false := by kernel_rfl
theorem fb81 : Try.f81.body.isNone = false := by kernel_rfl
theorem fn108 : (Try.f108.name == "runtime.NumGoroutine") = false := by kernel_rfl
theorem fn109 : (Try.f109.name == "runtime.NumGoroutine") = false := by kernel_rfl
theorem fn110 : (Try.f110.name == "runtime.NumGoroutine") = false := by kernel_rfl
theorem fn50 : (Try.f50.name == "runtime.NumGoroutine") = false := by kernel_rfl
theorem fn51 : (Try.f51.name == "runtime.NumGoroutine") = false := by kernel_rfl
theorem fn52 : (Try.f52.name == "runtime.NumGoroutine") = false := by kernel_rfl
theorem fn53 : (Try.f53.name == "runtime.NumGoroutine") = false := by kernel_rfl
theorem fn66 : (Try.f66.name == "runtime.NumGoroutine") = false := by kernel_rfl
theorem fn81 : (Try.f81.name == "runtime.NumGoroutine") = false := by kernel_rfl
theorem fo74_0 : fieldOf Try.prog 74 0 = some (5, 0) := by kernel_rfl
theorem fo74_1 : fieldOf Try.prog 74 1 = some (9, 1) := by kernel_rfl
theorem fo74_2 : fieldOf Try.prog 74 2 = some (31, 2) := by kernel_rfl
end Go.Proofs.Eng
