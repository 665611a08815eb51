import Derived.Test.YtjbfgmkemideiaaProg
import Derived.Test.YtjbfgmkemideiaaE5
set_option linter.unusedVariables false
set_option linter.unusedSimpArgs false
set_option maxRecDepth 100000
set_option maxHeartbeats 4000000
namespace Go.Proofs.Eng
open Go.RowKit
open Extern.Stop (cell)
theorem mixed : Try.prog.follows .mixedOrders = true := by kernel_rfl
theorem eg35 : Try.prog.eqGuardType Try.prog.depth 35 = false := by kernel_rfl
theorem fb100 : Try.f100.body.isNone = false := by kernel_rfl
theorem fb122 : Try.f122.body.isNone = false := by kernel_rfl
theorem fb123 : Try.f123.body.isNone = false := by kernel_rfl
theorem fb31 : Try.f31.body.isNone = false := by kernel_rfl
theorem fb32 : Try.f32.body.isNone = false := by kernel_rfl
theorem fb33 : Try.f33.body.isNone = false := by kernel_rfl
theorem fb34 : Try.f34.body.isNone = false := by kernel_rfl
theorem fb35 : Try.f35.body.isNone = false := by kernel_rfl
theorem fb36 : Try.f36.body.isNone = false := by kernel_rfl
theorem fb37 : Try.f37.body.isNone = false := by kernel_rfl
theorem fb38 : Try.f38.body.isNone = false := by kernel_rfl
theorem fb39 : Try.f39.body.isNone = false := by kernel_rfl
theorem fb40 : Try.f40.body.isNone = false := by kernel_rfl
theorem fb41 : Try.f41.body.isNone = false := by kernel_rfl
theorem fb42 : Try.f42.body.isNone = false := by kernel_rfl
theorem fb43 : Try.f43.body.isNone = false := by kernel_rfl
theorem fb44 : Try.f44.body.isNone = false := by kernel_rfl
theorem fb45 : Try.f45.body.isNone = false := by kernel_rfl
theorem fb46 : Try.f46.body.isNone = false := by kernel_rfl
theorem fb47 : Try.f47.body.isNone = false := by kernel_rfl
theorem fb48 : Try.f48.body.isNone = false := by kernel_rfl
theorem fb74 : Try.f74.body.isNone = false := by kernel_rfl
theorem fb82 : Try.f82.body.isNone = false := by kernel_rfl
theorem fb88 : Try.f88.body.isNone = false := by kernel_rfl
theorem fb89 : Try.f89.body.isNone = false := by kernel_rfl
theorem fb90 : Try.f90.body.isNone = false := by kernel_rfl
theorem fb92 : Try.f92.body.isNone = false := by kernel_rfl
theorem fb93 : Try.f93.body.isNone = false := by kernel_rfl
theorem fb94 : Try.f94.body.isNone = false := by kernel_rfl
theorem fb95 : Try.f95.body.isNone = false := by kernel_rfl
theorem fb96 : Try.f96.body.isNone = false := by kernel_rfl
theorem fb97 : Try.f97.body.isNone = false := by kernel_rfl
theorem fb98 : Try.f98.body.isNone = false := by kernel_rfl
theorem fb99 : Try.f99.body.isNone = false := by kernel_rfl
theorem fn100 : (Try.f100.name == "runtime.NumGoroutine") = false := by kernel_rfl
theorem fn122 : (Try.f122.name == "runtime.NumGoroutine") = false := by kernel_rfl
theorem fn123 : (Try.f123.name == "runtime.NumGoroutine") = false := by kernel_rfl
theorem fn31 : (Try.f31.name == "runtime.NumGoroutine") = false := by kernel_rfl
theorem fn32 : (Try.f32.name == "runtime.NumGoroutine") = false := by kernel_rfl
theorem fn33 : (Try.f33.name == "runtime.NumGoroutine") = false := by kernel_rfl
theorem fn34 : (Try.f34.name == "runtime.NumGoroutine") = false := by kernel_rfl
theorem fn35 : (Try.f35.name == "runtime.NumGoroutine") = false := by kernel_rfl
theorem fn36 : (Try.f36.name == "runtime.NumGoroutine") = false := by kernel_rfl
theorem fn37 : (Try.f37.name == "runtime.NumGoroutine") = false := by kernel_rfl
theorem fn38 : (Try.f38.name == "runtime.NumGoroutine") = false := by kernel_rfl
theorem fn39 : (Try.f39.name == "runtime.NumGoroutine") = false := by kernel_rfl
theorem fn40 : (Try.f40.name == "runtime.NumGoroutine") = false := by kernel_rfl
theorem fn41 : (Try.f41.name == "runtime.NumGoroutine") = false := by kernel_rfl
theorem fn42 : (Try.f42.name == "runtime.NumGoroutine") = false := by kernel_rfl
theorem fn43 : (Try.f43.name == "runtime.NumGoroutine") = false := by kernel_rfl
theorem fn44 : (Try.f44.name == "runtime.NumGoroutine") = false := by kernel_rfl
theorem fn45 : (Try.f45.name == "runtime.NumGoroutine") = false := by kernel_rfl
theorem fn46 : (Try.f46.name == "runtime.NumGoroutine") = false := by kernel_rfl
theorem fn47 : (Try.f47.name == "runtime.NumGoroutine") = false := by kernel_rfl
theorem fn48 : (Try.f48.name == "runtime.NumGoroutine") = false := by kernel_rfl
theorem fn74 : (Try.f74.name == "runtime.NumGoroutine") = false := by kernel_rfl
theorem fn82 : (Try.f82.name == "runtime.NumGoroutine") = false := by kernel_rfl
theorem fn88 : (Try.f88.name == "runtime.NumGoroutine") = false := by kernel_rfl
theorem fn89 : (Try.f89.name == "runtime.NumGoroutine") = false := by kernel_rfl
theorem fn90 : (Try.f90.name == "runtime.NumGoroutine") = false := by kernel_rfl
theorem fn92 : (Try.f92.name == "runtime.NumGoroutine") = false := by kernel_rfl
theorem fn93 : (Try.f93.name == "runtime.NumGoroutine") = false := by kernel_rfl
theorem fn94 : (Try.f94.name == "runtime.NumGoroutine") = false := by kernel_rfl
theorem fn95 : (Try.f95.name == "runtime.NumGoroutine") = false := by kernel_rfl
theorem fn96 : (Try.f96.name == "runtime.NumGoroutine") = false := by kernel_rfl
theorem fn97 : (Try.f97.name == "runtime.NumGoroutine") = false := by kernel_rfl
theorem fn98 : (Try.f98.name == "runtime.NumGoroutine") = false := by kernel_rfl
theorem fn99 : (Try.f99.name == "runtime.NumGoroutine") = false := by kernel_rfl
theorem inf35 : (Try.prog.info? 35).map (fun i => (i.zero, i.size, i.bytes)) = some (some (.agg #[.int .u8 0, .int .u8 0, .int .u8 0, .int .u8 0, .int .u8 0, .int .u8 0, .int .u8 0, .int .u8 0, .int .u8 0, .int .u8 0, .int .u8 0, .int .u8 0, .int .u8 0, .int .u8 0, .int .u8 0, .int .u8 0, .int .u8 0, .int .u8 0, .int .u8 0, .int .u8 0, .int .u8 0, .int .u8 0, .int .u8 0, .int .u8 0, .int .u8 0, .int .u8 0, .int .u8 0, .int .u8 0, .int .u8 0, .int .u8 0, .int .u8 0, .int .u8 0]), 32, 32) := by kernel_rfl
theorem inf5 : (Try.prog.info? 5).map (fun i => (i.zero, i.size, i.bytes)) = some (some (.int .u8 0), 1, 1) := by kernel_rfl
theorem sz35 : (Try.prog.info? 35).map (·.size) = some 32 := by kernel_rfl
theorem sz5 : (Try.prog.info? 5).map (·.size) = some 1 := by kernel_rfl
theorem u137 : Try.prog.underlying 137 = some (.int .u64) := by kernel_rfl
theorem u22 : Try.prog.underlying 22 = some (.slice 5) := by kernel_rfl
theorem u3 : Try.prog.underlying 3 = some (.int .i64) := by kernel_rfl
theorem u31 : Try.prog.underlying 31 = some (.slice 35) := by kernel_rfl
theorem u35 : Try.prog.underlying 35 = some (.array 32 5) := by kernel_rfl
theorem u4 : Try.prog.underlying 4 = some (.bool) := by kernel_rfl
theorem u5 : Try.prog.underlying 5 = some (.int .u8) := by kernel_rfl
theorem u9 : Try.prog.underlying 9 = some (.string) := by kernel_rfl
theorem u95 : Try.prog.underlying 95 = some (.int .u64) := by kernel_rfl
theorem ua35 : (Try.prog.underlying 35).map TypeDesc.isRow = some true := by kernel_rfl
theorem un5 : (Try.prog.underlying 5).map TypeDesc.isRow = some false := by kernel_rfl
theorem us3 : (Try.prog.underlying 3).isSome = true := by kernel_rfl
theorem us5 : (Try.prog.underlying 5).isSome = true := by kernel_rfl
theorem us95 : (Try.prog.underlying 95).isSome = true := by kernel_rfl
theorem zr35 : (Try.prog.info? 35).map (·.zero) = some (some (.agg #[.int .u8 0, .int .u8 0, .int .u8 0, .int .u8 0, .int .u8 0, .int .u8 0, .int .u8 0, .int .u8 0, .int .u8 0, .int .u8 0, .int .u8 0, .int .u8 0, .int .u8 0, .int .u8 0, .int .u8 0, .int .u8 0, .int .u8 0, .int .u8 0, .int .u8 0, .int .u8 0, .int .u8 0, .int .u8 0, .int .u8 0, .int .u8 0, .int .u8 0, .int .u8 0, .int .u8 0, .int .u8 0, .int .u8 0, .int .u8 0, .int .u8 0, .int .u8 0])) := by kernel_rfl
end Go.Proofs.Eng
