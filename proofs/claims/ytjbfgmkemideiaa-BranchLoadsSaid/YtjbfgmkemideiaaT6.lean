import Derived.Test.YtjbfgmkemideiaaT5
import Derived.Test.YtjbfgmkemideiaaE6
set_option linter.unusedVariables false
set_option linter.unusedSimpArgs false
set_option maxRecDepth 100000
set_option maxHeartbeats 4000000
namespace Go.Proofs.Eng
open Go.RowKit
open Extern.Stop (cell)
theorem fb105 : Try.f105.body.isNone = false := by kernel_rfl
theorem fn105 : (Try.f105.name == "runtime.NumGoroutine") = false := by kernel_rfl
theorem zr74 : (Try.prog.info? 74).map (·.zero) = some (some (.agg #[.int .u8 0, .string ByteArray.empty, .slice none 0 0])) := by kernel_rfl
end Go.Proofs.Eng
