/-
  What is known of types.
-/
import Derived.Test.YtemfdkoipeedeaaOnly
import Derived.Test.YtemfdkoipeedeaaMake
import Derived.Lib.LazyBuf
namespace Go.Proofs.Ytemfdkoipeedeaa
set_option linter.unusedSimpArgs false
set_option linter.unusedVariables false
set_option maxRecDepth 10000
open Go.RowKit

theorem infoU8 : (Try.prog.info? 5).map (fun i => (i.zero, i.size, i.bytes)) = some (some (.int .u8 0), 1, 1) := by kernel_rfl
end Go.Proofs.Ytemfdkoipeedeaa
