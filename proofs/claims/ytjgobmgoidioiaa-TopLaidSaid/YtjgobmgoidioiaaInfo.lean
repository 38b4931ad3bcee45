/-
  What is known of types.
-/
import Derived.Test.YtjgobmgoidioiaaOnly
import Derived.Test.YtjgobmgoidioiaaMake
import Derived.Lib.LazyBuf
namespace Go.Proofs.Ytjgobmgoidioiaa
open Go.RowKit

theorem infoU8 : (Try.prog.info? 5).map (fun i => (i.zero, i.size, i.bytes)) = some (some (.int .u8 0), 1, 1) := by kernel_rfl
end Go.Proofs.Ytjgobmgoidioiaa
